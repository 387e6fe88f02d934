-- cut down, squeezed and laid together by pack.py (a program of this repository) out of this seat's texts
import Derived.WalkKit
import Derived.MapKept
import Derived.RangeFuncNested
import Derived.RangeFuncBound
import Derived.RangeFuncCalls
import Derived.RangeFuncLeaves
import Derived.Shelf.Abstract
import Derived.Shelf.RegionOpen
import Derived.OwnWalkIn
import Derived.TacticsInMore
import Derived.LoopNIn
import Derived.LoopIn
import Derived.ChangeKeysEq
import Derived.Test.YtiaiecfnpompcaaZN12
import Derived.Test.YtiaiecfnpompcaaZN13
import Derived.Test.YtiaiecfnpompcaaZN14
import Derived.Test.YtiaiecfnpompcaaZN16
import Derived.Test.YtiaiecfnpompcaaZN11
import Derived.Test.YtiaiecfnpompcaaZN2
import Derived.Test.YtiaiecfnpompcaaZN9
import Derived.Test.YtiaiecfnpompcaaZN5
import Derived.Test.YtiaiecfnpompcaaZN8
import Derived.Test.YtiaiecfnpompcaaZN10
import Derived.Test.YtiaiecfnpompcaaZN15
import Derived.Test.YtiaiecfnpompcaaZN4
import Derived.Test.YtiaiecfnpompcaaZN7
import Derived.Test.YtiaiecfnpompcaaZN3
import Derived.Test.YtiaiecfnpompcaaZN6
import Derived.Test.YtiaiecfnpompcaaZN1
namespace Go.Proofs.Ytiaiecfnpompcaa.T
open Go.RowKit Go.Proofs.YtiaiecfnpompcaaW.PrintWords Go.Proofs.YtiaiecfnpompcaaW.PrintLast Go.Proofs.YtiaiecfnpompcaaW.PrintMore
attribute [local go_sem] max2_int min2_int max_two min_two max_three min_three max_four min_four   -- for this text's walks alone
set_option linter.unusedVariables false
set_option linter.unusedSimpArgs false
attribute [local go_sem] wl_100001


set_option maxHeartbeats 80000000 in
set_option maxRecDepth 100000 in
theorem acmelaw12_MillNarrowed.calls (k : Nat) (A0_0 : Option Addr) (c0_0 : Nat) (l0_0 : List (S162)) (A0_1 : Option Addr) (c0_1 : Nat) (l0_1 : List (S94)) (a1 : Int) (a2 : Int) (r : Bool) (w : World) (hr0_0 : Kd.C k162 w A0_0 l0_0.length l0_0) (hc0_0 : l0_0.length ≤ c0_0) (hr0_1 : Kd.C k94 w A0_1 l0_1.length l0_1) (hc0_1 : l0_1.length ≤ c0_1) (h : acmelaw12_MillNarrowed.f k l0_0 l0_1 a1 a2 = some r) :
  Calls Try.prog 13 #[.agg #[.slice A0_0 l0_0.length c0_0, .slice A0_1 l0_1.length c0_1], .int .u8 a1, .int .u8 a2] w fun e w' => e = .returned (.bool r) ∧ Below w.heap.size w w' := by
 have hu113 := Try.underlying113
 have hu58 := Try.underlying58
 have HR0_0 := Aside0.mk hr0_0
 have HC0_0 := Aside0.mk hc0_0
 clear hr0_0 hc0_0
 have HR0_1 := Aside0.mk hr0_1
 have HC0_1 := Aside0.mk hc0_1
 clear hr0_1 hc0_1
 have HB := Aside0.mk (Below.refl w.heap.size w)
 have H : ((acmelaw12_Works_runs.f k l0_0 l0_1).bind fun t214 => ((acmelaw12_Works_lots.f k l0_0 l0_1).bind fun t217 => (acmelaw12_MillNarrowed.l0 k a1 t214 t217 (mn (t217.length : Int) (wrap64 (1 + (Int.tmod (wrap64 (a2)) 4)))) (([] : List (S58))) (([] : List (S58))) (([] : List (S58))) 0))) = some r := h
 clear h
 replace H := Option.bind_eq_some_iff.mp H
 obtain ⟨t214, A40, H⟩ := H; (try dsimp only at H)
 have A4 := Aside0.mk A40
 clear A40
 replace H := Option.bind_eq_some_iff.mp H
 obtain ⟨t217, A50, H⟩ := H; (try dsimp only at H)
 have A5 := Aside0.mk A50
 clear A50
 obtain ⟨ji6, hji6⟩ : ∃ j_ : Int, (mn (t217.length : Int) (wrap64 (1 + (Int.tmod (wrap64 (a2)) 4)))) = j_ := ⟨_, rfl⟩
 replace H : (acmelaw12_MillNarrowed.l0 k a1 t214 t217 ji6 (([] : List (S58))) (([] : List (S58))) (([] : List (S58))) 0) = some r := by first | (rw [hji6] at H; exact H) | (simp only [hji6] at H ⊢; exact H)
 (try rw [hji6] at A4)
 (try rw [hji6] at A5)
 have hji6_ : (if (wrap64 (1 + (Int.tmod (wrap64 (a2)) 4))) < (t217.length : Int) then (wrap64 (1 + (Int.tmod (wrap64 (a2)) 4))) else (t217.length : Int)) = ji6 := hji6
 obtain ⟨y220, hy220⟩ : ∃ y_ : List (S58), y_ = (([] : List (S58))) := ⟨_, rfl⟩
 replace H : (acmelaw12_MillNarrowed.l0 k a1 t214 t217 ji6 y220 (([] : List (S58))) (([] : List (S58))) 0) = some r := by first | (rw [hy220]; with_reducible exact H) | (have H2_ := (Option.bind_some _ _).symm.trans H; rw [hy220]; with_reducible exact H2_) | (have H2_ := (Option.bind_some _ _).symm.trans H; with_reducible exact H2_) | with_reducible exact H | (rw [hy220]; exact H) | exact H
 have Ny220 := Aside0.mk hy220
 clear hy220
 obtain ⟨y223, hy223⟩ : ∃ y_ : List (S58), y_ = (([] : List (S58))) := ⟨_, rfl⟩
 replace H : (acmelaw12_MillNarrowed.l0 k a1 t214 t217 ji6 y220 y223 (([] : List (S58))) 0) = some r := by first | (rw [hy223]; with_reducible exact H) | (have H2_ := (Option.bind_some _ _).symm.trans H; rw [hy223]; with_reducible exact H2_) | (have H2_ := (Option.bind_some _ _).symm.trans H; with_reducible exact H2_) | with_reducible exact H | (rw [hy223]; exact H) | exact H
 have Ny223 := Aside0.mk hy223
 clear hy223
 obtain ⟨y226, hy226⟩ : ∃ y_ : List (S58), y_ = (([] : List (S58))) := ⟨_, rfl⟩
 replace H : (acmelaw12_MillNarrowed.l0 k a1 t214 t217 ji6 y220 y223 y226 0) = some r := by first | (rw [hy226]; with_reducible exact H) | (have H2_ := (Option.bind_some _ _).symm.trans H; rw [hy226]; with_reducible exact H2_) | (have H2_ := (Option.bind_some _ _).symm.trans H; with_reducible exact H2_) | with_reducible exact H | (rw [hy226]; exact H) | exact H
 have Ny226 := Aside0.mk hy226
 clear hy226
 have H' := Aside0.mk H
 clear H
 go_enter Try.func13, Try.ntmps13
 try go_wp2_with (first | ((with_reducible refine gate_dst (N := 3) rfl ?_); (try (refine gate_guard (by rfl) ?_; dsimp only)); refine box_event ?hg (N := 3) ?hd (cs := #[.slice A0_0 l0_0.length c0_0, .slice A0_1 l0_1.length c0_1]) (t := 113) ?hr ?_; (case hd => rfl); (case hg => rfl); (case hr => first | (go_simp; done) | (go_simp; rfl)); intro gb213 hg w7 hbox hb; have BK213 := Aside0.mk (hbox); have GW213 := Aside0.mk ((by rw [hg]; exact (below_size (hb_ HB)) : w.heap.size ≤ gb213)); have GE213 := GW213; replace HB := Aside0.mk (below_step (hb_ HB) hb); clear hb hbox hg))
 replace BK213 := Aside0.mk (blk_drew BK213.out)
 replace HB := Aside0.mk (below_drew1 HB.out)
 refine start_ (n := 6) (S := fun w' => w'.cell? ⟨gb213, 0, none⟩ = some (.slice A0_0 l0_0.length c0_0) ∧ w'.cell? ⟨gb213, 1, none⟩ = some (.slice A0_1 l0_1.length c0_1)) (ds := []) #[ff, ff, ff, ff, ff, ff] (by kernel_rfl) rfl rfl ⟨(blk_cell BK213.out 0).trans rfl, (blk_cell BK213.out 1).trans rfl⟩ (fun hHeld => ?_)
 generalize w7.drew = w8 at BK213 HB hHeld ⊢
 refine take_ (i := 0) (N := some 25) (v := ?_) (a' := ?_) #[tt, ff, ff, ff, ff, ff] rfl rfl (by kernel_rfl) (fun _ _ _ h => h) (Or.inl ⟨by rfl, ?_⟩) hHeld ?_ ?_
 rotate_left
 ·rintro w' ⟨s0, s1⟩
  go_simp
  with_reducible rfl
 rotate_left
 ·simp only [Act.put, sa_, s0_, s1_, i64_w, i32_w]
  rfl
 refine take_ (i := 2) (N := some 27) (v := ?_) (a' := ?_) #[tt, ff, tt, ff, ff, ff] rfl rfl (by kernel_rfl) (fun _ _ _ h => h) (Or.inl ⟨by rfl, ?_⟩) hHeld ?_ ?_
 rotate_left
 ·rintro w' ⟨s0, s1⟩
  go_simp
  with_reducible rfl
 rotate_left
 ·simp only [Act.put, sa_, s0_, s1_, i64_w, i32_w]
  rfl
 refine one_ (i := 1) (N := some 26) #[tt, tt, tt, ff, ff, ff] rfl rfl (by kernel_rfl) (by decide) (fun K hK => ?_)
 refine goes_ Try.func51 (by kernel_rfl) rfl #[.agg #[.slice A0_0 l0_0.length c0_0, .slice A0_1 l0_1.length c0_1]] (by rfl) rfl rfl (by (try simp only [List.map_toArray, List.map_cons, List.map_nil]); first | done | rfl | (simp only [List.length_drop, List.length_take]; rfl)) ?_
 with_reducible refine (acmelaw12_Works_runs.calls k _ _ l0_0 _ _ l0_1 t214 _ ?side1 ?side2 ?side3 ?side4 A4.out).mono ?_
 (case side1 => repeat (first | exact (Kd.C_below HR0_0.out HB.out) | (with_reducible refine Kd.C_alloc ?_ _) | (with_reducible refine Kd.C_drewN ?_ _) | (with_reducible refine Kd.C_drew ?_)))
 (case side2 => exact HC0_0.out)
 (case side3 => repeat (first | exact (Kd.C_below HR0_1.out HB.out) | (with_reducible refine Kd.C_alloc ?_ _) | (with_reducible refine Kd.C_drewN ?_ _) | (with_reducible refine Kd.C_drew ?_)))
 (case side4 => exact HC0_1.out)
 rintro e w9 ⟨v215, rfl, ho0, hb⟩
 refine ⟨_, rfl, ?_⟩
 have HO216 := Aside0.mk (Kd.R_lower ho0 (below_size (hb_ HB)))
 replace BK213 := Aside0.mk (blk_below (bk_ BK213) hb)
 replace HB := Aside0.mk (below_step (hb_ HB) hb)
 (try clear hb)
 (try clear hb2)
 (try clear hk)
 (try clear hi)
 (try clear ho0)
 refine hK.out _ _ ⟨(blk_cell BK213.out 0).trans rfl, (blk_cell BK213.out 1).trans rfl⟩ (fun hHeld => ?_)
 clear hK K
 refine norm_ (a' := ?_) ?_ ?_
 rotate_left
 ·show Act.put _ (some 26) _ = _
  simp only [Act.put, sa_, s0_, s1_, i64_w, i32_w]
  rfl
 refine one_ (i := 3) (N := some 28) #[tt, tt, tt, tt, ff, ff] rfl rfl (by kernel_rfl) (by decide) (fun K hK => ?_)
 refine goes_ Try.func52 (by kernel_rfl) rfl #[.agg #[.slice A0_0 l0_0.length c0_0, .slice A0_1 l0_1.length c0_1]] (by rfl) rfl rfl (by (try simp only [List.map_toArray, List.map_cons, List.map_nil]); first | done | rfl | (simp only [List.length_drop, List.length_take]; rfl)) ?_
 with_reducible refine (acmelaw12_Works_lots.calls k _ _ l0_0 _ _ l0_1 t217 _ ?side1 ?side2 ?side3 ?side4 A5.out).mono ?_
 (case side1 => repeat (first | exact (Kd.C_below HR0_0.out HB.out) | (with_reducible refine Kd.C_alloc ?_ _) | (with_reducible refine Kd.C_drewN ?_ _) | (with_reducible refine Kd.C_drew ?_)))
 (case side2 => exact HC0_0.out)
 (case side3 => repeat (first | exact (Kd.C_below HR0_1.out HB.out) | (with_reducible refine Kd.C_alloc ?_ _) | (with_reducible refine Kd.C_drewN ?_ _) | (with_reducible refine Kd.C_drew ?_)))
 (case side4 => exact HC0_1.out)
 rintro e w10 ⟨v218, rfl, ho0, hb⟩
 refine ⟨_, rfl, ?_⟩
 replace HO216 := Aside0.mk (Kd.R_below (ro_ HO216) hb)
 have HO219 := Aside0.mk (Kd.R_lower ho0 (below_size (hb_ HB)))
 replace BK213 := Aside0.mk (blk_below (bk_ BK213) hb)
 replace HB := Aside0.mk (below_step (hb_ HB) hb)
 (try clear hb)
 (try clear hb2)
 (try clear hk)
 (try clear hi)
 (try clear ho0)
 refine hK.out _ _ ⟨(blk_cell BK213.out 0).trans rfl, (blk_cell BK213.out 1).trans rfl⟩ (fun hHeld => ?_)
 clear hK K
 refine norm_ (a' := ?_) ?_ ?_
 rotate_left
 ·show Act.put _ (some 28) _ = _
  simp only [Act.put, sa_, s0_, s1_, i64_w, i32_w]
  rfl
 refine pure_ (i := 4) (N := some 7) (v := ?_) (a' := ?_) #[tt, tt, tt, tt, tt, ff] rfl rfl (by kernel_rfl) (fun _ _ _ h => h) (Or.inl ⟨by rfl, ?_⟩) ?_ ?_
 rotate_left
 ·intro w'
  go_simp
  with_reducible rfl
 rotate_left
 ·simp only [Act.put, sa_, s0_, s1_, i64_w, i32_w]
  rfl
 refine pure_ (i := 5) (N := some 8) (v := ?_) (a' := ?_) #[tt, tt, tt, tt, tt, tt] rfl rfl (by kernel_rfl) (fun _ _ _ h => h) (Or.inl ⟨by rfl, ?_⟩) ?_ ?_
 rotate_left
 ·intro w'
  go_simp
  with_reducible rfl
 rotate_left
 ·simp only [Act.put, sa_, s0_, s1_, i64_w, i32_w]
  rfl
 refine done_ (by kernel_rfl) ?_
 obtain ⟨Ao11, co11, eo11⟩ := Kd.R_slice HO219.out
 subst eo11
 try go_wp2_with (first | ((with_reducible refine gate_dst (N := 36) rfl ?_); (try (refine gate_guard (by rfl) ?_; dsimp only)); refine Kd.R_lit k58 _ 58 ?hg (N := 36) ?hd (xs := ([] : List (S58))) (inner := []) (ok := fun _ => True) (okp := fun _ => True) ?hr ?hp (fun _ hk => hk) trivial (Below.refl _ _) (Nat.le_refl _) (by simp) ?_; (case hd => rfl); (case hg => rfl); (case hr => first | (go_simp; done) | (go_simp; rfl)); (case hp => exact (Reps.none _ _)); intro v221 w12 ho13 hb hg_ hnew_; clear hg_ hnew_; (first | rw [← Ny220.out] at ho13 | (simp only [Int.reduceToNat] at ho13; rw [← Ny220.out] at ho13)); replace HO216 := Aside0.mk (Kd.R_below (ro_ HO216) hb); have HO222 := Aside0.mk (Kd.R_lower (Kd.R_new' ho13 (Kd.R_lt (ro_ HO219))) (below_size (hb_ HB))); replace HO219 := Aside0.mk (Kd.R_elder' (ro_ HO219) (Kd.R_base ho13) hb); replace BK213 := Aside0.mk (blk_below (bk_ BK213) hb); replace HB := Aside0.mk (below_step (hb_ HB) hb); clear hb ho13) | ((with_reducible refine gate_dst (N := 37) rfl ?_); (try (refine gate_guard (by rfl) ?_; dsimp only)); refine Kd.R_lit k58 _ 58 ?hg (N := 37) ?hd (xs := ([] : List (S58))) (inner := []) (ok := fun _ => True) (okp := fun _ => True) ?hr ?hp (fun _ hk => hk) trivial (Below.refl _ _) (Nat.le_refl _) (by simp) ?_; (case hd => rfl); (case hg => rfl); (case hr => first | (go_simp; done) | (go_simp; rfl)); (case hp => exact (Reps.none _ _)); intro v224 w14 ho15 hb hg_ hnew_; clear hg_ hnew_; (first | rw [← Ny223.out] at ho15 | (simp only [Int.reduceToNat] at ho15; rw [← Ny223.out] at ho15)); replace HO216 := Aside0.mk (Kd.R_below (ro_ HO216) hb); have HO225 := Aside0.mk (Kd.R_lower (Kd.R_new' (Kd.R_new' ho15 (Kd.R_lt (ro_ HO219))) (Kd.R_lt (ro_ HO222))) (below_size (hb_ HB))); replace HO219 := Aside0.mk (Kd.R_elder' (ro_ HO219) (Kd.R_base ho15) hb); replace HO222 := Aside0.mk (Kd.R_elder' (ro_ HO222) (Kd.R_base ho15) hb); replace BK213 := Aside0.mk (blk_below (bk_ BK213) hb); replace HB := Aside0.mk (below_step (hb_ HB) hb); clear hb ho15) | ((with_reducible refine gate_dst (N := 38) rfl ?_); (try (refine gate_guard (by rfl) ?_; dsimp only)); refine Kd.R_lit k58 _ 58 ?hg (N := 38) ?hd (xs := ([] : List (S58))) (inner := []) (ok := fun _ => True) (okp := fun _ => True) ?hr ?hp (fun _ hk => hk) trivial (Below.refl _ _) (Nat.le_refl _) (by simp) ?_; (case hd => rfl); (case hg => rfl); (case hr => first | (go_simp; done) | (go_simp; rfl)); (case hp => exact (Reps.none _ _)); intro v227 w16 ho17 hb hg_ hnew_; clear hg_ hnew_; (first | rw [← Ny226.out] at ho17 | (simp only [Int.reduceToNat] at ho17; rw [← Ny226.out] at ho17)); replace HO216 := Aside0.mk (Kd.R_below (ro_ HO216) hb); have HO228 := Aside0.mk (Kd.R_lower (Kd.R_new' (Kd.R_new' (Kd.R_new' ho17 (Kd.R_lt (ro_ HO219))) (Kd.R_lt (ro_ HO222))) (Kd.R_lt (ro_ HO225))) (below_size (hb_ HB))); replace HO219 := Aside0.mk (Kd.R_elder' (ro_ HO219) (Kd.R_base ho17) hb); replace HO222 := Aside0.mk (Kd.R_elder' (ro_ HO222) (Kd.R_base ho17) hb); replace HO225 := Aside0.mk (Kd.R_elder' (ro_ HO225) (Kd.R_base ho17) hb); replace BK213 := Aside0.mk (blk_below (bk_ BK213) hb); replace HB := Aside0.mk (below_step (hb_ HB) hb); clear hb ho17))
 go_loopg [10, 11, 12, 13] k (fun kq v10 v11 v12 v13 w' => ∃ (x10_1 : List (S58)) (x11_1 : List (S58)) (x12_1 : List (S58)) (x13_1 : Int), v13 = .int .i64 x13_1 ∧ Aside0 (acmelaw12_MillNarrowed.l0 kq a1 t214 t217 ji6 x10_1 x11_1 x12_1 x13_1 = some r) ∧ Aside0 (kq ≤ k) ∧ Aside0 (Kd.R k144 144 w' w.heap.size (fun _ => True) v215 t214) ∧ Aside0 (Kd.R k58 58 w' w.heap.size (fun k_ => some k_ ≠ (v10 : Value).ownBlock ∧ some k_ ≠ (v11 : Value).ownBlock ∧ some k_ ≠ (v12 : Value).ownBlock) (.slice Ao11 t217.length co11) t217) ∧ Aside0 (Kd.R k58 58 w' w.heap.size (fun k_ => some k_ ≠ ((.slice Ao11 t217.length co11) : Value).ownBlock ∧ some k_ ≠ (v11 : Value).ownBlock ∧ some k_ ≠ (v12 : Value).ownBlock) v10 x10_1) ∧ Aside0 (Kd.R k58 58 w' w.heap.size (fun k_ => some k_ ≠ ((.slice Ao11 t217.length co11) : Value).ownBlock ∧ some k_ ≠ (v10 : Value).ownBlock ∧ some k_ ≠ (v12 : Value).ownBlock) v11 x11_1) ∧ Aside0 (Kd.R k58 58 w' w.heap.size (fun k_ => some k_ ≠ ((.slice Ao11 t217.length co11) : Value).ownBlock ∧ some k_ ≠ (v10 : Value).ownBlock ∧ some k_ ≠ (v11 : Value).ownBlock) v12 x12_1) ∧ Aside0 (w'.heap[gb213]? = some (.cells #[(.slice A0_0 l0_0.length c0_0), (.slice A0_1 l0_1.length c0_1)] 113 (0, 0))) ∧ Aside0 (Below w.heap.size w w'))
 case atStart => exact ⟨(y220), (y223), (y226), (0), (by first | rfl | (simp; done) | (simp [*]; done)), H', ⟨Nat.le_refl _⟩, ⟨ro_ HO216⟩, ⟨by (with_reducible repeat (first | apply Kd.R_alloc | apply Kd.R_drewN | apply Kd.R_drew)); exact Kd.R_mono HO219.out (fun _ hk => ⟨hk.1.1.2, ⟨hk.1.2, hk.2⟩⟩)⟩, ⟨by (with_reducible repeat (first | apply Kd.R_alloc | apply Kd.R_drewN | apply Kd.R_drew)); exact Kd.R_mono HO222.out (fun _ hk => ⟨hk.1.1.2, ⟨hk.1.2, hk.2⟩⟩)⟩, ⟨by (with_reducible repeat (first | apply Kd.R_alloc | apply Kd.R_drewN | apply Kd.R_drew)); exact Kd.R_mono HO225.out (fun _ hk => ⟨hk.1.1.2, ⟨hk.1.2, hk.2⟩⟩)⟩, ⟨by (with_reducible repeat (first | apply Kd.R_alloc | apply Kd.R_drewN | apply Kd.R_drew)); exact Kd.R_mono HO228.out (fun _ hk => ⟨hk.1.1.2, ⟨hk.1.2, hk.2⟩⟩)⟩, BK213, ⟨hb_ HB⟩⟩
 case round => as_aux_lemma =>
  clear H'
  try clear c1; try clear p2; try clear c5; try clear p6; try clear c13
  obtain ⟨x10_1, x11_1, x12_1, x13_1, rfl, HA, HK1, HO_7, HO_8, HO_10, HO_11, HO_12, BK213, HB⟩ := hrel
  obtain _ | k1 := gk
  ·exact absurd HA.out (by simp [acmelaw12_MillNarrowed.l0])
  have H := HA.out
  clear HA
  simp only [acmelaw12_MillNarrowed.l0] at H
  by_cases c18 : x13_1 < (t217.length : Int)
  ·rw [if_pos c18] at H
   have c18b0 : decide (x13_1 < (t217.length : Int)) = true := decide_eq_true c18
   clear c18
   by_cases c19 : x13_1 ≥ ji6
   ·rw [if_pos c19] at H
    have c19b0 : decide (ji6 ≤ x13_1) = true := decide_eq_true c19
    clear c19
    by_cases c20 : 0 ≤ x13_1
    rotate_left
    ·rw [if_neg c20] at H
     exact absurd H (by simp)
    rw [if_pos c20] at H
    have c20b0 : decide (0 ≤ x13_1) = true := decide_eq_true c20
    clear c20
    obtain ⟨y230, hy230⟩ : ∃ y_ : List (S58), y_ = (([(⟨(rd_T58 t217 x13_1).f0, (rd_T58 t217 x13_1).f1, (rd_T58 t217 x13_1).f2⟩ : S58)] : List (S58))) := ⟨_, rfl⟩
    replace H : (if x12_1.length + y230.length < 5864062014805 then (acmelaw12_MillNarrowed.l0 k1 a1 t214 t217 ji6 x10_1 x11_1 (x12_1 ++ y230) (wrap64 (x13_1 + 1))) else (none)) = some r := by first | (rw [hy230]; with_reducible exact H) | (have H2_ := (Option.bind_some _ _).symm.trans H; rw [hy230]; with_reducible exact H2_) | (have H2_ := (Option.bind_some _ _).symm.trans H; with_reducible exact H2_) | with_reducible exact H | (rw [hy230]; exact H) | exact H
    have Ny230 := Aside0.mk hy230
    clear hy230
    by_cases c21 : x12_1.length + y230.length < 5864062014805
    rotate_left
    ·rw [if_neg c21] at H
     exact absurd H (by simp)
    rw [if_pos c21] at H
    have LMc21 := Aside0.mk c21
    clear c21
    obtain ⟨y233, hy233⟩ : ∃ y_ : List (S58), y_ = (x12_1 ++ y230) := ⟨_, rfl⟩
    replace H : (acmelaw12_MillNarrowed.l0 k1 a1 t214 t217 ji6 x10_1 x11_1 y233 (wrap64 (x13_1 + 1))) = some r := by first | (rw [hy233]; with_reducible exact H) | (have H2_ := (Option.bind_some _ _).symm.trans H; rw [hy233]; with_reducible exact H2_) | (have H2_ := (Option.bind_some _ _).symm.trans H; with_reducible exact H2_) | with_reducible exact H | (rw [hy233]; exact H) | exact H
    have Ny233 := Aside0.mk hy233
    clear hy233
    have H' := Aside0.mk H
    clear H
    have p229 : 0 ≤ (x13_1 : Int) := of_decide_eq_true ‹_›
    have q229 : x13_1 < (t217.length : Int) := of_decide_eq_true ‹_›
    obtain ⟨ad229, e229, hx229_0, hx229_1, hx229_2⟩ := at_T58 (Kd.R_reads' HO_8.out).2.2 x13_1 p229 q229
    cases e229
    replace p229 := eq_true p229
    replace q229 := eq_true q229
    go_wp2_with (first | ((with_reducible refine gate_dst (N := 61) rfl ?_); (try (refine gate_guard (by rfl) ?_; dsimp only)); refine Kd.R_lit k58 _ 58 ?hg (N := 61) ?hd (xs := ([(⟨(rd_T58 t217 x13_1).f0, (rd_T58 t217 x13_1).f1, (rd_T58 t217 x13_1).f2⟩ : S58)] : List (S58))) (inner := [.int .i64 ((rd_T58 t217 x13_1).f0), .int .i64 ((rd_T58 t217 x13_1).f1), .int .i64 ((rd_T58 t217 x13_1).f2)]) (ok := fun _ => True) (okp := fun _ => True) ?hr ?hp (fun _ hk => hk) trivial (Below.refl _ _) (Nat.le_refl _) (by simp) ?_; (case hd => rfl); (case hg => rfl); (case hr => first | (go_simp; done) | (go_simp; rfl)); (case hp => exact (Reps.c3 (show Kd.M k58 _ _ _ (⟨(rd_T58 t217 x13_1).f0, (rd_T58 t217 x13_1).f1, (rd_T58 t217 x13_1).f2⟩ : S58) [.int .i64 ((rd_T58 t217 x13_1).f0), .int .i64 ((rd_T58 t217 x13_1).f1), .int .i64 ((rd_T58 t217 x13_1).f2)] from (k58_mkM _ _ _ (⟨(rd_T58 t217 x13_1).f0, (rd_T58 t217 x13_1).f1, (rd_T58 t217 x13_1).f2⟩ : S58) )) (Reps.none _ _))); intro v231 w22 ho23 hb hg_ hnew_; clear hg_ hnew_; (first | rw [← Ny230.out] at ho23 | (simp only [Int.reduceToNat] at ho23; rw [← Ny230.out] at ho23)); replace HO_7 := Aside0.mk (Kd.R_below (ro_ HO_7) hb); have HO232 := Aside0.mk (Kd.R_lower (Kd.R_new' (Kd.R_new' (Kd.R_new' (Kd.R_new' ho23 (Kd.R_lt (ro_ HO_8))) (Kd.R_lt (ro_ HO_10))) (Kd.R_lt (ro_ HO_11))) (Kd.R_lt (ro_ HO_12))) (below_size (hb_ HB))); replace HO_8 := Aside0.mk (Kd.R_elder' (ro_ HO_8) (Kd.R_base ho23) hb); replace HO_10 := Aside0.mk (Kd.R_elder' (ro_ HO_10) (Kd.R_base ho23) hb); replace HO_11 := Aside0.mk (Kd.R_elder' (ro_ HO_11) (Kd.R_base ho23) hb); replace HO_12 := Aside0.mk (Kd.R_elder' (ro_ HO_12) (Kd.R_base ho23) hb); replace BK213 := Aside0.mk (blk_below (bk_ BK213) hb); replace HB := Aside0.mk (below_step (hb_ HB) hb); clear hb ho23; obtain ⟨Ao25, co25, eo25⟩ := Kd.R_slice HO232.out; subst eo25) | ((with_reducible refine gate_builtin (b := .append) (xs := #[.tmp 56, .tmp 61]) rfl ?_); (try (refine gate_guard (by rfl) ?_; dsimp only)); at_builtin; refine Kd.R_append_rows k58 (w0 := w) w.heap.size rfl (.tmp 56) (.tmp 61) 68 58 (.agg #[(.int .i64 0), (.int .i64 0), (.int .i64 0)]) 24 rfl Try.underlying68 info58 rfl (by decide) (by omega) u12 x12_1 y230 _ _ _ (fun k_ => some k_ ≠ (.slice (some ad229) t217.length co11 : Value).ownBlock ∧ some k_ ≠ (u10 : Value).ownBlock ∧ some k_ ≠ (u11 : Value).ownBlock ∧ some k_ ≠ (.slice Ao25 y230.length co25 : Value).ownBlock) (fun _ => False) rfl rfl ?aO ?aR (fun _ _ h => h) (fun _ h => h.elim) ?aF ?aB ?aS ?aL ?_; (case aR => repeat (first | exact (Kd.R_reads' HO232.out).2.2 | (with_reducible refine Kd.C_alloc ?_ _) | (with_reducible refine Kd.C_drewN ?_ _) | (with_reducible refine Kd.C_drew ?_))); (case aB => exact (hb_ HB)); (case aF => exact (fun k_ hk => ⟨Kd.fresh' (Kd.R_lt (ro_ HO_8)) k_ hk, Kd.fresh' (Kd.R_lt (ro_ HO_10)) k_ hk, Kd.fresh' (Kd.R_lt (ro_ HO_11)) k_ hk, Kd.fresh' (Kd.R_lt (ro_ HO232)) k_ hk⟩)); (case aO => exact (by (with_reducible repeat (first | apply Kd.R_alloc | apply Kd.R_drewN | apply Kd.R_drew)); exact Kd.R_mono HO_12.out (fun _ hk => ⟨hk.1.1, ⟨hk.1.2.1, ⟨hk.1.2.2, hk.2⟩⟩⟩))); (case aS => exact (below_size (hb_ HB))); (case aL => have := LMc21.out; omega); intro v234 w24 ho hb hg hat; rw [← Ny233.out] at ho; replace HO_7 := Aside0.mk (Kd.R_over' (ro_ HO_7) (Kd.R_typed (ro_ HO_12)) (by decide) hg); replace HO_8 := Aside0.mk (Kd.R_after (ok := (fun k_ => some k_ ≠ (u10 : Value).ownBlock ∧ some k_ ≠ (u11 : Value).ownBlock ∧ some k_ ≠ (.slice Ao25 y230.length co25 : Value).ownBlock)) (by (with_reducible repeat (first | apply Kd.R_alloc | apply Kd.R_drewN | apply Kd.R_drew)); exact Kd.R_mono HO_8.out (fun _ hk => ⟨⟨hk.1.1, ⟨hk.1.2.1, hk.2⟩⟩, hk.1.2.2⟩)) hg hat); replace HO_10 := Aside0.mk (Kd.R_after (ok := (fun k_ => some k_ ≠ (.slice (some ad229) t217.length co11 : Value).ownBlock ∧ some k_ ≠ (u11 : Value).ownBlock ∧ some k_ ≠ (.slice Ao25 y230.length co25 : Value).ownBlock)) (by (with_reducible repeat (first | apply Kd.R_alloc | apply Kd.R_drewN | apply Kd.R_drew)); exact Kd.R_mono HO_10.out (fun _ hk => ⟨⟨hk.1.1, ⟨hk.1.2.1, hk.2⟩⟩, hk.1.2.2⟩)) hg hat); replace HO_11 := Aside0.mk (Kd.R_after (ok := (fun k_ => some k_ ≠ (.slice (some ad229) t217.length co11 : Value).ownBlock ∧ some k_ ≠ (u10 : Value).ownBlock ∧ some k_ ≠ (.slice Ao25 y230.length co25 : Value).ownBlock)) (by (with_reducible repeat (first | apply Kd.R_alloc | apply Kd.R_drewN | apply Kd.R_drew)); exact Kd.R_mono HO_11.out (fun _ hk => ⟨⟨hk.1.1, ⟨hk.1.2.1, hk.2⟩⟩, hk.1.2.2⟩)) hg hat); replace BK213 := Aside0.mk (blk_grown (bk_ BK213) hg (Kd.R_ne HO_12.out BK213.out (by decide))); replace HO232 := Aside0.mk (Kd.R_after (ok := (fun k_ => some k_ ≠ (.slice (some ad229) t217.length co11 : Value).ownBlock ∧ some k_ ≠ (u10 : Value).ownBlock ∧ some k_ ≠ (u11 : Value).ownBlock)) (by (with_reducible repeat (first | apply Kd.R_alloc | apply Kd.R_drewN | apply Kd.R_drew)); exact Kd.R_mono HO232.out (fun _ hk => ⟨⟨hk.1.1.1.2, ⟨hk.1.1.2, hk.1.2⟩⟩, hk.2⟩)) hg hat); replace HB := Aside0.mk (hb); have HO235 := Aside0.mk (ho); clear HO_12; clear ho hb hg hat))
    go_roundg k1
    case measure => have := HK1.out; omega
    case rel => exact ⟨(x10_1), (x11_1), (y233), (wrap64 (x13_1 + 1)), (by first | rfl | (simp; done) | (simp [*]; done)), H', ⟨by have := HK1.out; omega⟩, ⟨ro_ HO_7⟩, ⟨by (with_reducible repeat (first | apply Kd.R_alloc | apply Kd.R_drewN | apply Kd.R_drew)); exact Kd.R_mono HO_8.out (fun _ hk => ⟨hk.1.1, ⟨hk.1.2.1, hk.2⟩⟩)⟩, ⟨by (with_reducible repeat (first | apply Kd.R_alloc | apply Kd.R_drewN | apply Kd.R_drew)); exact Kd.R_mono HO_10.out (fun _ hk => ⟨hk.1.1, ⟨hk.1.2.1, hk.2⟩⟩)⟩, ⟨by (with_reducible repeat (first | apply Kd.R_alloc | apply Kd.R_drewN | apply Kd.R_drew)); exact Kd.R_mono HO_11.out (fun _ hk => ⟨hk.1.1, ⟨hk.1.2.1, hk.2⟩⟩)⟩, ⟨by (with_reducible repeat (first | apply Kd.R_alloc | apply Kd.R_drewN | apply Kd.R_drew)); exact Kd.R_mono HO235.out (fun _ hk => ⟨hk.1, ⟨hk.2.1, hk.2.2.1⟩⟩)⟩, BK213, ⟨hb_ HB⟩⟩
   rw [if_neg c19] at H
   have c19b0 : decide (ji6 ≤ x13_1) = false := decide_eq_false c19
   clear c19
   by_cases c26 : x13_1 = 0
   ·rw [if_pos c26] at H
    have c26b0 : (x13_1 == 0) = true := beq_iff_eq.mpr c26
    have c26b1 : (x13_1 != 0) = false := bne_eq_false_iff_eq.mpr c26
    clear c26
    by_cases c27 : 0 ≤ x13_1
    rotate_left
    ·rw [if_neg c27] at H
     exact absurd H (by simp)
    rw [if_pos c27] at H
    have c27b0 : decide (0 ≤ x13_1) = true := decide_eq_true c27
    clear c27
    obtain ⟨y237, hy237⟩ : ∃ y_ : List (S58), y_ = (([(⟨(rd_T58 t217 x13_1).f0, (rd_T58 t217 x13_1).f1, (rd_T58 t217 x13_1).f2⟩ : S58)] : List (S58))) := ⟨_, rfl⟩
    replace H : (if x10_1.length + y237.length < 5864062014805 then (acmelaw12_MillNarrowed.l0 k1 a1 t214 t217 ji6 (x10_1 ++ y237) x11_1 x12_1 (wrap64 (x13_1 + 1))) else (none)) = some r := by first | (rw [hy237]; with_reducible exact H) | (have H2_ := (Option.bind_some _ _).symm.trans H; rw [hy237]; with_reducible exact H2_) | (have H2_ := (Option.bind_some _ _).symm.trans H; with_reducible exact H2_) | with_reducible exact H | (rw [hy237]; exact H) | exact H
    have Ny237 := Aside0.mk hy237
    clear hy237
    by_cases c28 : x10_1.length + y237.length < 5864062014805
    rotate_left
    ·rw [if_neg c28] at H
     exact absurd H (by simp)
    rw [if_pos c28] at H
    have LMc28 := Aside0.mk c28
    clear c28
    obtain ⟨y240, hy240⟩ : ∃ y_ : List (S58), y_ = (x10_1 ++ y237) := ⟨_, rfl⟩
    replace H : (acmelaw12_MillNarrowed.l0 k1 a1 t214 t217 ji6 y240 x11_1 x12_1 (wrap64 (x13_1 + 1))) = some r := by first | (rw [hy240]; with_reducible exact H) | (have H2_ := (Option.bind_some _ _).symm.trans H; rw [hy240]; with_reducible exact H2_) | (have H2_ := (Option.bind_some _ _).symm.trans H; with_reducible exact H2_) | with_reducible exact H | (rw [hy240]; exact H) | exact H
    have Ny240 := Aside0.mk hy240
    clear hy240
    have H' := Aside0.mk H
    clear H
    have p236 : 0 ≤ (x13_1 : Int) := of_decide_eq_true ‹_›
    have q236 : x13_1 < (t217.length : Int) := of_decide_eq_true ‹_›
    obtain ⟨ad236, e236, hx236_0, hx236_1, hx236_2⟩ := at_T58 (Kd.R_reads' HO_8.out).2.2 x13_1 p236 q236
    cases e236
    replace p236 := eq_true p236
    replace q236 := eq_true q236
    go_wp2_with (first | ((with_reducible refine gate_dst (N := 80) rfl ?_); (try (refine gate_guard (by rfl) ?_; dsimp only)); refine Kd.R_lit k58 _ 58 ?hg (N := 80) ?hd (xs := ([(⟨(rd_T58 t217 x13_1).f0, (rd_T58 t217 x13_1).f1, (rd_T58 t217 x13_1).f2⟩ : S58)] : List (S58))) (inner := [.int .i64 ((rd_T58 t217 x13_1).f0), .int .i64 ((rd_T58 t217 x13_1).f1), .int .i64 ((rd_T58 t217 x13_1).f2)]) (ok := fun _ => True) (okp := fun _ => True) ?hr ?hp (fun _ hk => hk) trivial (Below.refl _ _) (Nat.le_refl _) (by simp) ?_; (case hd => rfl); (case hg => rfl); (case hr => first | (go_simp; done) | (go_simp; rfl)); (case hp => exact (Reps.c3 (show Kd.M k58 _ _ _ (⟨(rd_T58 t217 x13_1).f0, (rd_T58 t217 x13_1).f1, (rd_T58 t217 x13_1).f2⟩ : S58) [.int .i64 ((rd_T58 t217 x13_1).f0), .int .i64 ((rd_T58 t217 x13_1).f1), .int .i64 ((rd_T58 t217 x13_1).f2)] from (k58_mkM _ _ _ (⟨(rd_T58 t217 x13_1).f0, (rd_T58 t217 x13_1).f1, (rd_T58 t217 x13_1).f2⟩ : S58) )) (Reps.none _ _))); intro v238 w29 ho30 hb hg_ hnew_; clear hg_ hnew_; (first | rw [← Ny237.out] at ho30 | (simp only [Int.reduceToNat] at ho30; rw [← Ny237.out] at ho30)); replace HO_7 := Aside0.mk (Kd.R_below (ro_ HO_7) hb); have HO239 := Aside0.mk (Kd.R_lower (Kd.R_new' (Kd.R_new' (Kd.R_new' (Kd.R_new' ho30 (Kd.R_lt (ro_ HO_8))) (Kd.R_lt (ro_ HO_10))) (Kd.R_lt (ro_ HO_11))) (Kd.R_lt (ro_ HO_12))) (below_size (hb_ HB))); replace HO_8 := Aside0.mk (Kd.R_elder' (ro_ HO_8) (Kd.R_base ho30) hb); replace HO_10 := Aside0.mk (Kd.R_elder' (ro_ HO_10) (Kd.R_base ho30) hb); replace HO_11 := Aside0.mk (Kd.R_elder' (ro_ HO_11) (Kd.R_base ho30) hb); replace HO_12 := Aside0.mk (Kd.R_elder' (ro_ HO_12) (Kd.R_base ho30) hb); replace BK213 := Aside0.mk (blk_below (bk_ BK213) hb); replace HB := Aside0.mk (below_step (hb_ HB) hb); clear hb ho30; obtain ⟨Ao32, co32, eo32⟩ := Kd.R_slice HO239.out; subst eo32) | ((with_reducible refine gate_builtin (b := .append) (xs := #[.tmp 75, .tmp 80]) rfl ?_); (try (refine gate_guard (by rfl) ?_; dsimp only)); at_builtin; refine Kd.R_append_rows k58 (w0 := w) w.heap.size rfl (.tmp 75) (.tmp 80) 68 58 (.agg #[(.int .i64 0), (.int .i64 0), (.int .i64 0)]) 24 rfl Try.underlying68 info58 rfl (by decide) (by omega) u10 x10_1 y237 _ _ _ (fun k_ => some k_ ≠ (.slice (some ad236) t217.length co11 : Value).ownBlock ∧ some k_ ≠ (u11 : Value).ownBlock ∧ some k_ ≠ (u12 : Value).ownBlock ∧ some k_ ≠ (.slice Ao32 y237.length co32 : Value).ownBlock) (fun _ => False) rfl rfl ?aO ?aR (fun _ _ h => h) (fun _ h => h.elim) ?aF ?aB ?aS ?aL ?_; (case aR => repeat (first | exact (Kd.R_reads' HO239.out).2.2 | (with_reducible refine Kd.C_alloc ?_ _) | (with_reducible refine Kd.C_drewN ?_ _) | (with_reducible refine Kd.C_drew ?_))); (case aB => exact (hb_ HB)); (case aF => exact (fun k_ hk => ⟨Kd.fresh' (Kd.R_lt (ro_ HO_8)) k_ hk, Kd.fresh' (Kd.R_lt (ro_ HO_11)) k_ hk, Kd.fresh' (Kd.R_lt (ro_ HO_12)) k_ hk, Kd.fresh' (Kd.R_lt (ro_ HO239)) k_ hk⟩)); (case aO => exact (by (with_reducible repeat (first | apply Kd.R_alloc | apply Kd.R_drewN | apply Kd.R_drew)); exact Kd.R_mono HO_10.out (fun _ hk => ⟨hk.1.1, ⟨hk.1.2.1, ⟨hk.1.2.2, hk.2⟩⟩⟩))); (case aS => exact (below_size (hb_ HB))); (case aL => have := LMc28.out; omega); intro v241 w31 ho hb hg hat; rw [← Ny240.out] at ho; replace HO_7 := Aside0.mk (Kd.R_over' (ro_ HO_7) (Kd.R_typed (ro_ HO_10)) (by decide) hg); replace HO_8 := Aside0.mk (Kd.R_after (ok := (fun k_ => some k_ ≠ (u11 : Value).ownBlock ∧ some k_ ≠ (u12 : Value).ownBlock ∧ some k_ ≠ (.slice Ao32 y237.length co32 : Value).ownBlock)) (by (with_reducible repeat (first | apply Kd.R_alloc | apply Kd.R_drewN | apply Kd.R_drew)); exact Kd.R_mono HO_8.out (fun _ hk => ⟨⟨hk.1.2.1, ⟨hk.1.2.2, hk.2⟩⟩, hk.1.1⟩)) hg hat); replace HO_11 := Aside0.mk (Kd.R_after (ok := (fun k_ => some k_ ≠ (.slice (some ad236) t217.length co11 : Value).ownBlock ∧ some k_ ≠ (u12 : Value).ownBlock ∧ some k_ ≠ (.slice Ao32 y237.length co32 : Value).ownBlock)) (by (with_reducible repeat (first | apply Kd.R_alloc | apply Kd.R_drewN | apply Kd.R_drew)); exact Kd.R_mono HO_11.out (fun _ hk => ⟨⟨hk.1.1, ⟨hk.1.2.2, hk.2⟩⟩, hk.1.2.1⟩)) hg hat); replace HO_12 := Aside0.mk (Kd.R_after (ok := (fun k_ => some k_ ≠ (.slice (some ad236) t217.length co11 : Value).ownBlock ∧ some k_ ≠ (u11 : Value).ownBlock ∧ some k_ ≠ (.slice Ao32 y237.length co32 : Value).ownBlock)) (by (with_reducible repeat (first | apply Kd.R_alloc | apply Kd.R_drewN | apply Kd.R_drew)); exact Kd.R_mono HO_12.out (fun _ hk => ⟨⟨hk.1.1, ⟨hk.1.2.2, hk.2⟩⟩, hk.1.2.1⟩)) hg hat); replace BK213 := Aside0.mk (blk_grown (bk_ BK213) hg (Kd.R_ne HO_10.out BK213.out (by decide))); replace HO239 := Aside0.mk (Kd.R_after (ok := (fun k_ => some k_ ≠ (.slice (some ad236) t217.length co11 : Value).ownBlock ∧ some k_ ≠ (u11 : Value).ownBlock ∧ some k_ ≠ (u12 : Value).ownBlock)) (by (with_reducible repeat (first | apply Kd.R_alloc | apply Kd.R_drewN | apply Kd.R_drew)); exact Kd.R_mono HO239.out (fun _ hk => ⟨⟨hk.1.1.1.2, ⟨hk.1.2, hk.2⟩⟩, hk.1.1.2⟩)) hg hat); replace HB := Aside0.mk (hb); have HO242 := Aside0.mk (ho); clear HO_10; clear ho hb hg hat))
    go_roundg k1
    case measure => have := HK1.out; omega
    case rel => exact ⟨(y240), (x11_1), (x12_1), (wrap64 (x13_1 + 1)), (by first | rfl | (simp; done) | (simp [*]; done)), H', ⟨by have := HK1.out; omega⟩, ⟨ro_ HO_7⟩, ⟨by (with_reducible repeat (first | apply Kd.R_alloc | apply Kd.R_drewN | apply Kd.R_drew)); exact Kd.R_mono HO_8.out (fun _ hk => ⟨hk.2, ⟨hk.1.1, hk.1.2.1⟩⟩)⟩, ⟨by (with_reducible repeat (first | apply Kd.R_alloc | apply Kd.R_drewN | apply Kd.R_drew)); exact Kd.R_mono HO242.out (fun _ hk => ⟨hk.1, ⟨hk.2.1, hk.2.2.1⟩⟩)⟩, ⟨by (with_reducible repeat (first | apply Kd.R_alloc | apply Kd.R_drewN | apply Kd.R_drew)); exact Kd.R_mono HO_11.out (fun _ hk => ⟨hk.1.1, ⟨hk.2, hk.1.2.1⟩⟩)⟩, ⟨by (with_reducible repeat (first | apply Kd.R_alloc | apply Kd.R_drewN | apply Kd.R_drew)); exact Kd.R_mono HO_12.out (fun _ hk => ⟨hk.1.1, ⟨hk.2, hk.1.2.1⟩⟩)⟩, BK213, ⟨hb_ HB⟩⟩
   rw [if_neg c26] at H
   have c26b0 : (x13_1 == 0) = false := beq_eq_false_iff_ne.mpr c26
   have c26b1 : (x13_1 != 0) = true := bne_iff_ne.mpr c26
   obtain ⟨ji33, hji33⟩ : ∃ j_ : Int, (IntKind.u64.wrap (x13_1)) = j_ := ⟨_, rfl⟩
   replace H : (if 0 ≤ (ji33) then (if (Go.bits .and .i64 (shr .i64 (wrap64 (a1)) (ji33)) 1) = 1 then (if 0 ≤ x13_1 then ((some (([(⟨(rd_T58 t217 x13_1).f0, (rd_T58 t217 x13_1).f1, (rd_T58 t217 x13_1).f2⟩ : S58)] : List (S58)) : List (S58))).bind fun y244 => (if x10_1.length + y244.length < 5864062014805 then (acmelaw12_MillNarrowed.l0 k1 a1 t214 t217 ji6 (x10_1 ++ y244) x11_1 x12_1 (wrap64 (x13_1 + 1))) else (none))) else (none)) else (if 0 ≤ x13_1 then ((some (([(⟨(rd_T58 t217 x13_1).f0, (rd_T58 t217 x13_1).f1, (rd_T58 t217 x13_1).f2⟩ : S58)] : List (S58)) : List (S58))).bind fun y251 => (if x11_1.length + y251.length < 5864062014805 then (acmelaw12_MillNarrowed.l0 k1 a1 t214 t217 ji6 x10_1 (x11_1 ++ y251) x12_1 (wrap64 (x13_1 + 1))) else (none))) else (none))) else (none)) = some r := by first | (rw [hji33] at H; exact H) | (simp only [hji33] at H ⊢; exact H)
   by_cases c34 : 0 ≤ (ji33)
   rotate_left
   ·rw [if_neg c34] at H
    exact absurd H (by simp)
   rw [if_pos c34] at H
   have c34b0 := eq_true c34
   have c34b1 : decide (0 ≤ (ji33)) = true := decide_eq_true c34
   clear c34
   obtain ⟨ji35, hji35⟩ : ∃ j_ : Int, (shr .i64 (wrap64 (a1)) (ji33)) = j_ := ⟨_, rfl⟩
   replace H : (if (Go.bits .and .i64 (ji35) 1) = 1 then (if 0 ≤ x13_1 then ((some (([(⟨(rd_T58 t217 x13_1).f0, (rd_T58 t217 x13_1).f1, (rd_T58 t217 x13_1).f2⟩ : S58)] : List (S58)) : List (S58))).bind fun y244 => (if x10_1.length + y244.length < 5864062014805 then (acmelaw12_MillNarrowed.l0 k1 a1 t214 t217 ji6 (x10_1 ++ y244) x11_1 x12_1 (wrap64 (x13_1 + 1))) else (none))) else (none)) else (if 0 ≤ x13_1 then ((some (([(⟨(rd_T58 t217 x13_1).f0, (rd_T58 t217 x13_1).f1, (rd_T58 t217 x13_1).f2⟩ : S58)] : List (S58)) : List (S58))).bind fun y251 => (if x11_1.length + y251.length < 5864062014805 then (acmelaw12_MillNarrowed.l0 k1 a1 t214 t217 ji6 x10_1 (x11_1 ++ y251) x12_1 (wrap64 (x13_1 + 1))) else (none))) else (none))) = some r := by first | (rw [hji35] at H; exact H) | (simp only [hji35] at H ⊢; exact H)
   have hji35_ : ((wrap64 (a1)) / 2 ^ min (ji33).toNat 64) = ji35 := hji35
   have hji35z : (ji33) ≤ 64 → ((wrap64 (a1)) / 2 ^ (ji33).toNat) = ji35 := shr_small hji35
   by_cases c36 : (Go.bits .and .i64 (ji35) 1) = 1
   ·rw [if_pos c36] at H
    have c36b0 : ((Go.bits .and .i64 (ji35) 1) == 1) = true := beq_iff_eq.mpr c36
    have c36b1 : ((Go.bits .and .i64 (ji35) 1) != 1) = false := bne_eq_false_iff_eq.mpr c36
    clear c36
    by_cases c37 : 0 ≤ x13_1
    rotate_left
    ·rw [if_neg c37] at H
     exact absurd H (by simp)
    rw [if_pos c37] at H
    have c37b0 : decide (0 ≤ x13_1) = true := decide_eq_true c37
    clear c37
    obtain ⟨y244, hy244⟩ : ∃ y_ : List (S58), y_ = (([(⟨(rd_T58 t217 x13_1).f0, (rd_T58 t217 x13_1).f1, (rd_T58 t217 x13_1).f2⟩ : S58)] : List (S58))) := ⟨_, rfl⟩
    replace H : (if x10_1.length + y244.length < 5864062014805 then (acmelaw12_MillNarrowed.l0 k1 a1 t214 t217 ji6 (x10_1 ++ y244) x11_1 x12_1 (wrap64 (x13_1 + 1))) else (none)) = some r := by first | (rw [hy244]; with_reducible exact H) | (have H2_ := (Option.bind_some _ _).symm.trans H; rw [hy244]; with_reducible exact H2_) | (have H2_ := (Option.bind_some _ _).symm.trans H; with_reducible exact H2_) | with_reducible exact H | (rw [hy244]; exact H) | exact H
    have Ny244 := Aside0.mk hy244
    clear hy244
    by_cases c38 : x10_1.length + y244.length < 5864062014805
    rotate_left
    ·rw [if_neg c38] at H
     exact absurd H (by simp)
    rw [if_pos c38] at H
    have LMc38 := Aside0.mk c38
    clear c38
    obtain ⟨y247, hy247⟩ : ∃ y_ : List (S58), y_ = (x10_1 ++ y244) := ⟨_, rfl⟩
    replace H : (acmelaw12_MillNarrowed.l0 k1 a1 t214 t217 ji6 y247 x11_1 x12_1 (wrap64 (x13_1 + 1))) = some r := by first | (rw [hy247]; with_reducible exact H) | (have H2_ := (Option.bind_some _ _).symm.trans H; rw [hy247]; with_reducible exact H2_) | (have H2_ := (Option.bind_some _ _).symm.trans H; with_reducible exact H2_) | with_reducible exact H | (rw [hy247]; exact H) | exact H
    have Ny247 := Aside0.mk hy247
    clear hy247
    have H' := Aside0.mk H
    clear H
    have p243 : 0 ≤ (x13_1 : Int) := of_decide_eq_true ‹_›
    have q243 : x13_1 < (t217.length : Int) := of_decide_eq_true ‹_›
    obtain ⟨ad243, e243, hx243_0, hx243_1, hx243_2⟩ := at_T58 (Kd.R_reads' HO_8.out).2.2 x13_1 p243 q243
    cases e243
    replace p243 := eq_true p243
    replace q243 := eq_true q243
    go_wp2_with (first | ((with_reducible refine gate_dst (N := 80) rfl ?_); (try (refine gate_guard (by rfl) ?_; dsimp only)); refine Kd.R_lit k58 _ 58 ?hg (N := 80) ?hd (xs := ([(⟨(rd_T58 t217 x13_1).f0, (rd_T58 t217 x13_1).f1, (rd_T58 t217 x13_1).f2⟩ : S58)] : List (S58))) (inner := [.int .i64 ((rd_T58 t217 x13_1).f0), .int .i64 ((rd_T58 t217 x13_1).f1), .int .i64 ((rd_T58 t217 x13_1).f2)]) (ok := fun _ => True) (okp := fun _ => True) ?hr ?hp (fun _ hk => hk) trivial (Below.refl _ _) (Nat.le_refl _) (by simp) ?_; (case hd => rfl); (case hg => rfl); (case hr => first | (go_simp; done) | (go_simp; rfl)); (case hp => exact (Reps.c3 (show Kd.M k58 _ _ _ (⟨(rd_T58 t217 x13_1).f0, (rd_T58 t217 x13_1).f1, (rd_T58 t217 x13_1).f2⟩ : S58) [.int .i64 ((rd_T58 t217 x13_1).f0), .int .i64 ((rd_T58 t217 x13_1).f1), .int .i64 ((rd_T58 t217 x13_1).f2)] from (k58_mkM _ _ _ (⟨(rd_T58 t217 x13_1).f0, (rd_T58 t217 x13_1).f1, (rd_T58 t217 x13_1).f2⟩ : S58) )) (Reps.none _ _))); intro v245 w39 ho40 hb hg_ hnew_; clear hg_ hnew_; (first | rw [← Ny244.out] at ho40 | (simp only [Int.reduceToNat] at ho40; rw [← Ny244.out] at ho40)); replace HO_7 := Aside0.mk (Kd.R_below (ro_ HO_7) hb); have HO246 := Aside0.mk (Kd.R_lower (Kd.R_new' (Kd.R_new' (Kd.R_new' (Kd.R_new' ho40 (Kd.R_lt (ro_ HO_8))) (Kd.R_lt (ro_ HO_10))) (Kd.R_lt (ro_ HO_11))) (Kd.R_lt (ro_ HO_12))) (below_size (hb_ HB))); replace HO_8 := Aside0.mk (Kd.R_elder' (ro_ HO_8) (Kd.R_base ho40) hb); replace HO_10 := Aside0.mk (Kd.R_elder' (ro_ HO_10) (Kd.R_base ho40) hb); replace HO_11 := Aside0.mk (Kd.R_elder' (ro_ HO_11) (Kd.R_base ho40) hb); replace HO_12 := Aside0.mk (Kd.R_elder' (ro_ HO_12) (Kd.R_base ho40) hb); replace BK213 := Aside0.mk (blk_below (bk_ BK213) hb); replace HB := Aside0.mk (below_step (hb_ HB) hb); clear hb ho40; obtain ⟨Ao42, co42, eo42⟩ := Kd.R_slice HO246.out; subst eo42) | ((with_reducible refine gate_builtin (b := .append) (xs := #[.tmp 75, .tmp 80]) rfl ?_); (try (refine gate_guard (by rfl) ?_; dsimp only)); at_builtin; refine Kd.R_append_rows k58 (w0 := w) w.heap.size rfl (.tmp 75) (.tmp 80) 68 58 (.agg #[(.int .i64 0), (.int .i64 0), (.int .i64 0)]) 24 rfl Try.underlying68 info58 rfl (by decide) (by omega) u10 x10_1 y244 _ _ _ (fun k_ => some k_ ≠ (.slice (some ad243) t217.length co11 : Value).ownBlock ∧ some k_ ≠ (u11 : Value).ownBlock ∧ some k_ ≠ (u12 : Value).ownBlock ∧ some k_ ≠ (.slice Ao42 y244.length co42 : Value).ownBlock) (fun _ => False) rfl rfl ?aO ?aR (fun _ _ h => h) (fun _ h => h.elim) ?aF ?aB ?aS ?aL ?_; (case aR => repeat (first | exact (Kd.R_reads' HO246.out).2.2 | (with_reducible refine Kd.C_alloc ?_ _) | (with_reducible refine Kd.C_drewN ?_ _) | (with_reducible refine Kd.C_drew ?_))); (case aB => exact (hb_ HB)); (case aF => exact (fun k_ hk => ⟨Kd.fresh' (Kd.R_lt (ro_ HO_8)) k_ hk, Kd.fresh' (Kd.R_lt (ro_ HO_11)) k_ hk, Kd.fresh' (Kd.R_lt (ro_ HO_12)) k_ hk, Kd.fresh' (Kd.R_lt (ro_ HO246)) k_ hk⟩)); (case aO => exact (by (with_reducible repeat (first | apply Kd.R_alloc | apply Kd.R_drewN | apply Kd.R_drew)); exact Kd.R_mono HO_10.out (fun _ hk => ⟨hk.1.1, ⟨hk.1.2.1, ⟨hk.1.2.2, hk.2⟩⟩⟩))); (case aS => exact (below_size (hb_ HB))); (case aL => have := LMc38.out; omega); intro v248 w41 ho hb hg hat; rw [← Ny247.out] at ho; replace HO_7 := Aside0.mk (Kd.R_over' (ro_ HO_7) (Kd.R_typed (ro_ HO_10)) (by decide) hg); replace HO_8 := Aside0.mk (Kd.R_after (ok := (fun k_ => some k_ ≠ (u11 : Value).ownBlock ∧ some k_ ≠ (u12 : Value).ownBlock ∧ some k_ ≠ (.slice Ao42 y244.length co42 : Value).ownBlock)) (by (with_reducible repeat (first | apply Kd.R_alloc | apply Kd.R_drewN | apply Kd.R_drew)); exact Kd.R_mono HO_8.out (fun _ hk => ⟨⟨hk.1.2.1, ⟨hk.1.2.2, hk.2⟩⟩, hk.1.1⟩)) hg hat); replace HO_11 := Aside0.mk (Kd.R_after (ok := (fun k_ => some k_ ≠ (.slice (some ad243) t217.length co11 : Value).ownBlock ∧ some k_ ≠ (u12 : Value).ownBlock ∧ some k_ ≠ (.slice Ao42 y244.length co42 : Value).ownBlock)) (by (with_reducible repeat (first | apply Kd.R_alloc | apply Kd.R_drewN | apply Kd.R_drew)); exact Kd.R_mono HO_11.out (fun _ hk => ⟨⟨hk.1.1, ⟨hk.1.2.2, hk.2⟩⟩, hk.1.2.1⟩)) hg hat); replace HO_12 := Aside0.mk (Kd.R_after (ok := (fun k_ => some k_ ≠ (.slice (some ad243) t217.length co11 : Value).ownBlock ∧ some k_ ≠ (u11 : Value).ownBlock ∧ some k_ ≠ (.slice Ao42 y244.length co42 : Value).ownBlock)) (by (with_reducible repeat (first | apply Kd.R_alloc | apply Kd.R_drewN | apply Kd.R_drew)); exact Kd.R_mono HO_12.out (fun _ hk => ⟨⟨hk.1.1, ⟨hk.1.2.2, hk.2⟩⟩, hk.1.2.1⟩)) hg hat); replace BK213 := Aside0.mk (blk_grown (bk_ BK213) hg (Kd.R_ne HO_10.out BK213.out (by decide))); replace HO246 := Aside0.mk (Kd.R_after (ok := (fun k_ => some k_ ≠ (.slice (some ad243) t217.length co11 : Value).ownBlock ∧ some k_ ≠ (u11 : Value).ownBlock ∧ some k_ ≠ (u12 : Value).ownBlock)) (by (with_reducible repeat (first | apply Kd.R_alloc | apply Kd.R_drewN | apply Kd.R_drew)); exact Kd.R_mono HO246.out (fun _ hk => ⟨⟨hk.1.1.1.2, ⟨hk.1.2, hk.2⟩⟩, hk.1.1.2⟩)) hg hat); replace HB := Aside0.mk (hb); have HO249 := Aside0.mk (ho); clear HO_10; clear ho hb hg hat))
    go_roundg k1
    case measure => have := HK1.out; omega
    case rel => exact ⟨(y247), (x11_1), (x12_1), (wrap64 (x13_1 + 1)), (by first | rfl | (simp; done) | (simp [*]; done)), H', ⟨by have := HK1.out; omega⟩, ⟨ro_ HO_7⟩, ⟨by (with_reducible repeat (first | apply Kd.R_alloc | apply Kd.R_drewN | apply Kd.R_drew)); exact Kd.R_mono HO_8.out (fun _ hk => ⟨hk.2, ⟨hk.1.1, hk.1.2.1⟩⟩)⟩, ⟨by (with_reducible repeat (first | apply Kd.R_alloc | apply Kd.R_drewN | apply Kd.R_drew)); exact Kd.R_mono HO249.out (fun _ hk => ⟨hk.1, ⟨hk.2.1, hk.2.2.1⟩⟩)⟩, ⟨by (with_reducible repeat (first | apply Kd.R_alloc | apply Kd.R_drewN | apply Kd.R_drew)); exact Kd.R_mono HO_11.out (fun _ hk => ⟨hk.1.1, ⟨hk.2, hk.1.2.1⟩⟩)⟩, ⟨by (with_reducible repeat (first | apply Kd.R_alloc | apply Kd.R_drewN | apply Kd.R_drew)); exact Kd.R_mono HO_12.out (fun _ hk => ⟨hk.1.1, ⟨hk.2, hk.1.2.1⟩⟩)⟩, BK213, ⟨hb_ HB⟩⟩
   rw [if_neg c36] at H
   have c36b0 : ((Go.bits .and .i64 (ji35) 1) == 1) = false := beq_eq_false_iff_ne.mpr c36
   have c36b1 : ((Go.bits .and .i64 (ji35) 1) != 1) = true := bne_iff_ne.mpr c36
   by_cases c43 : 0 ≤ x13_1
   rotate_left
   ·rw [if_neg c43] at H
    exact absurd H (by simp)
   rw [if_pos c43] at H
   have c43b0 : decide (0 ≤ x13_1) = true := decide_eq_true c43
   clear c43
   obtain ⟨y251, hy251⟩ : ∃ y_ : List (S58), y_ = (([(⟨(rd_T58 t217 x13_1).f0, (rd_T58 t217 x13_1).f1, (rd_T58 t217 x13_1).f2⟩ : S58)] : List (S58))) := ⟨_, rfl⟩
   replace H : (if x11_1.length + y251.length < 5864062014805 then (acmelaw12_MillNarrowed.l0 k1 a1 t214 t217 ji6 x10_1 (x11_1 ++ y251) x12_1 (wrap64 (x13_1 + 1))) else (none)) = some r := by first | (rw [hy251]; with_reducible exact H) | (have H2_ := (Option.bind_some _ _).symm.trans H; rw [hy251]; with_reducible exact H2_) | (have H2_ := (Option.bind_some _ _).symm.trans H; with_reducible exact H2_) | with_reducible exact H | (rw [hy251]; exact H) | exact H
   have Ny251 := Aside0.mk hy251
   clear hy251
   by_cases c44 : x11_1.length + y251.length < 5864062014805
   rotate_left
   ·rw [if_neg c44] at H
    exact absurd H (by simp)
   rw [if_pos c44] at H
   have LMc44 := Aside0.mk c44
   clear c44
   obtain ⟨y254, hy254⟩ : ∃ y_ : List (S58), y_ = (x11_1 ++ y251) := ⟨_, rfl⟩
   replace H : (acmelaw12_MillNarrowed.l0 k1 a1 t214 t217 ji6 x10_1 y254 x12_1 (wrap64 (x13_1 + 1))) = some r := by first | (rw [hy254]; with_reducible exact H) | (have H2_ := (Option.bind_some _ _).symm.trans H; rw [hy254]; with_reducible exact H2_) | (have H2_ := (Option.bind_some _ _).symm.trans H; with_reducible exact H2_) | with_reducible exact H | (rw [hy254]; exact H) | exact H
   have Ny254 := Aside0.mk hy254
   clear hy254
   have H' := Aside0.mk H
   clear H
   have p250 : 0 ≤ (x13_1 : Int) := of_decide_eq_true ‹_›
   have q250 : x13_1 < (t217.length : Int) := of_decide_eq_true ‹_›
   obtain ⟨ad250, e250, hx250_0, hx250_1, hx250_2⟩ := at_T58 (Kd.R_reads' HO_8.out).2.2 x13_1 p250 q250
   cases e250
   replace p250 := eq_true p250
   replace q250 := eq_true q250
   go_wp2_with (first | ((with_reducible refine gate_dst (N := 50) rfl ?_); (try (refine gate_guard (by rfl) ?_; dsimp only)); refine Kd.R_lit k58 _ 58 ?hg (N := 50) ?hd (xs := ([(⟨(rd_T58 t217 x13_1).f0, (rd_T58 t217 x13_1).f1, (rd_T58 t217 x13_1).f2⟩ : S58)] : List (S58))) (inner := [.int .i64 ((rd_T58 t217 x13_1).f0), .int .i64 ((rd_T58 t217 x13_1).f1), .int .i64 ((rd_T58 t217 x13_1).f2)]) (ok := fun _ => True) (okp := fun _ => True) ?hr ?hp (fun _ hk => hk) trivial (Below.refl _ _) (Nat.le_refl _) (by simp) ?_; (case hd => rfl); (case hg => rfl); (case hr => first | (go_simp; done) | (go_simp; rfl)); (case hp => exact (Reps.c3 (show Kd.M k58 _ _ _ (⟨(rd_T58 t217 x13_1).f0, (rd_T58 t217 x13_1).f1, (rd_T58 t217 x13_1).f2⟩ : S58) [.int .i64 ((rd_T58 t217 x13_1).f0), .int .i64 ((rd_T58 t217 x13_1).f1), .int .i64 ((rd_T58 t217 x13_1).f2)] from (k58_mkM _ _ _ (⟨(rd_T58 t217 x13_1).f0, (rd_T58 t217 x13_1).f1, (rd_T58 t217 x13_1).f2⟩ : S58) )) (Reps.none _ _))); intro v252 w45 ho46 hb hg_ hnew_; clear hg_ hnew_; (first | rw [← Ny251.out] at ho46 | (simp only [Int.reduceToNat] at ho46; rw [← Ny251.out] at ho46)); replace HO_7 := Aside0.mk (Kd.R_below (ro_ HO_7) hb); have HO253 := Aside0.mk (Kd.R_lower (Kd.R_new' (Kd.R_new' (Kd.R_new' (Kd.R_new' ho46 (Kd.R_lt (ro_ HO_8))) (Kd.R_lt (ro_ HO_10))) (Kd.R_lt (ro_ HO_11))) (Kd.R_lt (ro_ HO_12))) (below_size (hb_ HB))); replace HO_8 := Aside0.mk (Kd.R_elder' (ro_ HO_8) (Kd.R_base ho46) hb); replace HO_10 := Aside0.mk (Kd.R_elder' (ro_ HO_10) (Kd.R_base ho46) hb); replace HO_11 := Aside0.mk (Kd.R_elder' (ro_ HO_11) (Kd.R_base ho46) hb); replace HO_12 := Aside0.mk (Kd.R_elder' (ro_ HO_12) (Kd.R_base ho46) hb); replace BK213 := Aside0.mk (blk_below (bk_ BK213) hb); replace HB := Aside0.mk (below_step (hb_ HB) hb); clear hb ho46; obtain ⟨Ao48, co48, eo48⟩ := Kd.R_slice HO253.out; subst eo48) | ((with_reducible refine gate_builtin (b := .append) (xs := #[.tmp 45, .tmp 50]) rfl ?_); (try (refine gate_guard (by rfl) ?_; dsimp only)); at_builtin; refine Kd.R_append_rows k58 (w0 := w) w.heap.size rfl (.tmp 45) (.tmp 50) 68 58 (.agg #[(.int .i64 0), (.int .i64 0), (.int .i64 0)]) 24 rfl Try.underlying68 info58 rfl (by decide) (by omega) u11 x11_1 y251 _ _ _ (fun k_ => some k_ ≠ (.slice (some ad250) t217.length co11 : Value).ownBlock ∧ some k_ ≠ (u10 : Value).ownBlock ∧ some k_ ≠ (u12 : Value).ownBlock ∧ some k_ ≠ (.slice Ao48 y251.length co48 : Value).ownBlock) (fun _ => False) rfl rfl ?aO ?aR (fun _ _ h => h) (fun _ h => h.elim) ?aF ?aB ?aS ?aL ?_; (case aR => repeat (first | exact (Kd.R_reads' HO253.out).2.2 | (with_reducible refine Kd.C_alloc ?_ _) | (with_reducible refine Kd.C_drewN ?_ _) | (with_reducible refine Kd.C_drew ?_))); (case aB => exact (hb_ HB)); (case aF => exact (fun k_ hk => ⟨Kd.fresh' (Kd.R_lt (ro_ HO_8)) k_ hk, Kd.fresh' (Kd.R_lt (ro_ HO_10)) k_ hk, Kd.fresh' (Kd.R_lt (ro_ HO_12)) k_ hk, Kd.fresh' (Kd.R_lt (ro_ HO253)) k_ hk⟩)); (case aO => exact (by (with_reducible repeat (first | apply Kd.R_alloc | apply Kd.R_drewN | apply Kd.R_drew)); exact Kd.R_mono HO_11.out (fun _ hk => ⟨hk.1.1, ⟨hk.1.2.1, ⟨hk.1.2.2, hk.2⟩⟩⟩))); (case aS => exact (below_size (hb_ HB))); (case aL => have := LMc44.out; omega); intro v255 w47 ho hb hg hat; rw [← Ny254.out] at ho; replace HO_7 := Aside0.mk (Kd.R_over' (ro_ HO_7) (Kd.R_typed (ro_ HO_11)) (by decide) hg); replace HO_8 := Aside0.mk (Kd.R_after (ok := (fun k_ => some k_ ≠ (u10 : Value).ownBlock ∧ some k_ ≠ (u12 : Value).ownBlock ∧ some k_ ≠ (.slice Ao48 y251.length co48 : Value).ownBlock)) (by (with_reducible repeat (first | apply Kd.R_alloc | apply Kd.R_drewN | apply Kd.R_drew)); exact Kd.R_mono HO_8.out (fun _ hk => ⟨⟨hk.1.1, ⟨hk.1.2.2, hk.2⟩⟩, hk.1.2.1⟩)) hg hat); replace HO_10 := Aside0.mk (Kd.R_after (ok := (fun k_ => some k_ ≠ (.slice (some ad250) t217.length co11 : Value).ownBlock ∧ some k_ ≠ (u12 : Value).ownBlock ∧ some k_ ≠ (.slice Ao48 y251.length co48 : Value).ownBlock)) (by (with_reducible repeat (first | apply Kd.R_alloc | apply Kd.R_drewN | apply Kd.R_drew)); exact Kd.R_mono HO_10.out (fun _ hk => ⟨⟨hk.1.1, ⟨hk.1.2.2, hk.2⟩⟩, hk.1.2.1⟩)) hg hat); replace HO_12 := Aside0.mk (Kd.R_after (ok := (fun k_ => some k_ ≠ (.slice (some ad250) t217.length co11 : Value).ownBlock ∧ some k_ ≠ (u10 : Value).ownBlock ∧ some k_ ≠ (.slice Ao48 y251.length co48 : Value).ownBlock)) (by (with_reducible repeat (first | apply Kd.R_alloc | apply Kd.R_drewN | apply Kd.R_drew)); exact Kd.R_mono HO_12.out (fun _ hk => ⟨⟨hk.1.1, ⟨hk.1.2.1, hk.2⟩⟩, hk.1.2.2⟩)) hg hat); replace BK213 := Aside0.mk (blk_grown (bk_ BK213) hg (Kd.R_ne HO_11.out BK213.out (by decide))); replace HO253 := Aside0.mk (Kd.R_after (ok := (fun k_ => some k_ ≠ (.slice (some ad250) t217.length co11 : Value).ownBlock ∧ some k_ ≠ (u10 : Value).ownBlock ∧ some k_ ≠ (u12 : Value).ownBlock)) (by (with_reducible repeat (first | apply Kd.R_alloc | apply Kd.R_drewN | apply Kd.R_drew)); exact Kd.R_mono HO253.out (fun _ hk => ⟨⟨hk.1.1.1.2, ⟨hk.1.1.2, hk.2⟩⟩, hk.1.2⟩)) hg hat); replace HB := Aside0.mk (hb); have HO256 := Aside0.mk (ho); clear HO_11; clear ho hb hg hat))
   go_roundg k1
   case measure => have := HK1.out; omega
   case rel => exact ⟨(x10_1), (y254), (x12_1), (wrap64 (x13_1 + 1)), (by first | rfl | (simp; done) | (simp [*]; done)), H', ⟨by have := HK1.out; omega⟩, ⟨ro_ HO_7⟩, ⟨by (with_reducible repeat (first | apply Kd.R_alloc | apply Kd.R_drewN | apply Kd.R_drew)); exact Kd.R_mono HO_8.out (fun _ hk => ⟨hk.1.1, ⟨hk.2, hk.1.2.1⟩⟩)⟩, ⟨by (with_reducible repeat (first | apply Kd.R_alloc | apply Kd.R_drewN | apply Kd.R_drew)); exact Kd.R_mono HO_10.out (fun _ hk => ⟨hk.1.1, ⟨hk.2, hk.1.2.1⟩⟩)⟩, ⟨by (with_reducible repeat (first | apply Kd.R_alloc | apply Kd.R_drewN | apply Kd.R_drew)); exact Kd.R_mono HO256.out (fun _ hk => ⟨hk.1, ⟨hk.2.1, hk.2.2.1⟩⟩)⟩, ⟨by (with_reducible repeat (first | apply Kd.R_alloc | apply Kd.R_drewN | apply Kd.R_drew)); exact Kd.R_mono HO_12.out (fun _ hk => ⟨hk.1.1, ⟨hk.1.2.1, hk.2⟩⟩)⟩, BK213, ⟨hb_ HB⟩⟩
  rw [if_neg c18] at H
  have c18b0 : decide (x13_1 < (t217.length : Int)) = false := decide_eq_false c18
  clear c18
  replace H := Option.bind_eq_some_iff.mp H
  obtain ⟨t257, A490, H⟩ := H; (try dsimp only at H)
  have A49 := Aside0.mk A490
  clear A490
  replace H := Option.bind_eq_some_iff.mp H
  obtain ⟨t260, A500, H⟩ := H; (try dsimp only at H)
  have A50 := Aside0.mk A500
  clear A500
  replace H := Option.bind_eq_some_iff.mp H
  obtain ⟨t263, A510, H⟩ := H; (try dsimp only at H)
  have A51 := Aside0.mk A510
  clear A510
  replace H := Option.bind_eq_some_iff.mp H
  obtain ⟨⟨t266, t267⟩, A520, H⟩ := H; (try dsimp only at H)
  have A52 := Aside0.mk A520
  clear A520
  replace H := Option.bind_eq_some_iff.mp H
  obtain ⟨t270, A530, H⟩ := H; (try dsimp only at H)
  have A53 := Aside0.mk A530
  clear A530
  replace H := Option.bind_eq_some_iff.mp H
  obtain ⟨t273, A540, H⟩ := H; (try dsimp only at H)
  have A54 := Aside0.mk A540
  clear A540
  replace H := Option.bind_eq_some_iff.mp H
  obtain ⟨t276, A550, H⟩ := H; (try dsimp only at H)
  have A55 := Aside0.mk A550
  clear A550
  replace H := Option.bind_eq_some_iff.mp H
  obtain ⟨t279, A560, H⟩ := H; (try dsimp only at H)
  have A56 := Aside0.mk A560
  clear A560
  replace H := Option.bind_eq_some_iff.mp H
  obtain ⟨⟨t282, t283, t284⟩, A570, H⟩ := H; (try dsimp only at H)
  have A57 := Aside0.mk A570
  clear A570
  by_cases c58 : (x10_1.length : Int) = 0
  ·rw [if_pos c58] at H
   have c58b0 : ((x10_1.length : Int) == 0) = true := beq_iff_eq.mpr c58
   have c58b1 : ((x10_1.length : Int) != 0) = false := bne_eq_false_iff_eq.mpr c58
   clear c58
   by_cases c59 : t267 = 7
   rotate_left
   ·rw [if_neg c59] at H
    exact absurd H (by simp)
   rw [if_pos c59] at H
   have c59b0 : (t267 == 7) = true := beq_iff_eq.mpr c59
   have c59b1 : (t267 != 7) = false := bne_eq_false_iff_eq.mpr c59
   clear c59
   by_cases c60 : t284 = t267
   rotate_left
   ·rw [if_neg c60] at H
    exact absurd H (by simp)
   rw [if_pos c60] at H
   have c60b0 : (t284 == t267) = true := beq_iff_eq.mpr c60
   have c60b1 : (t284 != t267) = false := bne_eq_false_iff_eq.mpr c60
   clear c60
   replace H := Option.bind_eq_some_iff.mp H
   obtain ⟨t285, A610, H⟩ := H; (try dsimp only at H)
   have A61 := Aside0.mk A610
   clear A610
   obtain rfl := Option.some.inj H
   obtain ⟨Ao62, co62, eo62⟩ := Kd.R_slice HO_7.out
   subst eo62
   go_wp2_with (first | ((with_reducible refine gate_callee (f := 31) rfl ?_); refine goesL_ (some 84) rfl rfl Try.func31 (by kernel_rfl) rfl #[.slice Ao62 t214.length co62] rfl (by (try simp only [List.map_toArray, List.map_cons, List.map_nil]); first | done | rfl | (simp only [List.length_drop, List.length_take]; rfl)) ?_; (with_reducible refine (acmelaw12_runs.calls _ _ t214 t257 _ ?side1 ?side2 A49.out).mono ?_); (case side1 => repeat (first | exact (Kd.R_reads' HO_7.out).2.2 | (with_reducible refine Kd.C_alloc ?_ _) | (with_reducible refine Kd.C_drewN ?_ _) | (with_reducible refine Kd.C_drew ?_))); (case side2 => exact (Kd.R_reads' HO_7.out).2.1); rintro e w63 ⟨v258, rfl, ho0, hb⟩; refine ⟨_, rfl, ?_⟩; replace HO_8 := Aside0.mk (Kd.R_below (ro_ HO_8) hb); replace HO_10 := Aside0.mk (Kd.R_below (ro_ HO_10) hb); replace HO_11 := Aside0.mk (Kd.R_below (ro_ HO_11) hb); replace HO_12 := Aside0.mk (Kd.R_below (ro_ HO_12) hb); have HO259 := Aside0.mk (Kd.R_lower (Kd.R_new' ho0 (Kd.R_lt (ro_ HO_7))) (below_size (hb_ HB))); replace HO_7 := Aside0.mk (Kd.R_elder' (ro_ HO_7) (Kd.R_base ho0) hb); replace BK213 := Aside0.mk (blk_below (bk_ BK213) hb); replace HB := Aside0.mk (below_step (hb_ HB) hb); (try clear hb); (try clear hb2); (try clear hk); (try clear hi); (try clear ho0); obtain ⟨Ao64, co64, eo64⟩ := Kd.R_slice HO_10.out; subst eo64) | ((with_reducible refine gate_callee (f := 39) rfl ?_); refine goesL_ (some 86) rfl rfl Try.func39 (by kernel_rfl) rfl #[.slice Ao64 x10_1.length co64] rfl (by (try simp only [List.map_toArray, List.map_cons, List.map_nil]); first | done | rfl | (simp only [List.length_drop, List.length_take]; rfl)) ?_; (with_reducible refine (acmelaw12_lots.calls _ _ x10_1 t260 _ ?side1 ?side2 A50.out).mono ?_); (case side1 => repeat (first | exact (Kd.R_reads' HO_10.out).2.2 | (with_reducible refine Kd.C_alloc ?_ _) | (with_reducible refine Kd.C_drewN ?_ _) | (with_reducible refine Kd.C_drew ?_))); (case side2 => exact (Kd.R_reads' HO_10.out).2.1); rintro e w65 ⟨v261, rfl, ho0, hb⟩; refine ⟨_, rfl, ?_⟩; replace HO_7 := Aside0.mk (Kd.R_below (ro_ HO_7) hb); replace HO259 := Aside0.mk (Kd.R_below (ro_ HO259) hb); have HO262 := Aside0.mk (Kd.R_lower (Kd.R_new' (Kd.R_new' (Kd.R_new' (Kd.R_new' ho0 (Kd.R_lt (ro_ HO_8))) (Kd.R_lt (ro_ HO_10))) (Kd.R_lt (ro_ HO_11))) (Kd.R_lt (ro_ HO_12))) (below_size (hb_ HB))); replace HO_8 := Aside0.mk (Kd.R_elder' (ro_ HO_8) (Kd.R_base ho0) hb); replace HO_10 := Aside0.mk (Kd.R_elder' (ro_ HO_10) (Kd.R_base ho0) hb); replace HO_11 := Aside0.mk (Kd.R_elder' (ro_ HO_11) (Kd.R_base ho0) hb); replace HO_12 := Aside0.mk (Kd.R_elder' (ro_ HO_12) (Kd.R_base ho0) hb); replace BK213 := Aside0.mk (blk_below (bk_ BK213) hb); replace HB := Aside0.mk (below_step (hb_ HB) hb); (try clear hb); (try clear hb2); (try clear hk); (try clear hi); (try clear ho0); obtain ⟨Ao66, co66, eo66⟩ := Kd.R_slice HO_11.out; subst eo66) | ((with_reducible refine gate_callee (f := 39) rfl ?_); refine goesL_ (some 88) rfl rfl Try.func39 (by kernel_rfl) rfl #[.slice Ao66 x11_1.length co66] rfl (by (try simp only [List.map_toArray, List.map_cons, List.map_nil]); first | done | rfl | (simp only [List.length_drop, List.length_take]; rfl)) ?_; (with_reducible refine (acmelaw12_lots.calls _ _ x11_1 t263 _ ?side1 ?side2 A51.out).mono ?_); (case side1 => repeat (first | exact (Kd.R_reads' HO_11.out).2.2 | (with_reducible refine Kd.C_alloc ?_ _) | (with_reducible refine Kd.C_drewN ?_ _) | (with_reducible refine Kd.C_drew ?_))); (case side2 => exact (Kd.R_reads' HO_11.out).2.1); rintro e w67 ⟨v264, rfl, ho0, hb⟩; refine ⟨_, rfl, ?_⟩; replace HO_7 := Aside0.mk (Kd.R_below (ro_ HO_7) hb); replace HO259 := Aside0.mk (Kd.R_below (ro_ HO259) hb); have HO265 := Aside0.mk (Kd.R_lower (Kd.R_new' (Kd.R_new' (Kd.R_new' (Kd.R_new' (Kd.R_new' ho0 (Kd.R_lt (ro_ HO_8))) (Kd.R_lt (ro_ HO_10))) (Kd.R_lt (ro_ HO_11))) (Kd.R_lt (ro_ HO_12))) (Kd.R_lt (ro_ HO262))) (below_size (hb_ HB))); replace HO_8 := Aside0.mk (Kd.R_elder' (ro_ HO_8) (Kd.R_base ho0) hb); replace HO_10 := Aside0.mk (Kd.R_elder' (ro_ HO_10) (Kd.R_base ho0) hb); replace HO_11 := Aside0.mk (Kd.R_elder' (ro_ HO_11) (Kd.R_base ho0) hb); replace HO_12 := Aside0.mk (Kd.R_elder' (ro_ HO_12) (Kd.R_base ho0) hb); replace HO262 := Aside0.mk (Kd.R_elder' (ro_ HO262) (Kd.R_base ho0) hb); replace BK213 := Aside0.mk (blk_below (bk_ BK213) hb); replace HB := Aside0.mk (below_step (hb_ HB) hb); (try clear hb); (try clear hb2); (try clear hk); (try clear hi); (try clear ho0); obtain ⟨Ao68, co68, eo68⟩ := Kd.R_slice HO259.out; subst eo68; obtain ⟨Ao69, co69, eo69⟩ := Kd.R_slice HO262.out; subst eo69; obtain ⟨Ao70, co70, eo70⟩ := Kd.R_slice HO265.out; subst eo70) | ((with_reducible refine gate_callee (f := 40) rfl ?_); refine goesL_ (some 89) rfl rfl Try.func40 (by kernel_rfl) rfl #[.slice Ao68 t257.length co68, .slice Ao69 t260.length co69, .slice Ao70 t263.length co70] rfl (by (try simp only [List.map_toArray, List.map_cons, List.map_nil]); first | done | rfl | (simp only [List.length_drop, List.length_take]; rfl)) ?_; (with_reducible refine (mill_Culprits.calls _ _ t257 _ _ t260 _ _ t263 t266 t267 _ ?side1 ?side2 ?side3 ?side4 ?side5 ?side6 A52.out).mono ?_); (case side1 => repeat (first | exact (Kd.R_reads' HO259.out).2.2 | (with_reducible refine Kd.C_alloc ?_ _) | (with_reducible refine Kd.C_drewN ?_ _) | (with_reducible refine Kd.C_drew ?_))); (case side2 => exact (Kd.R_reads' HO259.out).2.1); (case side3 => repeat (first | exact (Kd.R_reads' HO262.out).2.2 | (with_reducible refine Kd.C_alloc ?_ _) | (with_reducible refine Kd.C_drewN ?_ _) | (with_reducible refine Kd.C_drew ?_))); (case side4 => exact (Kd.R_reads' HO262.out).2.1); (case side5 => repeat (first | exact (Kd.R_reads' HO265.out).2.2 | (with_reducible refine Kd.C_alloc ?_ _) | (with_reducible refine Kd.C_drewN ?_ _) | (with_reducible refine Kd.C_drew ?_))); (case side6 => exact (Kd.R_reads' HO265.out).2.1); rintro e w71 ⟨v268, rfl, ho0, hb⟩; refine ⟨_, rfl, ?_⟩; replace HO_7 := Aside0.mk (Kd.R_below (ro_ HO_7) hb); replace HO_8 := Aside0.mk (Kd.R_below (ro_ HO_8) hb); replace HO_10 := Aside0.mk (Kd.R_below (ro_ HO_10) hb); replace HO_11 := Aside0.mk (Kd.R_below (ro_ HO_11) hb); replace HO_12 := Aside0.mk (Kd.R_below (ro_ HO_12) hb); replace HO259 := Aside0.mk (Kd.R_below (ro_ HO259) hb); replace HO262 := Aside0.mk (Kd.R_below (ro_ HO262) hb); replace HO265 := Aside0.mk (Kd.R_below (ro_ HO265) hb); have HO269 := Aside0.mk (Kd.R_lower ho0 (below_size (hb_ HB))); replace BK213 := Aside0.mk (blk_below (bk_ BK213) hb); replace HB := Aside0.mk (below_step (hb_ HB) hb); (try clear hb); (try clear hb2); (try clear hk); (try clear hi); (try clear ho0)) | ((with_reducible refine gate_callee (f := 31) rfl ?_); refine goesL_ (some 94) rfl rfl Try.func31 (by kernel_rfl) rfl #[.slice Ao62 t214.length co62] rfl (by (try simp only [List.map_toArray, List.map_cons, List.map_nil]); first | done | rfl | (simp only [List.length_drop, List.length_take]; rfl)) ?_; (with_reducible refine (acmelaw12_runs.calls _ _ t214 t270 _ ?side1 ?side2 A53.out).mono ?_); (case side1 => repeat (first | exact (Kd.R_reads' HO_7.out).2.2 | (with_reducible refine Kd.C_alloc ?_ _) | (with_reducible refine Kd.C_drewN ?_ _) | (with_reducible refine Kd.C_drew ?_))); (case side2 => exact (Kd.R_reads' HO_7.out).2.1); rintro e w72 ⟨v271, rfl, ho0, hb⟩; refine ⟨_, rfl, ?_⟩; replace HO_8 := Aside0.mk (Kd.R_below (ro_ HO_8) hb); replace HO_10 := Aside0.mk (Kd.R_below (ro_ HO_10) hb); replace HO_11 := Aside0.mk (Kd.R_below (ro_ HO_11) hb); replace HO_12 := Aside0.mk (Kd.R_below (ro_ HO_12) hb); replace HO262 := Aside0.mk (Kd.R_below (ro_ HO262) hb); replace HO265 := Aside0.mk (Kd.R_below (ro_ HO265) hb); replace HO269 := Aside0.mk (Kd.R_below (ro_ HO269) hb); have HO272 := Aside0.mk (Kd.R_lower (Kd.R_new' (Kd.R_new' ho0 (Kd.R_lt (ro_ HO_7))) (Kd.R_lt (ro_ HO259))) (below_size (hb_ HB))); replace HO_7 := Aside0.mk (Kd.R_elder' (ro_ HO_7) (Kd.R_base ho0) hb); replace HO259 := Aside0.mk (Kd.R_elder' (ro_ HO259) (Kd.R_base ho0) hb); replace BK213 := Aside0.mk (blk_below (bk_ BK213) hb); replace HB := Aside0.mk (below_step (hb_ HB) hb); (try clear hb); (try clear hb2); (try clear hk); (try clear hi); (try clear ho0)) | ((with_reducible refine gate_callee (f := 39) rfl ?_); refine goesL_ (some 96) rfl rfl Try.func39 (by kernel_rfl) rfl #[.slice Ao64 x10_1.length co64] rfl (by (try simp only [List.map_toArray, List.map_cons, List.map_nil]); first | done | rfl | (simp only [List.length_drop, List.length_take]; rfl)) ?_; (with_reducible refine (acmelaw12_lots.calls _ _ x10_1 t273 _ ?side1 ?side2 A54.out).mono ?_); (case side1 => repeat (first | exact (Kd.R_reads' HO_10.out).2.2 | (with_reducible refine Kd.C_alloc ?_ _) | (with_reducible refine Kd.C_drewN ?_ _) | (with_reducible refine Kd.C_drew ?_))); (case side2 => exact (Kd.R_reads' HO_10.out).2.1); rintro e w73 ⟨v274, rfl, ho0, hb⟩; refine ⟨_, rfl, ?_⟩; replace HO_7 := Aside0.mk (Kd.R_below (ro_ HO_7) hb); replace HO259 := Aside0.mk (Kd.R_below (ro_ HO259) hb); replace HO269 := Aside0.mk (Kd.R_below (ro_ HO269) hb); replace HO272 := Aside0.mk (Kd.R_below (ro_ HO272) hb); have HO275 := Aside0.mk (Kd.R_lower (Kd.R_new' (Kd.R_new' (Kd.R_new' (Kd.R_new' (Kd.R_new' (Kd.R_new' ho0 (Kd.R_lt (ro_ HO_8))) (Kd.R_lt (ro_ HO_10))) (Kd.R_lt (ro_ HO_11))) (Kd.R_lt (ro_ HO_12))) (Kd.R_lt (ro_ HO262))) (Kd.R_lt (ro_ HO265))) (below_size (hb_ HB))); replace HO_8 := Aside0.mk (Kd.R_elder' (ro_ HO_8) (Kd.R_base ho0) hb); replace HO_10 := Aside0.mk (Kd.R_elder' (ro_ HO_10) (Kd.R_base ho0) hb); replace HO_11 := Aside0.mk (Kd.R_elder' (ro_ HO_11) (Kd.R_base ho0) hb); replace HO_12 := Aside0.mk (Kd.R_elder' (ro_ HO_12) (Kd.R_base ho0) hb); replace HO262 := Aside0.mk (Kd.R_elder' (ro_ HO262) (Kd.R_base ho0) hb); replace HO265 := Aside0.mk (Kd.R_elder' (ro_ HO265) (Kd.R_base ho0) hb); replace BK213 := Aside0.mk (blk_below (bk_ BK213) hb); replace HB := Aside0.mk (below_step (hb_ HB) hb); (try clear hb); (try clear hb2); (try clear hk); (try clear hi); (try clear ho0)) | ((with_reducible refine gate_callee (f := 39) rfl ?_); refine goesL_ (some 98) rfl rfl Try.func39 (by kernel_rfl) rfl #[.slice Ao66 x11_1.length co66] rfl (by (try simp only [List.map_toArray, List.map_cons, List.map_nil]); first | done | rfl | (simp only [List.length_drop, List.length_take]; rfl)) ?_; (with_reducible refine (acmelaw12_lots.calls _ _ x11_1 t276 _ ?side1 ?side2 A55.out).mono ?_); (case side1 => repeat (first | exact (Kd.R_reads' HO_11.out).2.2 | (with_reducible refine Kd.C_alloc ?_ _) | (with_reducible refine Kd.C_drewN ?_ _) | (with_reducible refine Kd.C_drew ?_))); (case side2 => exact (Kd.R_reads' HO_11.out).2.1); rintro e w74 ⟨v277, rfl, ho0, hb⟩; refine ⟨_, rfl, ?_⟩; replace HO_7 := Aside0.mk (Kd.R_below (ro_ HO_7) hb); replace HO259 := Aside0.mk (Kd.R_below (ro_ HO259) hb); replace HO269 := Aside0.mk (Kd.R_below (ro_ HO269) hb); replace HO272 := Aside0.mk (Kd.R_below (ro_ HO272) hb); have HO278 := Aside0.mk (Kd.R_lower (Kd.R_new' (Kd.R_new' (Kd.R_new' (Kd.R_new' (Kd.R_new' (Kd.R_new' (Kd.R_new' ho0 (Kd.R_lt (ro_ HO_8))) (Kd.R_lt (ro_ HO_10))) (Kd.R_lt (ro_ HO_11))) (Kd.R_lt (ro_ HO_12))) (Kd.R_lt (ro_ HO262))) (Kd.R_lt (ro_ HO265))) (Kd.R_lt (ro_ HO275))) (below_size (hb_ HB))); replace HO_8 := Aside0.mk (Kd.R_elder' (ro_ HO_8) (Kd.R_base ho0) hb); replace HO_10 := Aside0.mk (Kd.R_elder' (ro_ HO_10) (Kd.R_base ho0) hb); replace HO_11 := Aside0.mk (Kd.R_elder' (ro_ HO_11) (Kd.R_base ho0) hb); replace HO_12 := Aside0.mk (Kd.R_elder' (ro_ HO_12) (Kd.R_base ho0) hb); replace HO262 := Aside0.mk (Kd.R_elder' (ro_ HO262) (Kd.R_base ho0) hb); replace HO265 := Aside0.mk (Kd.R_elder' (ro_ HO265) (Kd.R_base ho0) hb); replace HO275 := Aside0.mk (Kd.R_elder' (ro_ HO275) (Kd.R_base ho0) hb); replace BK213 := Aside0.mk (blk_below (bk_ BK213) hb); replace HB := Aside0.mk (below_step (hb_ HB) hb); (try clear hb); (try clear hb2); (try clear hk); (try clear hi); (try clear ho0); obtain ⟨Ao75, co75, eo75⟩ := Kd.R_slice HO_12.out; subst eo75) | ((with_reducible refine gate_callee (f := 39) rfl ?_); refine goesL_ (some 100) rfl rfl Try.func39 (by kernel_rfl) rfl #[.slice Ao75 x12_1.length co75] rfl (by (try simp only [List.map_toArray, List.map_cons, List.map_nil]); first | done | rfl | (simp only [List.length_drop, List.length_take]; rfl)) ?_; (with_reducible refine (acmelaw12_lots.calls _ _ x12_1 t279 _ ?side1 ?side2 A56.out).mono ?_); (case side1 => repeat (first | exact (Kd.R_reads' HO_12.out).2.2 | (with_reducible refine Kd.C_alloc ?_ _) | (with_reducible refine Kd.C_drewN ?_ _) | (with_reducible refine Kd.C_drew ?_))); (case side2 => exact (Kd.R_reads' HO_12.out).2.1); rintro e w76 ⟨v280, rfl, ho0, hb⟩; refine ⟨_, rfl, ?_⟩; replace HO_7 := Aside0.mk (Kd.R_below (ro_ HO_7) hb); replace HO259 := Aside0.mk (Kd.R_below (ro_ HO259) hb); replace HO269 := Aside0.mk (Kd.R_below (ro_ HO269) hb); replace HO272 := Aside0.mk (Kd.R_below (ro_ HO272) hb); have HO281 := Aside0.mk (Kd.R_lower (Kd.R_new' (Kd.R_new' (Kd.R_new' (Kd.R_new' (Kd.R_new' (Kd.R_new' (Kd.R_new' (Kd.R_new' ho0 (Kd.R_lt (ro_ HO_8))) (Kd.R_lt (ro_ HO_10))) (Kd.R_lt (ro_ HO_11))) (Kd.R_lt (ro_ HO_12))) (Kd.R_lt (ro_ HO262))) (Kd.R_lt (ro_ HO265))) (Kd.R_lt (ro_ HO275))) (Kd.R_lt (ro_ HO278))) (below_size (hb_ HB))); replace HO_8 := Aside0.mk (Kd.R_elder' (ro_ HO_8) (Kd.R_base ho0) hb); replace HO_10 := Aside0.mk (Kd.R_elder' (ro_ HO_10) (Kd.R_base ho0) hb); replace HO_11 := Aside0.mk (Kd.R_elder' (ro_ HO_11) (Kd.R_base ho0) hb); replace HO_12 := Aside0.mk (Kd.R_elder' (ro_ HO_12) (Kd.R_base ho0) hb); replace HO262 := Aside0.mk (Kd.R_elder' (ro_ HO262) (Kd.R_base ho0) hb); replace HO265 := Aside0.mk (Kd.R_elder' (ro_ HO265) (Kd.R_base ho0) hb); replace HO275 := Aside0.mk (Kd.R_elder' (ro_ HO275) (Kd.R_base ho0) hb); replace HO278 := Aside0.mk (Kd.R_elder' (ro_ HO278) (Kd.R_base ho0) hb); replace BK213 := Aside0.mk (blk_below (bk_ BK213) hb); replace HB := Aside0.mk (below_step (hb_ HB) hb); (try clear hb); (try clear hb2); (try clear hk); (try clear hi); (try clear ho0); obtain ⟨Ao77, co77, eo77⟩ := Kd.R_slice HO272.out; subst eo77; obtain ⟨Ao78, co78, eo78⟩ := Kd.R_slice HO275.out; subst eo78; obtain ⟨Ao79, co79, eo79⟩ := Kd.R_slice HO278.out; subst eo79; obtain ⟨Ao80, co80, eo80⟩ := Kd.R_slice HO281.out; subst eo80) | ((with_reducible refine gate_callee (f := 44) rfl ?_); refine goesL_ (some 101) rfl rfl Try.func44 (by kernel_rfl) rfl #[.slice Ao77 t270.length co77, .slice Ao78 t273.length co78, .slice Ao79 t276.length co79, .slice Ao80 t279.length co80] rfl (by (try simp only [List.map_toArray, List.map_cons, List.map_nil]); first | done | rfl | (simp only [List.length_drop, List.length_take]; rfl)) ?_; (with_reducible refine (mill_Next.calls _ _ t270 _ _ t273 _ _ t276 _ _ t279 t282 t283 t284 _ ?side1 ?side2 ?side3 ?side4 ?side5 ?side6 ?side7 ?side8 A57.out).mono ?_); (case side1 => repeat (first | exact (Kd.R_reads' HO272.out).2.2 | (with_reducible refine Kd.C_alloc ?_ _) | (with_reducible refine Kd.C_drewN ?_ _) | (with_reducible refine Kd.C_drew ?_))); (case side2 => exact (Kd.R_reads' HO272.out).2.1); (case side3 => repeat (first | exact (Kd.R_reads' HO275.out).2.2 | (with_reducible refine Kd.C_alloc ?_ _) | (with_reducible refine Kd.C_drewN ?_ _) | (with_reducible refine Kd.C_drew ?_))); (case side4 => exact (Kd.R_reads' HO275.out).2.1); (case side5 => repeat (first | exact (Kd.R_reads' HO278.out).2.2 | (with_reducible refine Kd.C_alloc ?_ _) | (with_reducible refine Kd.C_drewN ?_ _) | (with_reducible refine Kd.C_drew ?_))); (case side6 => exact (Kd.R_reads' HO278.out).2.1); (case side7 => repeat (first | exact (Kd.R_reads' HO281.out).2.2 | (with_reducible refine Kd.C_alloc ?_ _) | (with_reducible refine Kd.C_drewN ?_ _) | (with_reducible refine Kd.C_drew ?_))); (case side8 => exact (Kd.R_reads' HO281.out).2.1); rintro e w81 ⟨rfl, hb⟩; refine ⟨_, rfl, ?_⟩; replace HO_7 := Aside0.mk (Kd.R_below (ro_ HO_7) hb); replace HO_8 := Aside0.mk (Kd.R_below (ro_ HO_8) hb); replace HO_10 := Aside0.mk (Kd.R_below (ro_ HO_10) hb); replace HO_11 := Aside0.mk (Kd.R_below (ro_ HO_11) hb); replace HO_12 := Aside0.mk (Kd.R_below (ro_ HO_12) hb); replace HO259 := Aside0.mk (Kd.R_below (ro_ HO259) hb); replace HO262 := Aside0.mk (Kd.R_below (ro_ HO262) hb); replace HO265 := Aside0.mk (Kd.R_below (ro_ HO265) hb); replace HO269 := Aside0.mk (Kd.R_below (ro_ HO269) hb); replace HO272 := Aside0.mk (Kd.R_below (ro_ HO272) hb); replace HO275 := Aside0.mk (Kd.R_below (ro_ HO275) hb); replace HO278 := Aside0.mk (Kd.R_below (ro_ HO278) hb); replace HO281 := Aside0.mk (Kd.R_below (ro_ HO281) hb); replace BK213 := Aside0.mk (blk_below (bk_ BK213) hb); replace HB := Aside0.mk (below_step (hb_ HB) hb); (try clear hb); (try clear hb2); (try clear hk); (try clear hi)) | (go_at_call 15; (with_reducible refine (acmelaw12_known.calls  t285 _ A61.out).mono ?_); rintro e w82 ⟨rfl, hb⟩; replace HO_7 := Aside0.mk (Kd.R_below (ro_ HO_7) hb); replace HO_8 := Aside0.mk (Kd.R_below (ro_ HO_8) hb); replace HO_10 := Aside0.mk (Kd.R_below (ro_ HO_10) hb); replace HO_11 := Aside0.mk (Kd.R_below (ro_ HO_11) hb); replace HO_12 := Aside0.mk (Kd.R_below (ro_ HO_12) hb); replace HO259 := Aside0.mk (Kd.R_below (ro_ HO259) hb); replace HO262 := Aside0.mk (Kd.R_below (ro_ HO262) hb); replace HO265 := Aside0.mk (Kd.R_below (ro_ HO265) hb); replace HO269 := Aside0.mk (Kd.R_below (ro_ HO269) hb); replace HO272 := Aside0.mk (Kd.R_below (ro_ HO272) hb); replace HO275 := Aside0.mk (Kd.R_below (ro_ HO275) hb); replace HO278 := Aside0.mk (Kd.R_below (ro_ HO278) hb); replace HO281 := Aside0.mk (Kd.R_below (ro_ HO281) hb); replace BK213 := Aside0.mk (blk_below (bk_ BK213) hb); replace HB := Aside0.mk (below_step (hb_ HB) hb); (try clear hb); (try clear hb2); (try clear hk); (try clear hi)))
   go_ret
   exact ⟨by first | rfl | (simp [errW_none, errW_some] <;> rfl) | (simp only [← hji6]; first | rfl | (simp [errW_none, errW_some] <;> rfl)) | (simp [*, errW_none, errW_some] <;> rfl), by repeat (first | (with_reducible first | exact HB.out | apply below_alloc | apply pw_below_drewN | apply below_drew1 | refine below_set ?_ (Aside0.out (by assumption))) | exact HB.out)⟩
  rw [if_neg c58] at H
  have c58b0 : ((x10_1.length : Int) == 0) = false := beq_eq_false_iff_ne.mpr c58
  have c58b1 : ((x10_1.length : Int) != 0) = true := bne_iff_ne.mpr c58
  have c58b2 : ¬ (x10_1 = []) := fun h_ => c58 (by rw [h_]; rfl)
  by_cases c83 : t267 = 0
  ·rw [if_pos c83] at H
   have c83b0 : (t267 == 0) = true := beq_iff_eq.mpr c83
   have c83b1 : (t267 != 0) = false := bne_eq_false_iff_eq.mpr c83
   clear c83
   have HC84 := Aside0.mk H
   clear H
   obtain ⟨Ao85, co85, eo85⟩ := Kd.R_slice HO_7.out
   subst eo85
   go_upto_region 18 with (first | ((with_reducible refine gate_callee (f := 31) rfl ?_); refine goesL_ (some 84) rfl rfl Try.func31 (by kernel_rfl) rfl #[.slice Ao85 t214.length co85] rfl (by (try simp only [List.map_toArray, List.map_cons, List.map_nil]); first | done | rfl | (simp only [List.length_drop, List.length_take]; rfl)) ?_; (with_reducible refine (acmelaw12_runs.calls _ _ t214 t257 _ ?side1 ?side2 A49.out).mono ?_); (case side1 => repeat (first | exact (Kd.R_reads' HO_7.out).2.2 | (with_reducible refine Kd.C_alloc ?_ _) | (with_reducible refine Kd.C_drewN ?_ _) | (with_reducible refine Kd.C_drew ?_))); (case side2 => exact (Kd.R_reads' HO_7.out).2.1); rintro e w86 ⟨v258, rfl, ho0, hb⟩; refine ⟨_, rfl, ?_⟩; replace HO_8 := Aside0.mk (Kd.R_below (ro_ HO_8) hb); replace HO_10 := Aside0.mk (Kd.R_below (ro_ HO_10) hb); replace HO_11 := Aside0.mk (Kd.R_below (ro_ HO_11) hb); replace HO_12 := Aside0.mk (Kd.R_below (ro_ HO_12) hb); have HO259 := Aside0.mk (Kd.R_lower (Kd.R_new' ho0 (Kd.R_lt (ro_ HO_7))) (below_size (hb_ HB))); replace HO_7 := Aside0.mk (Kd.R_elder' (ro_ HO_7) (Kd.R_base ho0) hb); replace BK213 := Aside0.mk (blk_below (bk_ BK213) hb); replace HB := Aside0.mk (below_step (hb_ HB) hb); (try clear hb); (try clear hb2); (try clear hk); (try clear hi); (try clear ho0); obtain ⟨Ao87, co87, eo87⟩ := Kd.R_slice HO_10.out; subst eo87) | ((with_reducible refine gate_callee (f := 39) rfl ?_); refine goesL_ (some 86) rfl rfl Try.func39 (by kernel_rfl) rfl #[.slice Ao87 x10_1.length co87] rfl (by (try simp only [List.map_toArray, List.map_cons, List.map_nil]); first | done | rfl | (simp only [List.length_drop, List.length_take]; rfl)) ?_; (with_reducible refine (acmelaw12_lots.calls _ _ x10_1 t260 _ ?side1 ?side2 A50.out).mono ?_); (case side1 => repeat (first | exact (Kd.R_reads' HO_10.out).2.2 | (with_reducible refine Kd.C_alloc ?_ _) | (with_reducible refine Kd.C_drewN ?_ _) | (with_reducible refine Kd.C_drew ?_))); (case side2 => exact (Kd.R_reads' HO_10.out).2.1); rintro e w88 ⟨v261, rfl, ho0, hb⟩; refine ⟨_, rfl, ?_⟩; replace HO_7 := Aside0.mk (Kd.R_below (ro_ HO_7) hb); replace HO259 := Aside0.mk (Kd.R_below (ro_ HO259) hb); have HO262 := Aside0.mk (Kd.R_lower (Kd.R_new' (Kd.R_new' (Kd.R_new' (Kd.R_new' ho0 (Kd.R_lt (ro_ HO_8))) (Kd.R_lt (ro_ HO_10))) (Kd.R_lt (ro_ HO_11))) (Kd.R_lt (ro_ HO_12))) (below_size (hb_ HB))); replace HO_8 := Aside0.mk (Kd.R_elder' (ro_ HO_8) (Kd.R_base ho0) hb); replace HO_10 := Aside0.mk (Kd.R_elder' (ro_ HO_10) (Kd.R_base ho0) hb); replace HO_11 := Aside0.mk (Kd.R_elder' (ro_ HO_11) (Kd.R_base ho0) hb); replace HO_12 := Aside0.mk (Kd.R_elder' (ro_ HO_12) (Kd.R_base ho0) hb); replace BK213 := Aside0.mk (blk_below (bk_ BK213) hb); replace HB := Aside0.mk (below_step (hb_ HB) hb); (try clear hb); (try clear hb2); (try clear hk); (try clear hi); (try clear ho0); obtain ⟨Ao89, co89, eo89⟩ := Kd.R_slice HO_11.out; subst eo89) | ((with_reducible refine gate_callee (f := 39) rfl ?_); refine goesL_ (some 88) rfl rfl Try.func39 (by kernel_rfl) rfl #[.slice Ao89 x11_1.length co89] rfl (by (try simp only [List.map_toArray, List.map_cons, List.map_nil]); first | done | rfl | (simp only [List.length_drop, List.length_take]; rfl)) ?_; (with_reducible refine (acmelaw12_lots.calls _ _ x11_1 t263 _ ?side1 ?side2 A51.out).mono ?_); (case side1 => repeat (first | exact (Kd.R_reads' HO_11.out).2.2 | (with_reducible refine Kd.C_alloc ?_ _) | (with_reducible refine Kd.C_drewN ?_ _) | (with_reducible refine Kd.C_drew ?_))); (case side2 => exact (Kd.R_reads' HO_11.out).2.1); rintro e w90 ⟨v264, rfl, ho0, hb⟩; refine ⟨_, rfl, ?_⟩; replace HO_7 := Aside0.mk (Kd.R_below (ro_ HO_7) hb); replace HO259 := Aside0.mk (Kd.R_below (ro_ HO259) hb); have HO265 := Aside0.mk (Kd.R_lower (Kd.R_new' (Kd.R_new' (Kd.R_new' (Kd.R_new' (Kd.R_new' ho0 (Kd.R_lt (ro_ HO_8))) (Kd.R_lt (ro_ HO_10))) (Kd.R_lt (ro_ HO_11))) (Kd.R_lt (ro_ HO_12))) (Kd.R_lt (ro_ HO262))) (below_size (hb_ HB))); replace HO_8 := Aside0.mk (Kd.R_elder' (ro_ HO_8) (Kd.R_base ho0) hb); replace HO_10 := Aside0.mk (Kd.R_elder' (ro_ HO_10) (Kd.R_base ho0) hb); replace HO_11 := Aside0.mk (Kd.R_elder' (ro_ HO_11) (Kd.R_base ho0) hb); replace HO_12 := Aside0.mk (Kd.R_elder' (ro_ HO_12) (Kd.R_base ho0) hb); replace HO262 := Aside0.mk (Kd.R_elder' (ro_ HO262) (Kd.R_base ho0) hb); replace BK213 := Aside0.mk (blk_below (bk_ BK213) hb); replace HB := Aside0.mk (below_step (hb_ HB) hb); (try clear hb); (try clear hb2); (try clear hk); (try clear hi); (try clear ho0); obtain ⟨Ao91, co91, eo91⟩ := Kd.R_slice HO259.out; subst eo91; obtain ⟨Ao92, co92, eo92⟩ := Kd.R_slice HO262.out; subst eo92; obtain ⟨Ao93, co93, eo93⟩ := Kd.R_slice HO265.out; subst eo93) | ((with_reducible refine gate_callee (f := 40) rfl ?_); refine goesL_ (some 89) rfl rfl Try.func40 (by kernel_rfl) rfl #[.slice Ao91 t257.length co91, .slice Ao92 t260.length co92, .slice Ao93 t263.length co93] rfl (by (try simp only [List.map_toArray, List.map_cons, List.map_nil]); first | done | rfl | (simp only [List.length_drop, List.length_take]; rfl)) ?_; (with_reducible refine (mill_Culprits.calls _ _ t257 _ _ t260 _ _ t263 t266 t267 _ ?side1 ?side2 ?side3 ?side4 ?side5 ?side6 A52.out).mono ?_); (case side1 => repeat (first | exact (Kd.R_reads' HO259.out).2.2 | (with_reducible refine Kd.C_alloc ?_ _) | (with_reducible refine Kd.C_drewN ?_ _) | (with_reducible refine Kd.C_drew ?_))); (case side2 => exact (Kd.R_reads' HO259.out).2.1); (case side3 => repeat (first | exact (Kd.R_reads' HO262.out).2.2 | (with_reducible refine Kd.C_alloc ?_ _) | (with_reducible refine Kd.C_drewN ?_ _) | (with_reducible refine Kd.C_drew ?_))); (case side4 => exact (Kd.R_reads' HO262.out).2.1); (case side5 => repeat (first | exact (Kd.R_reads' HO265.out).2.2 | (with_reducible refine Kd.C_alloc ?_ _) | (with_reducible refine Kd.C_drewN ?_ _) | (with_reducible refine Kd.C_drew ?_))); (case side6 => exact (Kd.R_reads' HO265.out).2.1); rintro e w94 ⟨v268, rfl, ho0, hb⟩; refine ⟨_, rfl, ?_⟩; replace HO_7 := Aside0.mk (Kd.R_below (ro_ HO_7) hb); replace HO_8 := Aside0.mk (Kd.R_below (ro_ HO_8) hb); replace HO_10 := Aside0.mk (Kd.R_below (ro_ HO_10) hb); replace HO_11 := Aside0.mk (Kd.R_below (ro_ HO_11) hb); replace HO_12 := Aside0.mk (Kd.R_below (ro_ HO_12) hb); replace HO259 := Aside0.mk (Kd.R_below (ro_ HO259) hb); replace HO262 := Aside0.mk (Kd.R_below (ro_ HO262) hb); replace HO265 := Aside0.mk (Kd.R_below (ro_ HO265) hb); have HO269 := Aside0.mk (Kd.R_lower ho0 (below_size (hb_ HB))); replace BK213 := Aside0.mk (blk_below (bk_ BK213) hb); replace HB := Aside0.mk (below_step (hb_ HB) hb); (try clear hb); (try clear hb2); (try clear hk); (try clear hi); (try clear ho0)) | ((with_reducible refine gate_callee (f := 31) rfl ?_); refine goesL_ (some 94) rfl rfl Try.func31 (by kernel_rfl) rfl #[.slice Ao85 t214.length co85] rfl (by (try simp only [List.map_toArray, List.map_cons, List.map_nil]); first | done | rfl | (simp only [List.length_drop, List.length_take]; rfl)) ?_; (with_reducible refine (acmelaw12_runs.calls _ _ t214 t270 _ ?side1 ?side2 A53.out).mono ?_); (case side1 => repeat (first | exact (Kd.R_reads' HO_7.out).2.2 | (with_reducible refine Kd.C_alloc ?_ _) | (with_reducible refine Kd.C_drewN ?_ _) | (with_reducible refine Kd.C_drew ?_))); (case side2 => exact (Kd.R_reads' HO_7.out).2.1); rintro e w95 ⟨v271, rfl, ho0, hb⟩; refine ⟨_, rfl, ?_⟩; replace HO_8 := Aside0.mk (Kd.R_below (ro_ HO_8) hb); replace HO_10 := Aside0.mk (Kd.R_below (ro_ HO_10) hb); replace HO_11 := Aside0.mk (Kd.R_below (ro_ HO_11) hb); replace HO_12 := Aside0.mk (Kd.R_below (ro_ HO_12) hb); replace HO262 := Aside0.mk (Kd.R_below (ro_ HO262) hb); replace HO265 := Aside0.mk (Kd.R_below (ro_ HO265) hb); replace HO269 := Aside0.mk (Kd.R_below (ro_ HO269) hb); have HO272 := Aside0.mk (Kd.R_lower (Kd.R_new' (Kd.R_new' ho0 (Kd.R_lt (ro_ HO_7))) (Kd.R_lt (ro_ HO259))) (below_size (hb_ HB))); replace HO_7 := Aside0.mk (Kd.R_elder' (ro_ HO_7) (Kd.R_base ho0) hb); replace HO259 := Aside0.mk (Kd.R_elder' (ro_ HO259) (Kd.R_base ho0) hb); replace BK213 := Aside0.mk (blk_below (bk_ BK213) hb); replace HB := Aside0.mk (below_step (hb_ HB) hb); (try clear hb); (try clear hb2); (try clear hk); (try clear hi); (try clear ho0)) | ((with_reducible refine gate_callee (f := 39) rfl ?_); refine goesL_ (some 96) rfl rfl Try.func39 (by kernel_rfl) rfl #[.slice Ao87 x10_1.length co87] rfl (by (try simp only [List.map_toArray, List.map_cons, List.map_nil]); first | done | rfl | (simp only [List.length_drop, List.length_take]; rfl)) ?_; (with_reducible refine (acmelaw12_lots.calls _ _ x10_1 t273 _ ?side1 ?side2 A54.out).mono ?_); (case side1 => repeat (first | exact (Kd.R_reads' HO_10.out).2.2 | (with_reducible refine Kd.C_alloc ?_ _) | (with_reducible refine Kd.C_drewN ?_ _) | (with_reducible refine Kd.C_drew ?_))); (case side2 => exact (Kd.R_reads' HO_10.out).2.1); rintro e w96 ⟨v274, rfl, ho0, hb⟩; refine ⟨_, rfl, ?_⟩; replace HO_7 := Aside0.mk (Kd.R_below (ro_ HO_7) hb); replace HO259 := Aside0.mk (Kd.R_below (ro_ HO259) hb); replace HO269 := Aside0.mk (Kd.R_below (ro_ HO269) hb); replace HO272 := Aside0.mk (Kd.R_below (ro_ HO272) hb); have HO275 := Aside0.mk (Kd.R_lower (Kd.R_new' (Kd.R_new' (Kd.R_new' (Kd.R_new' (Kd.R_new' (Kd.R_new' ho0 (Kd.R_lt (ro_ HO_8))) (Kd.R_lt (ro_ HO_10))) (Kd.R_lt (ro_ HO_11))) (Kd.R_lt (ro_ HO_12))) (Kd.R_lt (ro_ HO262))) (Kd.R_lt (ro_ HO265))) (below_size (hb_ HB))); replace HO_8 := Aside0.mk (Kd.R_elder' (ro_ HO_8) (Kd.R_base ho0) hb); replace HO_10 := Aside0.mk (Kd.R_elder' (ro_ HO_10) (Kd.R_base ho0) hb); replace HO_11 := Aside0.mk (Kd.R_elder' (ro_ HO_11) (Kd.R_base ho0) hb); replace HO_12 := Aside0.mk (Kd.R_elder' (ro_ HO_12) (Kd.R_base ho0) hb); replace HO262 := Aside0.mk (Kd.R_elder' (ro_ HO262) (Kd.R_base ho0) hb); replace HO265 := Aside0.mk (Kd.R_elder' (ro_ HO265) (Kd.R_base ho0) hb); replace BK213 := Aside0.mk (blk_below (bk_ BK213) hb); replace HB := Aside0.mk (below_step (hb_ HB) hb); (try clear hb); (try clear hb2); (try clear hk); (try clear hi); (try clear ho0)) | ((with_reducible refine gate_callee (f := 39) rfl ?_); refine goesL_ (some 98) rfl rfl Try.func39 (by kernel_rfl) rfl #[.slice Ao89 x11_1.length co89] rfl (by (try simp only [List.map_toArray, List.map_cons, List.map_nil]); first | done | rfl | (simp only [List.length_drop, List.length_take]; rfl)) ?_; (with_reducible refine (acmelaw12_lots.calls _ _ x11_1 t276 _ ?side1 ?side2 A55.out).mono ?_); (case side1 => repeat (first | exact (Kd.R_reads' HO_11.out).2.2 | (with_reducible refine Kd.C_alloc ?_ _) | (with_reducible refine Kd.C_drewN ?_ _) | (with_reducible refine Kd.C_drew ?_))); (case side2 => exact (Kd.R_reads' HO_11.out).2.1); rintro e w97 ⟨v277, rfl, ho0, hb⟩; refine ⟨_, rfl, ?_⟩; replace HO_7 := Aside0.mk (Kd.R_below (ro_ HO_7) hb); replace HO259 := Aside0.mk (Kd.R_below (ro_ HO259) hb); replace HO269 := Aside0.mk (Kd.R_below (ro_ HO269) hb); replace HO272 := Aside0.mk (Kd.R_below (ro_ HO272) hb); have HO278 := Aside0.mk (Kd.R_lower (Kd.R_new' (Kd.R_new' (Kd.R_new' (Kd.R_new' (Kd.R_new' (Kd.R_new' (Kd.R_new' ho0 (Kd.R_lt (ro_ HO_8))) (Kd.R_lt (ro_ HO_10))) (Kd.R_lt (ro_ HO_11))) (Kd.R_lt (ro_ HO_12))) (Kd.R_lt (ro_ HO262))) (Kd.R_lt (ro_ HO265))) (Kd.R_lt (ro_ HO275))) (below_size (hb_ HB))); replace HO_8 := Aside0.mk (Kd.R_elder' (ro_ HO_8) (Kd.R_base ho0) hb); replace HO_10 := Aside0.mk (Kd.R_elder' (ro_ HO_10) (Kd.R_base ho0) hb); replace HO_11 := Aside0.mk (Kd.R_elder' (ro_ HO_11) (Kd.R_base ho0) hb); replace HO_12 := Aside0.mk (Kd.R_elder' (ro_ HO_12) (Kd.R_base ho0) hb); replace HO262 := Aside0.mk (Kd.R_elder' (ro_ HO262) (Kd.R_base ho0) hb); replace HO265 := Aside0.mk (Kd.R_elder' (ro_ HO265) (Kd.R_base ho0) hb); replace HO275 := Aside0.mk (Kd.R_elder' (ro_ HO275) (Kd.R_base ho0) hb); replace BK213 := Aside0.mk (blk_below (bk_ BK213) hb); replace HB := Aside0.mk (below_step (hb_ HB) hb); (try clear hb); (try clear hb2); (try clear hk); (try clear hi); (try clear ho0); obtain ⟨Ao98, co98, eo98⟩ := Kd.R_slice HO_12.out; subst eo98) | ((with_reducible refine gate_callee (f := 39) rfl ?_); refine goesL_ (some 100) rfl rfl Try.func39 (by kernel_rfl) rfl #[.slice Ao98 x12_1.length co98] rfl (by (try simp only [List.map_toArray, List.map_cons, List.map_nil]); first | done | rfl | (simp only [List.length_drop, List.length_take]; rfl)) ?_; (with_reducible refine (acmelaw12_lots.calls _ _ x12_1 t279 _ ?side1 ?side2 A56.out).mono ?_); (case side1 => repeat (first | exact (Kd.R_reads' HO_12.out).2.2 | (with_reducible refine Kd.C_alloc ?_ _) | (with_reducible refine Kd.C_drewN ?_ _) | (with_reducible refine Kd.C_drew ?_))); (case side2 => exact (Kd.R_reads' HO_12.out).2.1); rintro e w99 ⟨v280, rfl, ho0, hb⟩; refine ⟨_, rfl, ?_⟩; replace HO_7 := Aside0.mk (Kd.R_below (ro_ HO_7) hb); replace HO259 := Aside0.mk (Kd.R_below (ro_ HO259) hb); replace HO269 := Aside0.mk (Kd.R_below (ro_ HO269) hb); replace HO272 := Aside0.mk (Kd.R_below (ro_ HO272) hb); have HO281 := Aside0.mk (Kd.R_lower (Kd.R_new' (Kd.R_new' (Kd.R_new' (Kd.R_new' (Kd.R_new' (Kd.R_new' (Kd.R_new' (Kd.R_new' ho0 (Kd.R_lt (ro_ HO_8))) (Kd.R_lt (ro_ HO_10))) (Kd.R_lt (ro_ HO_11))) (Kd.R_lt (ro_ HO_12))) (Kd.R_lt (ro_ HO262))) (Kd.R_lt (ro_ HO265))) (Kd.R_lt (ro_ HO275))) (Kd.R_lt (ro_ HO278))) (below_size (hb_ HB))); replace HO_8 := Aside0.mk (Kd.R_elder' (ro_ HO_8) (Kd.R_base ho0) hb); replace HO_10 := Aside0.mk (Kd.R_elder' (ro_ HO_10) (Kd.R_base ho0) hb); replace HO_11 := Aside0.mk (Kd.R_elder' (ro_ HO_11) (Kd.R_base ho0) hb); replace HO_12 := Aside0.mk (Kd.R_elder' (ro_ HO_12) (Kd.R_base ho0) hb); replace HO262 := Aside0.mk (Kd.R_elder' (ro_ HO262) (Kd.R_base ho0) hb); replace HO265 := Aside0.mk (Kd.R_elder' (ro_ HO265) (Kd.R_base ho0) hb); replace HO275 := Aside0.mk (Kd.R_elder' (ro_ HO275) (Kd.R_base ho0) hb); replace HO278 := Aside0.mk (Kd.R_elder' (ro_ HO278) (Kd.R_base ho0) hb); replace BK213 := Aside0.mk (blk_below (bk_ BK213) hb); replace HB := Aside0.mk (below_step (hb_ HB) hb); (try clear hb); (try clear hb2); (try clear hk); (try clear hi); (try clear ho0); obtain ⟨Ao100, co100, eo100⟩ := Kd.R_slice HO272.out; subst eo100; obtain ⟨Ao101, co101, eo101⟩ := Kd.R_slice HO275.out; subst eo101; obtain ⟨Ao102, co102, eo102⟩ := Kd.R_slice HO278.out; subst eo102; obtain ⟨Ao103, co103, eo103⟩ := Kd.R_slice HO281.out; subst eo103) | ((with_reducible refine gate_callee (f := 44) rfl ?_); refine goesL_ (some 101) rfl rfl Try.func44 (by kernel_rfl) rfl #[.slice Ao100 t270.length co100, .slice Ao101 t273.length co101, .slice Ao102 t276.length co102, .slice Ao103 t279.length co103] rfl (by (try simp only [List.map_toArray, List.map_cons, List.map_nil]); first | done | rfl | (simp only [List.length_drop, List.length_take]; rfl)) ?_; (with_reducible refine (mill_Next.calls _ _ t270 _ _ t273 _ _ t276 _ _ t279 t282 t283 t284 _ ?side1 ?side2 ?side3 ?side4 ?side5 ?side6 ?side7 ?side8 A57.out).mono ?_); (case side1 => repeat (first | exact (Kd.R_reads' HO272.out).2.2 | (with_reducible refine Kd.C_alloc ?_ _) | (with_reducible refine Kd.C_drewN ?_ _) | (with_reducible refine Kd.C_drew ?_))); (case side2 => exact (Kd.R_reads' HO272.out).2.1); (case side3 => repeat (first | exact (Kd.R_reads' HO275.out).2.2 | (with_reducible refine Kd.C_alloc ?_ _) | (with_reducible refine Kd.C_drewN ?_ _) | (with_reducible refine Kd.C_drew ?_))); (case side4 => exact (Kd.R_reads' HO275.out).2.1); (case side5 => repeat (first | exact (Kd.R_reads' HO278.out).2.2 | (with_reducible refine Kd.C_alloc ?_ _) | (with_reducible refine Kd.C_drewN ?_ _) | (with_reducible refine Kd.C_drew ?_))); (case side6 => exact (Kd.R_reads' HO278.out).2.1); (case side7 => repeat (first | exact (Kd.R_reads' HO281.out).2.2 | (with_reducible refine Kd.C_alloc ?_ _) | (with_reducible refine Kd.C_drewN ?_ _) | (with_reducible refine Kd.C_drew ?_))); (case side8 => exact (Kd.R_reads' HO281.out).2.1); rintro e w104 ⟨rfl, hb⟩; refine ⟨_, rfl, ?_⟩; replace HO_7 := Aside0.mk (Kd.R_below (ro_ HO_7) hb); replace HO_8 := Aside0.mk (Kd.R_below (ro_ HO_8) hb); replace HO_10 := Aside0.mk (Kd.R_below (ro_ HO_10) hb); replace HO_11 := Aside0.mk (Kd.R_below (ro_ HO_11) hb); replace HO_12 := Aside0.mk (Kd.R_below (ro_ HO_12) hb); replace HO259 := Aside0.mk (Kd.R_below (ro_ HO259) hb); replace HO262 := Aside0.mk (Kd.R_below (ro_ HO262) hb); replace HO265 := Aside0.mk (Kd.R_below (ro_ HO265) hb); replace HO269 := Aside0.mk (Kd.R_below (ro_ HO269) hb); replace HO272 := Aside0.mk (Kd.R_below (ro_ HO272) hb); replace HO275 := Aside0.mk (Kd.R_below (ro_ HO275) hb); replace HO278 := Aside0.mk (Kd.R_below (ro_ HO278) hb); replace HO281 := Aside0.mk (Kd.R_below (ro_ HO281) hb); replace BK213 := Aside0.mk (blk_below (bk_ BK213) hb); replace HB := Aside0.mk (below_step (hb_ HB) hb); (try clear hb); (try clear hb2); (try clear hk); (try clear hi)))
   (try simp only [Act.put, sa_, s0_, s1_])
   go_cut [127] (fun v127 wc => ∃ (kq : Nat) (x127_83 : Bool), v127 = .bool x127_83 ∧ Aside0 (acmelaw12_MillNarrowed.j1 kq t214 x10_1 x11_1 x12_1 t266 t282 t283 t284 x127_83 = some r) ∧ Aside0 (kq ≤ k1) ∧ Aside0 (Kd.R k144 144 wc w.heap.size (fun _ => True) (.slice Ao85 t214.length co85) t214) ∧ Aside0 (Kd.R k58 58 wc w.heap.size (fun k_ => some k_ ≠ ((.slice Ao89 x11_1.length co89) : Value).ownBlock ∧ some k_ ≠ ((.slice Ao98 x12_1.length co98) : Value).ownBlock) (.slice Ao87 x10_1.length co87) x10_1) ∧ Aside0 (Kd.R k58 58 wc w.heap.size (fun k_ => some k_ ≠ ((.slice Ao87 x10_1.length co87) : Value).ownBlock ∧ some k_ ≠ ((.slice Ao98 x12_1.length co98) : Value).ownBlock) (.slice Ao89 x11_1.length co89) x11_1) ∧ Aside0 (Kd.R k58 58 wc w.heap.size (fun k_ => some k_ ≠ ((.slice Ao87 x10_1.length co87) : Value).ownBlock ∧ some k_ ≠ ((.slice Ao89 x11_1.length co89) : Value).ownBlock) (.slice Ao98 x12_1.length co98) x12_1) ∧ Aside0 (Kd.R k79 79 wc w.heap.size (fun _ => True) v268 t266) ∧ Aside0 (wc.heap[gb213]? = some (.cells #[(.slice A0_0 l0_0.length c0_0), (.slice A0_1 l0_1.length c0_1)] 113 (0, 0))) ∧ Aside0 (Below w.heap.size w wc))
   case first => as_aux_lemma =>
    have H := HC84.out
    clear HC84
    by_cases c105 : (x12_1.length : Int) = 0
    ·rw [if_pos c105] at H
     have c105b0 : ((x12_1.length : Int) == 0) = true := beq_iff_eq.mpr c105
     have c105b1 : ((x12_1.length : Int) != 0) = false := bne_eq_false_iff_eq.mpr c105
     clear c105
     (first | rw [c105b0] | (simp only [i64_w, i32_w]; rw [c105b0]) | skip)
     have H' := Aside0.mk H
     clear H
     go_wp2
     go_meet
     case rel => exact ⟨_, (true), (by first | rfl | (simp; done) | (simp [*]; done)), H', ⟨by have := HK1.out; first | omega | exact Nat.le_refl _⟩, ⟨by (with_reducible repeat (first | apply Kd.R_alloc | apply Kd.R_drewN | apply Kd.R_drew)); exact Kd.R_mono HO_7.out (fun _ hk => trivial)⟩, ⟨by (with_reducible repeat (first | apply Kd.R_alloc | apply Kd.R_drewN | apply Kd.R_drew)); exact Kd.R_mono HO_10.out (fun _ hk => ⟨hk.1.1.1.1.1.2.1, hk.1.1.1.1.1.2.2⟩)⟩, ⟨by (with_reducible repeat (first | apply Kd.R_alloc | apply Kd.R_drewN | apply Kd.R_drew)); exact Kd.R_mono HO_11.out (fun _ hk => ⟨hk.1.1.1.1.1.2.1, hk.1.1.1.1.1.2.2⟩)⟩, ⟨by (with_reducible repeat (first | apply Kd.R_alloc | apply Kd.R_drewN | apply Kd.R_drew)); exact Kd.R_mono HO_12.out (fun _ hk => ⟨hk.1.1.1.1.1.2.1, hk.1.1.1.1.1.2.2⟩)⟩, ⟨ro_ HO269⟩, BK213, ⟨hb_ HB⟩⟩
    rw [if_neg c105] at H
    have c105b0 : ((x12_1.length : Int) == 0) = false := beq_eq_false_iff_ne.mpr c105
    have c105b1 : ((x12_1.length : Int) != 0) = true := bne_iff_ne.mpr c105
    have c105b2 : ¬ (x12_1 = []) := fun h_ => c105 (by rw [h_]; rfl)
    (first | rw [c105b0] | (simp only [i64_w, i32_w]; rw [c105b0]) | skip)
    have H' := Aside0.mk H
    clear H
    obtain ⟨Ao106, co106, eo106⟩ := Kd.R_slice HO269.out
    subst eo106
    go_wp2
    go_meet
    case rel => exact ⟨_, (((t266.length : Int) == 0)), (by first | rfl | (simp; done) | (simp [*]; done)), H', ⟨by have := HK1.out; first | omega | exact Nat.le_refl _⟩, ⟨by (with_reducible repeat (first | apply Kd.R_alloc | apply Kd.R_drewN | apply Kd.R_drew)); exact Kd.R_mono HO_7.out (fun _ hk => trivial)⟩, ⟨by (with_reducible repeat (first | apply Kd.R_alloc | apply Kd.R_drewN | apply Kd.R_drew)); exact Kd.R_mono HO_10.out (fun _ hk => ⟨hk.1.1.1.1.1.2.1, hk.1.1.1.1.1.2.2⟩)⟩, ⟨by (with_reducible repeat (first | apply Kd.R_alloc | apply Kd.R_drewN | apply Kd.R_drew)); exact Kd.R_mono HO_11.out (fun _ hk => ⟨hk.1.1.1.1.1.2.1, hk.1.1.1.1.1.2.2⟩)⟩, ⟨by (with_reducible repeat (first | apply Kd.R_alloc | apply Kd.R_drewN | apply Kd.R_drew)); exact Kd.R_mono HO_12.out (fun _ hk => ⟨hk.1.1.1.1.1.2.1, hk.1.1.1.1.1.2.2⟩)⟩, ⟨ro_ HO269⟩, BK213, ⟨hb_ HB⟩⟩
   case rest => as_aux_lemma =>
    clear HC84
    try clear c1; try clear c2; try clear p2; try clear q2; try clear hx2; try clear c3; try clear c4; try clear c5; try clear c6; try clear p6; try clear c8; try clear c10; try clear c13; try clear c18; try clear c18b0; try clear c19; try clear c19b0; try clear c20; try clear c20b0; try clear c21; try clear p22; try clear q22; try clear hx22; try clear p23; try clear q23; try clear hx23; try clear p24; try clear q24; try clear hx24; try clear p25; try clear q25; try clear hx25; try clear c26; try clear c26b0; try clear c26b1; try clear c27; try clear c27b0; try clear c28; try clear c31; try clear c34; try clear c34b0; try clear c34b1; try clear c36; try clear c36b0; try clear c36b1; try clear c37; try clear c37b0; try clear c38; try clear c39; try clear c40; try clear c43; try clear c43b0; try clear c44; try clear c51; try clear c52; try clear c58; try clear c58b0; try clear c58b1; try clear c58b2; try clear c59; try clear c59b0; try clear c59b1; try clear c60; try clear c60b0; try clear c60b1; try clear p64; try clear c83; try clear c83b0; try clear c83b1; try clear c105; try clear c105b0; try clear c105b1; try clear c105b2; try clear hx229_0; try clear hx229_1; try clear hx229_2; try clear hx236_0; try clear hx236_1; try clear hx236_2; try clear hx243_0; try clear hx243_1; try clear hx243_2; try clear hx250_0; try clear hx250_1; try clear hx250_2; try clear p2; try clear p229; try clear p236; try clear p243; try clear p250; try clear p6; try clear q229; try clear q236; try clear q243; try clear q250
    obtain ⟨kq, x127_83, rfl, HA, HJ83, HO_7, HO_10, HO_11, HO_12, HO_14, BK213, HB⟩ := hcut
    obtain _ | kj83 := kq
    ·exact absurd HA.out (by simp [acmelaw12_MillNarrowed.j1])
    have H := HA.out
    clear HA
    simp only [acmelaw12_MillNarrowed.j1] at H
    by_cases c107 : x127_83 = true
    ·subst c107
     have H1 : (if t284 = 7 then (if (x12_1.length : Int) = 0 then (if t282 = 0 then (if t283 = 0 then ((acmelaw12_known.f).bind fun t286 => (some t286)) else (none)) else (none)) else (if t284 = 9 then (if (x12_1.length : Int) > 0 then (if (t266.length : Int) = 0 then (if t282 = 0 then (if t283 = 0 then ((acmelaw12_known.f).bind fun t287 => (some t287)) else (none)) else (none)) else (none)) else (none)) else (none))) else (if t284 = 9 then (if (x12_1.length : Int) > 0 then (if (t266.length : Int) = 0 then (if t282 = 0 then (if t283 = 0 then ((acmelaw12_known.f).bind fun t288 => (some t288)) else (none)) else (none)) else (none)) else (none)) else (none))) = some r := by rw [if_pos rfl] at H; exact H
     clear H
     have H := H1
     clear H1
     by_cases c108 : t284 = 7
     ·rw [if_pos c108] at H
      have c108b0 : (t284 == 7) = true := beq_iff_eq.mpr c108
      have c108b1 : (t284 != 7) = false := bne_eq_false_iff_eq.mpr c108
      clear c108
      by_cases c109 : (x12_1.length : Int) = 0
      ·rw [if_pos c109] at H
       have c109b0 : ((x12_1.length : Int) == 0) = true := beq_iff_eq.mpr c109
       have c109b1 : ((x12_1.length : Int) != 0) = false := bne_eq_false_iff_eq.mpr c109
       clear c109
       by_cases c110 : t282 = 0
       rotate_left
       ·rw [if_neg c110] at H
        exact absurd H (by simp)
       rw [if_pos c110] at H
       have c110b0 : (t282 == 0) = true := beq_iff_eq.mpr c110
       have c110b1 : (t282 != 0) = false := bne_eq_false_iff_eq.mpr c110
       clear c110
       by_cases c111 : t283 = 0
       rotate_left
       ·rw [if_neg c111] at H
        exact absurd H (by simp)
       rw [if_pos c111] at H
       have c111b0 : (t283 == 0) = true := beq_iff_eq.mpr c111
       have c111b1 : (t283 != 0) = false := bne_eq_false_iff_eq.mpr c111
       clear c111
       replace H := Option.bind_eq_some_iff.mp H
       obtain ⟨t286, A1120, H⟩ := H; (try dsimp only at H)
       have A112 := Aside0.mk A1120
       clear A1120
       obtain rfl := Option.some.inj H
       go_wp2_with (first | (go_at_call 15; (with_reducible refine (acmelaw12_known.calls  t286 _ A112.out).mono ?_); rintro e w113 ⟨rfl, hb⟩; replace HO_7 := Aside0.mk (Kd.R_below (ro_ HO_7) hb); replace HO_10 := Aside0.mk (Kd.R_below (ro_ HO_10) hb); replace HO_11 := Aside0.mk (Kd.R_below (ro_ HO_11) hb); replace HO_12 := Aside0.mk (Kd.R_below (ro_ HO_12) hb); replace HO_14 := Aside0.mk (Kd.R_below (ro_ HO_14) hb); replace BK213 := Aside0.mk (blk_below (bk_ BK213) hb); replace HB := Aside0.mk (below_step (hb_ HB) hb); (try clear hb); (try clear hb2); (try clear hk); (try clear hi)))
       go_ret
       exact ⟨by first | rfl | (simp [errW_none, errW_some] <;> rfl) | (simp only [← hji6]; first | rfl | (simp [errW_none, errW_some] <;> rfl)) | (simp [*, errW_none, errW_some] <;> rfl), by repeat (first | (with_reducible first | exact HB.out | apply below_alloc | apply pw_below_drewN | apply below_drew1 | refine below_set ?_ (Aside0.out (by assumption))) | exact HB.out)⟩
      rw [if_neg c109] at H
      have c109b0 : ((x12_1.length : Int) == 0) = false := beq_eq_false_iff_ne.mpr c109
      have c109b1 : ((x12_1.length : Int) != 0) = true := bne_iff_ne.mpr c109
      have c109b2 : ¬ (x12_1 = []) := fun h_ => c109 (by rw [h_]; rfl)
      by_cases c114 : t284 = 9
      rotate_left
      ·rw [if_neg c114] at H
       exact absurd H (by simp)
      rw [if_pos c114] at H
      have c114b0 : (t284 == 9) = true := beq_iff_eq.mpr c114
      have c114b1 : (t284 != 9) = false := bne_eq_false_iff_eq.mpr c114
      clear c114
      by_cases c115 : (x12_1.length : Int) > 0
      rotate_left
      ·rw [if_neg c115] at H
       exact absurd H (by simp)
      rw [if_pos c115] at H
      have c115b0 : decide (0 < (x12_1.length : Int)) = true := decide_eq_true c115
      have c115b1 : decide (0 < x12_1.length) = true := decide_eq_true (by omega)
      clear c115
      by_cases c116 : (t266.length : Int) = 0
      rotate_left
      ·rw [if_neg c116] at H
       exact absurd H (by simp)
      rw [if_pos c116] at H
      have c116b0 : ((t266.length : Int) == 0) = true := beq_iff_eq.mpr c116
      have c116b1 : ((t266.length : Int) != 0) = false := bne_eq_false_iff_eq.mpr c116
      clear c116
      by_cases c117 : t282 = 0
      rotate_left
      ·rw [if_neg c117] at H
       exact absurd H (by simp)
      rw [if_pos c117] at H
      have c117b0 : (t282 == 0) = true := beq_iff_eq.mpr c117
      have c117b1 : (t282 != 0) = false := bne_eq_false_iff_eq.mpr c117
      clear c117
      by_cases c118 : t283 = 0
      rotate_left
      ·rw [if_neg c118] at H
       exact absurd H (by simp)
      rw [if_pos c118] at H
      have c118b0 : (t283 == 0) = true := beq_iff_eq.mpr c118
      have c118b1 : (t283 != 0) = false := bne_eq_false_iff_eq.mpr c118
      clear c118
      replace H := Option.bind_eq_some_iff.mp H
      obtain ⟨t287, A1190, H⟩ := H; (try dsimp only at H)
      have A119 := Aside0.mk A1190
      clear A1190
      obtain rfl := Option.some.inj H
      obtain ⟨Ao120, co120, eo120⟩ := Kd.R_slice HO_14.out
      subst eo120
      go_wp2_with (first | (go_at_call 15; (with_reducible refine (acmelaw12_known.calls  t287 _ A119.out).mono ?_); rintro e w121 ⟨rfl, hb⟩; replace HO_7 := Aside0.mk (Kd.R_below (ro_ HO_7) hb); replace HO_10 := Aside0.mk (Kd.R_below (ro_ HO_10) hb); replace HO_11 := Aside0.mk (Kd.R_below (ro_ HO_11) hb); replace HO_12 := Aside0.mk (Kd.R_below (ro_ HO_12) hb); replace HO_14 := Aside0.mk (Kd.R_below (ro_ HO_14) hb); replace BK213 := Aside0.mk (blk_below (bk_ BK213) hb); replace HB := Aside0.mk (below_step (hb_ HB) hb); (try clear hb); (try clear hb2); (try clear hk); (try clear hi)))
      go_ret
      exact ⟨by first | rfl | (simp [errW_none, errW_some] <;> rfl) | (simp only [← hji6]; first | rfl | (simp [errW_none, errW_some] <;> rfl)) | (simp [*, errW_none, errW_some] <;> rfl), by repeat (first | (with_reducible first | exact HB.out | apply below_alloc | apply pw_below_drewN | apply below_drew1 | refine below_set ?_ (Aside0.out (by assumption))) | exact HB.out)⟩
     rw [if_neg c108] at H
     have c108b0 : (t284 == 7) = false := beq_eq_false_iff_ne.mpr c108
     have c108b1 : (t284 != 7) = true := bne_iff_ne.mpr c108
     by_cases c122 : t284 = 9
     rotate_left
     ·rw [if_neg c122] at H
      exact absurd H (by simp)
     rw [if_pos c122] at H
     have c122b0 : (t284 == 9) = true := beq_iff_eq.mpr c122
     have c122b1 : (t284 != 9) = false := bne_eq_false_iff_eq.mpr c122
     clear c122
     by_cases c123 : (x12_1.length : Int) > 0
     rotate_left
     ·rw [if_neg c123] at H
      exact absurd H (by simp)
     rw [if_pos c123] at H
     have c123b0 : decide (0 < (x12_1.length : Int)) = true := decide_eq_true c123
     have c123b1 : decide (0 < x12_1.length) = true := decide_eq_true (by omega)
     clear c123
     by_cases c124 : (t266.length : Int) = 0
     rotate_left
     ·rw [if_neg c124] at H
      exact absurd H (by simp)
     rw [if_pos c124] at H
     have c124b0 : ((t266.length : Int) == 0) = true := beq_iff_eq.mpr c124
     have c124b1 : ((t266.length : Int) != 0) = false := bne_eq_false_iff_eq.mpr c124
     clear c124
     by_cases c125 : t282 = 0
     rotate_left
     ·rw [if_neg c125] at H
      exact absurd H (by simp)
     rw [if_pos c125] at H
     have c125b0 : (t282 == 0) = true := beq_iff_eq.mpr c125
     have c125b1 : (t282 != 0) = false := bne_eq_false_iff_eq.mpr c125
     clear c125
     by_cases c126 : t283 = 0
     rotate_left
     ·rw [if_neg c126] at H
      exact absurd H (by simp)
     rw [if_pos c126] at H
     have c126b0 : (t283 == 0) = true := beq_iff_eq.mpr c126
     have c126b1 : (t283 != 0) = false := bne_eq_false_iff_eq.mpr c126
     clear c126
     replace H := Option.bind_eq_some_iff.mp H
     obtain ⟨t288, A1270, H⟩ := H; (try dsimp only at H)
     have A127 := Aside0.mk A1270
     clear A1270
     obtain rfl := Option.some.inj H
     obtain ⟨Ao128, co128, eo128⟩ := Kd.R_slice HO_14.out
     subst eo128
     go_wp2_with (first | (go_at_call 15; (with_reducible refine (acmelaw12_known.calls  t288 _ A127.out).mono ?_); rintro e w129 ⟨rfl, hb⟩; replace HO_7 := Aside0.mk (Kd.R_below (ro_ HO_7) hb); replace HO_10 := Aside0.mk (Kd.R_below (ro_ HO_10) hb); replace HO_11 := Aside0.mk (Kd.R_below (ro_ HO_11) hb); replace HO_12 := Aside0.mk (Kd.R_below (ro_ HO_12) hb); replace HO_14 := Aside0.mk (Kd.R_below (ro_ HO_14) hb); replace BK213 := Aside0.mk (blk_below (bk_ BK213) hb); replace HB := Aside0.mk (below_step (hb_ HB) hb); (try clear hb); (try clear hb2); (try clear hk); (try clear hi)))
     go_ret
     exact ⟨by first | rfl | (simp [errW_none, errW_some] <;> rfl) | (simp only [← hji6]; first | rfl | (simp [errW_none, errW_some] <;> rfl)) | (simp [*, errW_none, errW_some] <;> rfl), by repeat (first | (with_reducible first | exact HB.out | apply below_alloc | apply pw_below_drewN | apply below_drew1 | refine below_set ?_ (Aside0.out (by assumption))) | exact HB.out)⟩
    replace c107 := Bool.eq_false_iff.mpr c107
    subst c107
    have H1 : (if t284 = 0 then (if t282 < 0 then (acmelaw12_MillNarrowed.j2 kj83 t214 x10_1 x11_1 x12_1 t266 t282 t283 true) else (acmelaw12_MillNarrowed.j2 kj83 t214 x10_1 x11_1 x12_1 t266 t282 t283 (decide (t282 ≥ (x12_1.length : Int))))) else (acmelaw12_MillNarrowed.j2 kj83 t214 x10_1 x11_1 x12_1 t266 t282 t283 true)) = some r := by rw [if_neg (show ¬ (false = true) by decide)] at H; exact H
    clear H
    have H := H1
    clear H1
    have HC130 := Aside0.mk H
    clear H
    go_upto_region 20 with (fail)
    go_cut [171] (fun v171 wc => ∃ (kq : Nat) (x171_129 : Bool), v171 = .bool x171_129 ∧ Aside0 (acmelaw12_MillNarrowed.j2 kq t214 x10_1 x11_1 x12_1 t266 t282 t283 x171_129 = some r) ∧ Aside0 (kq ≤ kj83) ∧ Aside0 (Kd.R k144 144 wc w.heap.size (fun _ => True) (.slice Ao85 t214.length co85) t214) ∧ Aside0 (Kd.R k58 58 wc w.heap.size (fun k_ => some k_ ≠ ((.slice Ao89 x11_1.length co89) : Value).ownBlock ∧ some k_ ≠ ((.slice Ao98 x12_1.length co98) : Value).ownBlock) (.slice Ao87 x10_1.length co87) x10_1) ∧ Aside0 (Kd.R k58 58 wc w.heap.size (fun k_ => some k_ ≠ ((.slice Ao87 x10_1.length co87) : Value).ownBlock ∧ some k_ ≠ ((.slice Ao98 x12_1.length co98) : Value).ownBlock) (.slice Ao89 x11_1.length co89) x11_1) ∧ Aside0 (Kd.R k58 58 wc w.heap.size (fun k_ => some k_ ≠ ((.slice Ao87 x10_1.length co87) : Value).ownBlock ∧ some k_ ≠ ((.slice Ao89 x11_1.length co89) : Value).ownBlock) (.slice Ao98 x12_1.length co98) x12_1) ∧ Aside0 (Kd.R k79 79 wc w.heap.size (fun _ => True) v268 t266) ∧ Aside0 (wc.heap[gb213]? = some (.cells #[(.slice A0_0 l0_0.length c0_0), (.slice A0_1 l0_1.length c0_1)] 113 (0, 0))) ∧ Aside0 (Below w.heap.size w wc))
    case first => as_aux_lemma =>
     have H := HC130.out
     clear HC130
     by_cases c131 : t284 = 0
     ·rw [if_pos c131] at H
      have c131b0 : (t284 == 0) = true := beq_iff_eq.mpr c131
      have c131b1 : (t284 != 0) = false := bne_eq_false_iff_eq.mpr c131
      clear c131
      (first | rw [c131b0] | (simp only [i64_w, i32_w]; rw [c131b0]) | skip)
      by_cases c132 : t282 < 0
      ·rw [if_pos c132] at H
       have c132b0 : decide (t282 < 0) = true := decide_eq_true c132
       clear c132
       have H' := Aside0.mk H
       clear H
       go_wp2
       go_meet
       case rel => exact ⟨_, (true), (by first | rfl | (simp; done) | (simp [*]; done)), H', ⟨by have := HK1.out; have := HJ83.out; first | omega | exact Nat.le_refl _⟩, ⟨ro_ HO_7⟩, ⟨ro_ HO_10⟩, ⟨ro_ HO_11⟩, ⟨ro_ HO_12⟩, ⟨ro_ HO_14⟩, BK213, ⟨hb_ HB⟩⟩
      rw [if_neg c132] at H
      have c132b0 : decide (t282 < 0) = false := decide_eq_false c132
      clear c132
      have H' := Aside0.mk H
      clear H
      go_wp2
      go_meet
      case rel => exact ⟨_, (decide (t282 ≥ (x12_1.length : Int))), (by first | rfl | (simp; done) | (simp [*]; done)), H', ⟨by have := HK1.out; have := HJ83.out; first | omega | exact Nat.le_refl _⟩, ⟨ro_ HO_7⟩, ⟨ro_ HO_10⟩, ⟨ro_ HO_11⟩, ⟨ro_ HO_12⟩, ⟨ro_ HO_14⟩, BK213, ⟨hb_ HB⟩⟩
     rw [if_neg c131] at H
     have c131b0 : (t284 == 0) = false := beq_eq_false_iff_ne.mpr c131
     have c131b1 : (t284 != 0) = true := bne_iff_ne.mpr c131
     (first | rw [c131b0] | (simp only [i64_w, i32_w]; rw [c131b0]) | skip)
     have H' := Aside0.mk H
     clear H
     go_wp2
     go_meet
     case rel => exact ⟨_, (true), (by first | rfl | (simp; done) | (simp [*]; done)), H', ⟨by have := HK1.out; have := HJ83.out; first | omega | exact Nat.le_refl _⟩, ⟨ro_ HO_7⟩, ⟨ro_ HO_10⟩, ⟨ro_ HO_11⟩, ⟨ro_ HO_12⟩, ⟨ro_ HO_14⟩, BK213, ⟨hb_ HB⟩⟩
    case rest => as_aux_lemma =>
     clear HC130
     try clear c1; try clear c2; try clear p2; try clear q2; try clear hx2; try clear c3; try clear c4; try clear c5; try clear c6; try clear p6; try clear c8; try clear c10; try clear c11; try clear c12; try clear c13; try clear c18; try clear c18b0; try clear c19; try clear c19b0; try clear c20; try clear c20b0; try clear c21; try clear p22; try clear q22; try clear hx22; try clear p23; try clear q23; try clear hx23; try clear p24; try clear q24; try clear hx24; try clear p25; try clear q25; try clear hx25; try clear c26; try clear c26b0; try clear c26b1; try clear c27; try clear c27b0; try clear c28; try clear c31; try clear c34; try clear c34b0; try clear c34b1; try clear c36; try clear c36b0; try clear c36b1; try clear c37; try clear c37b0; try clear c38; try clear c39; try clear c40; try clear c43; try clear c43b0; try clear c44; try clear c51; try clear c52; try clear c58; try clear c58b0; try clear c58b1; try clear c58b2; try clear c59; try clear c59b0; try clear c59b1; try clear c60; try clear c60b0; try clear c60b1; try clear p64; try clear c83; try clear c83b0; try clear c83b1; try clear c105; try clear c105b0; try clear c105b1; try clear c105b2; try clear c107; try clear c108; try clear c108b0; try clear c108b1; try clear c109; try clear c109b0; try clear c109b1; try clear c109b2; try clear c110; try clear c110b0; try clear c110b1; try clear c111; try clear c111b0; try clear c111b1; try clear c114; try clear c114b0; try clear c114b1; try clear c115; try clear c115b0; try clear c115b1; try clear c116; try clear c116b0; try clear c116b1; try clear c117; try clear c117b0; try clear c117b1; try clear c118; try clear c118b0; try clear c118b1; try clear c122; try clear c122b0; try clear c122b1; try clear c123; try clear c123b0; try clear c123b1; try clear c124; try clear c124b0; try clear c124b1; try clear c125; try clear c125b0; try clear c125b1; try clear c126; try clear c126b0; try clear c126b1; try clear c131; try clear c131b0; try clear c131b1; try clear c132; try clear c132b0; try clear hx229_0; try clear hx229_1; try clear hx229_2; try clear hx236_0; try clear hx236_1; try clear hx236_2; try clear hx243_0; try clear hx243_1; try clear hx243_2; try clear hx250_0; try clear hx250_1; try clear hx250_2; try clear p2; try clear p22; try clear p229; try clear p23; try clear p236; try clear p24; try clear p243; try clear p25; try clear p250; try clear p6; try clear p64; try clear q2; try clear q22; try clear q229; try clear q23; try clear q236; try clear q24; try clear q243; try clear q25; try clear q250
     obtain ⟨kq, x171_129, rfl, HA, HJ129, HO_7, HO_10, HO_11, HO_12, HO_14, BK213, HB⟩ := hcut
     obtain _ | kj129 := kq
     ·exact absurd HA.out (by simp [acmelaw12_MillNarrowed.j2])
     have H := HA.out
     clear HA
     simp only [acmelaw12_MillNarrowed.j2] at H
     by_cases c133 : x171_129 = true
     ·subst c133
      have H1 : (none) = some r := by rw [if_pos rfl] at H; exact H
      clear H
      have H := H1
      clear H1
      exact absurd H (by simp)
     replace c133 := Bool.eq_false_iff.mpr c133
     subst c133
     have H1 : (acmelaw12_MillNarrowed.l1 kj129 t214 x10_1 x11_1 x12_1 t266 t282 t283 0) = some r := by rw [if_neg (show ¬ (false = true) by decide)] at H; exact H
     clear H
     have H := H1
     clear H1
     have H' := Aside0.mk H
     clear H
     go_wp2
     go_loopg [19] kj129 (fun kq v19 w' => ∃ (x19_4 : Int), v19 = .int .i64 x19_4 ∧ Aside0 (acmelaw12_MillNarrowed.l1 kq t214 x10_1 x11_1 x12_1 t266 t282 t283 x19_4 = some r) ∧ Aside0 (kq ≤ kj129) ∧ Aside0 (Kd.R k144 144 w' w.heap.size (fun _ => True) (.slice Ao85 t214.length co85) t214) ∧ Aside0 (Kd.R k58 58 w' w.heap.size (fun k_ => some k_ ≠ ((.slice Ao89 x11_1.length co89) : Value).ownBlock ∧ some k_ ≠ ((.slice Ao98 x12_1.length co98) : Value).ownBlock) (.slice Ao87 x10_1.length co87) x10_1) ∧ Aside0 (Kd.R k58 58 w' w.heap.size (fun k_ => some k_ ≠ ((.slice Ao87 x10_1.length co87) : Value).ownBlock ∧ some k_ ≠ ((.slice Ao98 x12_1.length co98) : Value).ownBlock) (.slice Ao89 x11_1.length co89) x11_1) ∧ Aside0 (Kd.R k58 58 w' w.heap.size (fun k_ => some k_ ≠ ((.slice Ao87 x10_1.length co87) : Value).ownBlock ∧ some k_ ≠ ((.slice Ao89 x11_1.length co89) : Value).ownBlock) (.slice Ao98 x12_1.length co98) x12_1) ∧ Aside0 (Kd.R k79 79 w' w.heap.size (fun _ => True) v268 t266) ∧ Aside0 (w'.heap[gb213]? = some (.cells #[(.slice A0_0 l0_0.length c0_0), (.slice A0_1 l0_1.length c0_1)] 113 (0, 0))) ∧ Aside0 (Below w.heap.size w w'))
     case atStart => exact ⟨(0), (by first | rfl | (simp; done) | (simp [*]; done)), H', ⟨Nat.le_refl _⟩, ⟨ro_ HO_7⟩, ⟨ro_ HO_10⟩, ⟨ro_ HO_11⟩, ⟨ro_ HO_12⟩, ⟨ro_ HO_14⟩, BK213, ⟨hb_ HB⟩⟩
     case round => as_aux_lemma =>
      clear H'
      try clear c1; try clear c2; try clear p2; try clear q2; try clear hx2; try clear c3; try clear c4; try clear c5; try clear c6; try clear p6; try clear c8; try clear c10; try clear c11; try clear c12; try clear c13; try clear c18; try clear c18b0; try clear c19; try clear c19b0; try clear c20; try clear c20b0; try clear c21; try clear p22; try clear q22; try clear hx22; try clear p23; try clear q23; try clear hx23; try clear p24; try clear q24; try clear hx24; try clear p25; try clear q25; try clear hx25; try clear c26; try clear c26b0; try clear c26b1; try clear c27; try clear c27b0; try clear c28; try clear c31; try clear c34; try clear c34b0; try clear c34b1; try clear c36; try clear c36b0; try clear c36b1; try clear c37; try clear c37b0; try clear c38; try clear c39; try clear c40; try clear c43; try clear c43b0; try clear c44; try clear c51; try clear c52; try clear c58; try clear c58b0; try clear c58b1; try clear c58b2; try clear c59; try clear c59b0; try clear c59b1; try clear c60; try clear c60b0; try clear c60b1; try clear p64; try clear c83; try clear c83b0; try clear c83b1; try clear c105; try clear c105b0; try clear c105b1; try clear c105b2; try clear c107; try clear c108; try clear c108b0; try clear c108b1; try clear c109; try clear c109b0; try clear c109b1; try clear c109b2; try clear c110; try clear c110b0; try clear c110b1; try clear c111; try clear c111b0; try clear c111b1; try clear c114; try clear c114b0; try clear c114b1; try clear c115; try clear c115b0; try clear c115b1; try clear c116; try clear c116b0; try clear c116b1; try clear c117; try clear c117b0; try clear c117b1; try clear c118; try clear c118b0; try clear c118b1; try clear c122; try clear c122b0; try clear c122b1; try clear c123; try clear c123b0; try clear c123b1; try clear c124; try clear c124b0; try clear c124b1; try clear c125; try clear c125b0; try clear c125b1; try clear c126; try clear c126b0; try clear c126b1; try clear c131; try clear c131b0; try clear c131b1; try clear c132; try clear c132b0; try clear c133; try clear hx229_0; try clear hx229_1; try clear hx229_2; try clear hx236_0; try clear hx236_1; try clear hx236_2; try clear hx243_0; try clear hx243_1; try clear hx243_2; try clear hx250_0; try clear hx250_1; try clear hx250_2; try clear p2; try clear p22; try clear p229; try clear p23; try clear p236; try clear p24; try clear p243; try clear p25; try clear p250; try clear p6; try clear p64; try clear q2; try clear q22; try clear q229; try clear q23; try clear q236; try clear q24; try clear q243; try clear q25; try clear q250
      obtain ⟨x19_4, rfl, HA, HK4, HO_7, HO_10, HO_11, HO_12, HO_14, BK213, HB⟩ := hrel
      obtain _ | k4 := gk
      ·exact absurd HA.out (by simp [acmelaw12_MillNarrowed.l1])
      have H := HA.out
      clear HA
      simp only [acmelaw12_MillNarrowed.l1] at H
      by_cases c134 : x19_4 < (x12_1.length : Int)
      ·rw [if_pos c134] at H
       have c134b0 : decide (x19_4 < (x12_1.length : Int)) = true := decide_eq_true c134
       clear c134
       replace H := Option.bind_eq_some_iff.mp H
       obtain ⟨t290, A1350, H⟩ := H; (try dsimp only at H)
       have A135 := Aside0.mk A1350
       clear A1350
       replace H := Option.bind_eq_some_iff.mp H
       obtain ⟨t293, A1360, H⟩ := H; (try dsimp only at H)
       have A136 := Aside0.mk A1360
       clear A1360
       by_cases c137 : 0 ≤ x19_4
       rotate_left
       ·rw [if_neg c137] at H
        exact absurd H (by simp)
       rw [if_pos c137] at H
       have c137b0 : decide (0 ≤ x19_4) = true := decide_eq_true c137
       clear c137
       obtain ⟨y297, hy297⟩ : ∃ y_ : List (S58), y_ = (([(⟨(rd_T58 x12_1 x19_4).f0, (rd_T58 x12_1 x19_4).f1, (rd_T58 x12_1 x19_4).f2⟩ : S58)] : List (S58))) := ⟨_, rfl⟩
       replace H : (if t293.length + y297.length < 5864062014805 then ((acmelaw12_lots.f x11_1).bind fun t303 => ((mill_Culprits.f t290 (t293 ++ y297) t303).bind fun bt306 => ((acmelaw12_runs.f t214).bind fun t310 => ((acmelaw12_lots.f x10_1).bind fun t313 => ((acmelaw12_lots.f x11_1).bind fun t316 => ((some (([(⟨(rd_T58 x12_1 x19_4).f0, (rd_T58 x12_1 x19_4).f1, (rd_T58 x12_1 x19_4).f2⟩ : S58)] : List (S58)) : List (S58))).bind fun y320 => (if t316.length + y320.length < 5864062014805 then ((mill_Culprits.f t310 t313 (t316 ++ y320)).bind fun bt326 => (if bt306.2 = 0 then (if bt326.2 = 0 then (acmelaw12_MillNarrowed.j4 k4 t214 x10_1 x11_1 x12_1 t266 t282 t283 x19_4 bt306.1 bt326.1 ((wrap64 ((bt306.1.length : Int) + (bt326.1.length : Int))) != (t266.length : Int))) else (acmelaw12_MillNarrowed.j4 k4 t214 x10_1 x11_1 x12_1 t266 t282 t283 x19_4 bt306.1 bt326.1 true)) else (acmelaw12_MillNarrowed.j4 k4 t214 x10_1 x11_1 x12_1 t266 t282 t283 x19_4 bt306.1 bt326.1 true))) else (none)))))))) else (none)) = some r := by first | (rw [hy297]; with_reducible exact H) | (have H2_ := (Option.bind_some _ _).symm.trans H; rw [hy297]; with_reducible exact H2_) | (have H2_ := (Option.bind_some _ _).symm.trans H; with_reducible exact H2_) | with_reducible exact H | (rw [hy297]; exact H) | exact H
       have Ny297 := Aside0.mk hy297
       clear hy297
       by_cases c138 : t293.length + y297.length < 5864062014805
       rotate_left
       ·rw [if_neg c138] at H
        exact absurd H (by simp)
       rw [if_pos c138] at H
       have LMc138 := Aside0.mk c138
       clear c138
       obtain ⟨y300, hy300⟩ : ∃ y_ : List (S58), y_ = (t293 ++ y297) := ⟨_, rfl⟩
       replace H : ((acmelaw12_lots.f x11_1).bind fun t303 => ((mill_Culprits.f t290 y300 t303).bind fun bt306 => ((acmelaw12_runs.f t214).bind fun t310 => ((acmelaw12_lots.f x10_1).bind fun t313 => ((acmelaw12_lots.f x11_1).bind fun t316 => ((some (([(⟨(rd_T58 x12_1 x19_4).f0, (rd_T58 x12_1 x19_4).f1, (rd_T58 x12_1 x19_4).f2⟩ : S58)] : List (S58)) : List (S58))).bind fun y320 => (if t316.length + y320.length < 5864062014805 then ((mill_Culprits.f t310 t313 (t316 ++ y320)).bind fun bt326 => (if bt306.2 = 0 then (if bt326.2 = 0 then (acmelaw12_MillNarrowed.j4 k4 t214 x10_1 x11_1 x12_1 t266 t282 t283 x19_4 bt306.1 bt326.1 ((wrap64 ((bt306.1.length : Int) + (bt326.1.length : Int))) != (t266.length : Int))) else (acmelaw12_MillNarrowed.j4 k4 t214 x10_1 x11_1 x12_1 t266 t282 t283 x19_4 bt306.1 bt326.1 true)) else (acmelaw12_MillNarrowed.j4 k4 t214 x10_1 x11_1 x12_1 t266 t282 t283 x19_4 bt306.1 bt326.1 true))) else (none)))))))) = some r := by first | (rw [hy300]; with_reducible exact H) | (have H2_ := (Option.bind_some _ _).symm.trans H; rw [hy300]; with_reducible exact H2_) | (have H2_ := (Option.bind_some _ _).symm.trans H; with_reducible exact H2_) | with_reducible exact H | (rw [hy300]; exact H) | exact H
       have Ny300 := Aside0.mk hy300
       clear hy300
       replace H := Option.bind_eq_some_iff.mp H
       obtain ⟨t303, A1390, H⟩ := H; (try dsimp only at H)
       have A139 := Aside0.mk A1390
       clear A1390
       replace H := Option.bind_eq_some_iff.mp H
       obtain ⟨⟨t306, t307⟩, A1400, H⟩ := H; (try dsimp only at H)
       have A140 := Aside0.mk A1400
       clear A1400
       replace H := Option.bind_eq_some_iff.mp H
       obtain ⟨t310, A1410, H⟩ := H; (try dsimp only at H)
       have A141 := Aside0.mk A1410
       clear A1410
       replace H := Option.bind_eq_some_iff.mp H
       obtain ⟨t313, A1420, H⟩ := H; (try dsimp only at H)
       have A142 := Aside0.mk A1420
       clear A1420
       replace H := Option.bind_eq_some_iff.mp H
       obtain ⟨t316, A1430, H⟩ := H; (try dsimp only at H)
       have A143 := Aside0.mk A1430
       clear A1430
       obtain ⟨y320, hy320⟩ : ∃ y_ : List (S58), y_ = (([(⟨(rd_T58 x12_1 x19_4).f0, (rd_T58 x12_1 x19_4).f1, (rd_T58 x12_1 x19_4).f2⟩ : S58)] : List (S58))) := ⟨_, rfl⟩
       replace H : (if t316.length + y320.length < 5864062014805 then ((mill_Culprits.f t310 t313 (t316 ++ y320)).bind fun bt326 => (if t307 = 0 then (if bt326.2 = 0 then (acmelaw12_MillNarrowed.j4 k4 t214 x10_1 x11_1 x12_1 t266 t282 t283 x19_4 t306 bt326.1 ((wrap64 ((t306.length : Int) + (bt326.1.length : Int))) != (t266.length : Int))) else (acmelaw12_MillNarrowed.j4 k4 t214 x10_1 x11_1 x12_1 t266 t282 t283 x19_4 t306 bt326.1 true)) else (acmelaw12_MillNarrowed.j4 k4 t214 x10_1 x11_1 x12_1 t266 t282 t283 x19_4 t306 bt326.1 true))) else (none)) = some r := by first | (rw [hy320]; with_reducible exact H) | (have H2_ := (Option.bind_some _ _).symm.trans H; rw [hy320]; with_reducible exact H2_) | (have H2_ := (Option.bind_some _ _).symm.trans H; with_reducible exact H2_) | with_reducible exact H | (rw [hy320]; exact H) | exact H
       have Ny320 := Aside0.mk hy320
       clear hy320
       by_cases c144 : t316.length + y320.length < 5864062014805
       rotate_left
       ·rw [if_neg c144] at H
        exact absurd H (by simp)
       rw [if_pos c144] at H
       have LMc144 := Aside0.mk c144
       clear c144
       obtain ⟨y323, hy323⟩ : ∃ y_ : List (S58), y_ = (t316 ++ y320) := ⟨_, rfl⟩
       replace H : ((mill_Culprits.f t310 t313 y323).bind fun bt326 => (if t307 = 0 then (if bt326.2 = 0 then (acmelaw12_MillNarrowed.j4 k4 t214 x10_1 x11_1 x12_1 t266 t282 t283 x19_4 t306 bt326.1 ((wrap64 ((t306.length : Int) + (bt326.1.length : Int))) != (t266.length : Int))) else (acmelaw12_MillNarrowed.j4 k4 t214 x10_1 x11_1 x12_1 t266 t282 t283 x19_4 t306 bt326.1 true)) else (acmelaw12_MillNarrowed.j4 k4 t214 x10_1 x11_1 x12_1 t266 t282 t283 x19_4 t306 bt326.1 true))) = some r := by first | (rw [hy323]; with_reducible exact H) | (have H2_ := (Option.bind_some _ _).symm.trans H; rw [hy323]; with_reducible exact H2_) | (have H2_ := (Option.bind_some _ _).symm.trans H; with_reducible exact H2_) | with_reducible exact H | (rw [hy323]; exact H) | exact H
       have Ny323 := Aside0.mk hy323
       clear hy323
       replace H := Option.bind_eq_some_iff.mp H
       obtain ⟨⟨t326, t327⟩, A1450, H⟩ := H; (try dsimp only at H)
       have A145 := Aside0.mk A1450
       clear A1450
       have HC146 := Aside0.mk H
       clear H
       try go_wp2
       replace HO_7 := Aside0.mk (Kd.R_drew HO_7.out)
       replace HO_10 := Aside0.mk (Kd.R_drew HO_10.out)
       replace HO_11 := Aside0.mk (Kd.R_drew HO_11.out)
       replace HO_12 := Aside0.mk (Kd.R_drew HO_12.out)
       replace HO_14 := Aside0.mk (Kd.R_drew HO_14.out)
       replace BK213 := Aside0.mk (blk_drew BK213.out)
       replace HB := Aside0.mk (below_drew1 HB.out)
       have p296 : 0 ≤ (x19_4 : Int) := of_decide_eq_true ‹_›
       have q296 : x19_4 < (x12_1.length : Int) := of_decide_eq_true ‹_›
       obtain ⟨ad296, e296, hx296_0, hx296_1, hx296_2⟩ := at_T58 (Kd.R_reads' HO_12.out).2.2 x19_4 p296 q296
       cases e296
       replace p296 := eq_true p296
       replace q296 := eq_true q296
       refine start_ (n := 18) (S := fun w' => w'.cell? (ad296.add ((x19_4).toNat * 3)) = some (.int .i64 ((rd_T58 x12_1 x19_4).f0)) ∧ w'.cell? ⟨(ad296.add ((x19_4).toNat * 3)).block, (ad296.add ((x19_4).toNat * 3)).off + 1, none⟩ = some (.int .i64 ((rd_T58 x12_1 x19_4).f1)) ∧ w'.cell? ⟨(ad296.add ((x19_4).toNat * 3)).block, (ad296.add ((x19_4).toNat * 3)).off + 2, none⟩ = some (.int .i64 ((rd_T58 x12_1 x19_4).f2))) (ds := [9]) #[ff, ff, ff, ff, ff, ff, ff, ff, ff, ff, ff, ff, ff, ff, ff, ff, ff, ff] (by kernel_rfl) rfl rfl ⟨hx296_0, hx296_1, hx296_2⟩ (fun hHeld => ?_); refine with_tabW acmelaw12_MillNarrowed.tab25 acmelaw12_MillNarrowed.bits25 (fun HT_ HW_ => ?_)
       generalize wr.drew = w147 at HO_7 HO_10 HO_11 HO_12 HO_14 BK213 HB hx296_0 hx296_1 hx296_2 hHeld ⊢
       refine pure_ (i := 0) (N := some 179) (v := ?_) (a' := ?_) #[tt, ff, ff, ff, ff, ff, ff, ff, ff, ff, ff, ff, ff, ff, ff, ff, ff, ff] rfl rfl (any_of HT_.out (by kernel_rfl)) (fun _ _ _ h => h) (Or.inl ⟨by rfl, ?_⟩) ?_ ?_
       rotate_left
       ·intro w'
        go_simp
        with_reducible rfl
       rotate_left
       ·simp only [Act.put, sa_, s0_, s1_, i64_w, i32_w]
        rfl
       refine pure_ (i := 2) (N := some 181) (v := ?_) (a' := ?_) #[tt, ff, tt, ff, ff, ff, ff, ff, ff, ff, ff, ff, ff, ff, ff, ff, ff, ff] rfl rfl (any_of HT_.out (by kernel_rfl)) (fun _ _ _ h => h) (Or.inl ⟨by rfl, ?_⟩) ?_ ?_
       rotate_left
       ·intro w'
        go_simp
        with_reducible rfl
       rotate_left
       ·simp only [Act.put, sa_, s0_, s1_, i64_w, i32_w]
        rfl
       refine pure_ (i := 4) (N := some 183) (v := ?_) (a' := ?_) #[tt, ff, tt, ff, tt, ff, ff, ff, ff, ff, ff, ff, ff, ff, ff, ff, ff, ff] rfl rfl (any_of HT_.out (by kernel_rfl)) (fun _ _ _ h => h) (Or.inl ⟨by rfl, ?_⟩) ?_ ?_
       rotate_left
       ·intro w'
        go_simp
        with_reducible rfl
       rotate_left
       ·simp only [Act.put, sa_, s0_, s1_, i64_w, i32_w]
        rfl
       refine pure_ (i := 5) (N := some 184) (v := ?_) (a' := ?_) #[tt, ff, tt, ff, tt, tt, ff, ff, ff, ff, ff, ff, ff, ff, ff, ff, ff, ff] rfl rfl (any_of HT_.out (by kernel_rfl)) (fun _ _ _ h => h) (Or.inl ⟨by rfl, ?_⟩) ?_ ?_
       rotate_left
       ·intro w'
        go_simp
        with_reducible rfl
       rotate_left
       ·simp only [Act.put, sa_, s0_, s1_, i64_w, i32_w]
        rfl
       refine pure_ (i := 6) (N := some 185) (v := ?_) (a' := ?_) #[tt, ff, tt, ff, tt, tt, tt, ff, ff, ff, ff, ff, ff, ff, ff, ff, ff, ff] rfl rfl (any_of HT_.out (by kernel_rfl)) (fun _ _ _ h => h) (Or.inl ⟨by rfl, ?_⟩) ?_ ?_
       rotate_left
       ·intro w'
        go_simp
        with_reducible rfl
       rotate_left
       ·simp only [Act.put, sa_, s0_, s1_, i64_w, i32_w]
        rfl
       refine pure_ (i := 10) (N := some 189) (v := ?_) (a' := ?_) #[tt, ff, tt, ff, tt, tt, tt, ff, ff, ff, tt, ff, ff, ff, ff, ff, ff, ff] rfl rfl (any_of HT_.out (by kernel_rfl)) (fun _ _ _ h => h) (Or.inl ⟨by rfl, ?_⟩) ?_ ?_
       rotate_left
       ·intro w'
        go_simp
        with_reducible rfl
       rotate_left
       ·simp only [Act.put, sa_, s0_, s1_, i64_w, i32_w]
        rfl
       refine take_ (i := 7) (N := some 186) (v := ?_) (a' := ?_) #[tt, ff, tt, ff, tt, tt, tt, tt, ff, ff, tt, ff, ff, ff, ff, ff, ff, ff] rfl rfl (take_ofW HT_.out HW_.out (by kernel_rfl)) (fun _ _ _ h => h) (Or.inl ⟨by rfl, ?_⟩) hHeld ?_ ?_
       rotate_left
       ·rintro w' ⟨s0, s1, s2⟩
        go_simp
        with_reducible rfl
       rotate_left
       ·simp only [Act.put, sa_, s0_, s1_, i64_w, i32_w]
        rfl
       refine join_ (σ := Value × Value × Value) 8 #[tt, tt, tt, tt, tt, tt, tt, tt, tt, ff, tt, ff, ff, ff, ff, ff, ff, ff] (fun s_ => [(180, s_.1), (182, s_.2.1), (187, s_.2.2)]) (fun s_ w' => (w'.cell? (ad296.add ((x19_4).toNat * 3)) = some (.int .i64 ((rd_T58 x12_1 x19_4).f0)) ∧ w'.cell? ⟨(ad296.add ((x19_4).toNat * 3)).block, (ad296.add ((x19_4).toNat * 3)).off + 1, none⟩ = some (.int .i64 ((rd_T58 x12_1 x19_4).f1)) ∧ w'.cell? ⟨(ad296.add ((x19_4).toNat * 3)).block, (ad296.add ((x19_4).toNat * 3)).off + 2, none⟩ = some (.int .i64 ((rd_T58 x12_1 x19_4).f2))) ∧ (Kd.R k144 144 w' w.heap.size (fun k_ => some k_ ≠ (.slice Ao85 t214.length co85 : Value).ownBlock) s_.1 t290) ∧ (Kd.R k58 58 w' w.heap.size (fun k_ => some k_ ≠ (s_.2.2 : Value).ownBlock ∧ some k_ ≠ (.slice Ao87 x10_1.length co87 : Value).ownBlock ∧ some k_ ≠ (.slice Ao89 x11_1.length co89 : Value).ownBlock ∧ some k_ ≠ (.slice (some ad296) x12_1.length co98 : Value).ownBlock) s_.2.1 t293) ∧ (Kd.R k58 58 w' w.heap.size (fun k_ => some k_ ≠ (s_.2.1 : Value).ownBlock ∧ some k_ ≠ (.slice Ao87 x10_1.length co87 : Value).ownBlock ∧ some k_ ≠ (.slice Ao89 x11_1.length co89 : Value).ownBlock ∧ some k_ ≠ (.slice (some ad296) x12_1.length co98 : Value).ownBlock) s_.2.2 y297) ∧ (Kd.R k58 58 w' w.heap.size (fun k_ => some k_ ≠ (s_.2.1 : Value).ownBlock ∧ some k_ ≠ (s_.2.2 : Value).ownBlock ∧ some k_ ≠ (.slice Ao89 x11_1.length co89 : Value).ownBlock ∧ some k_ ≠ (.slice (some ad296) x12_1.length co98 : Value).ownBlock) (.slice Ao87 x10_1.length co87) x10_1) ∧ (Kd.R k58 58 w' w.heap.size (fun k_ => some k_ ≠ (s_.2.1 : Value).ownBlock ∧ some k_ ≠ (s_.2.2 : Value).ownBlock ∧ some k_ ≠ (.slice Ao87 x10_1.length co87 : Value).ownBlock ∧ some k_ ≠ (.slice (some ad296) x12_1.length co98 : Value).ownBlock) (.slice Ao89 x11_1.length co89) x11_1) ∧ (Kd.R k58 58 w' w.heap.size (fun k_ => some k_ ≠ (s_.2.1 : Value).ownBlock ∧ some k_ ≠ (s_.2.2 : Value).ownBlock ∧ some k_ ≠ (.slice Ao87 x10_1.length co87 : Value).ownBlock ∧ some k_ ≠ (.slice Ao89 x11_1.length co89 : Value).ownBlock) (.slice (some ad296) x12_1.length co98) x12_1) ∧ (Kd.R k79 79 w' w.heap.size (fun _ => True) v268 t266) ∧ (Kd.R k144 144 w' w.heap.size (fun k_ => some k_ ≠ (s_.1 : Value).ownBlock) (.slice Ao85 t214.length co85) t214) ∧ (w'.heap[gb213]? = some (.cells #[.slice A0_0 l0_0.length c0_0, .slice A0_1 l0_1.length c0_1] 113 (0, 0))) ∧ (Below w.heap.size w w')) ?_ ?_
       rotate_left
       ·intro hCont
        refine two_ (i := 1) (j := 8) (Ni := some 180) (Nj := some 187) #[tt, tt, tt, ff, tt, tt, tt, tt, ff, ff, tt, ff, ff, ff, ff, ff, ff, ff] #[tt, ff, tt, ff, tt, tt, tt, tt, tt, ff, tt, ff, ff, ff, ff, ff, ff, ff] rfl rfl rfl rfl (two_of HT_.out (by kernel_rfl)) (by decide) (by decide) (fun K hK => ?_) (fun K hK => ?_)
        ·skip
         refine goes_ Try.func31 (by kernel_rfl) rfl #[.slice Ao85 t214.length co85] (by rfl) rfl rfl (by (try simp only [List.map_toArray, List.map_cons, List.map_nil]); first | done | rfl | (simp only [List.length_drop, List.length_take]; rfl)) ?_
         with_reducible refine (acmelaw12_runs.calls _ _ t214 t290 _ ?side1 ?side2 A135.out).mono ?_
         (case side1 => repeat (first | exact (Kd.R_reads' HO_7.out).2.2 | (with_reducible refine Kd.C_alloc ?_ _) | (with_reducible refine Kd.C_drewN ?_ _) | (with_reducible refine Kd.C_drew ?_)))
         (case side2 => exact (Kd.R_reads' HO_7.out).2.1)
         rintro e w148 ⟨v291, rfl, ho0, hb⟩
         have HS0_ := (hb.cell (World.block_lt_of_cell? _ _ (hHeld.1))).trans (hHeld.1)
         have HS1_ := (hb.cell (World.block_lt_of_cell? _ _ (hHeld.2.1))).trans (hHeld.2.1)
         have HS2_ := (hb.cell (World.block_lt_of_cell? _ _ (hHeld.2.2))).trans (hHeld.2.2)
         refine ⟨_, rfl, ?_⟩
         replace HO_10 := Aside0.mk (Kd.R_below (ro_ HO_10) hb)
         replace HO_11 := Aside0.mk (Kd.R_below (ro_ HO_11) hb)
         replace HO_12 := Aside0.mk (Kd.R_below (ro_ HO_12) hb)
         replace HO_14 := Aside0.mk (Kd.R_below (ro_ HO_14) hb)
         have HO292 := Aside0.mk (Kd.R_lower (Kd.R_new' ho0 (Kd.R_lt (ro_ HO_7))) (below_size (hb_ HB)))
         replace HO_7 := Aside0.mk (Kd.R_elder' (ro_ HO_7) (Kd.R_base ho0) hb)
         replace BK213 := Aside0.mk (blk_below (bk_ BK213) hb)
         replace HB := Aside0.mk (below_step (hb_ HB) hb)
         (try clear hb)
         (try clear hb2)
         (try clear hk)
         (try clear hi)
         (try clear ho0)
         refine hK.out _ _ ⟨HS0_, HS1_, HS2_⟩ (fun hHeld => ?_)
         clear hK K
         refine norm_ (a' := ?_) ?_ ?_
         rotate_left
         ·show Act.put _ (some 180) _ = _
          simp only [Act.put, sa_, s0_, s1_, i64_w, i32_w]
          rfl
         refine two_ (i := 3) (j := 8) (Ni := some 182) (Nj := some 187) #[tt, tt, tt, tt, tt, tt, tt, tt, ff, ff, tt, ff, ff, ff, ff, ff, ff, ff] #[tt, tt, tt, ff, tt, tt, tt, tt, tt, ff, tt, ff, ff, ff, ff, ff, ff, ff] rfl rfl rfl rfl (two_of HT_.out (by kernel_rfl)) (by decide) (by decide) (fun K hK => ?_) (fun K hK => ?_)
         ·skip
          refine goes_ Try.func39 (by kernel_rfl) rfl #[.slice Ao87 x10_1.length co87] (by rfl) rfl rfl (by (try simp only [List.map_toArray, List.map_cons, List.map_nil]); first | done | rfl | (simp only [List.length_drop, List.length_take]; rfl)) ?_
          with_reducible refine (acmelaw12_lots.calls _ _ x10_1 t293 _ ?side1 ?side2 A136.out).mono ?_
          (case side1 => repeat (first | exact (Kd.R_reads' HO_10.out).2.2 | (with_reducible refine Kd.C_alloc ?_ _) | (with_reducible refine Kd.C_drewN ?_ _) | (with_reducible refine Kd.C_drew ?_)))
          (case side2 => exact (Kd.R_reads' HO_10.out).2.1)
          rintro e w149 ⟨v294, rfl, ho0, hb⟩
          have HS0_ := (hb.cell (World.block_lt_of_cell? _ _ (hHeld.1))).trans (hHeld.1)
          have HS1_ := (hb.cell (World.block_lt_of_cell? _ _ (hHeld.2.1))).trans (hHeld.2.1)
          have HS2_ := (hb.cell (World.block_lt_of_cell? _ _ (hHeld.2.2))).trans (hHeld.2.2)
          refine ⟨_, rfl, ?_⟩
          replace HO_7 := Aside0.mk (Kd.R_below (ro_ HO_7) hb)
          replace HO_14 := Aside0.mk (Kd.R_below (ro_ HO_14) hb)
          replace HO292 := Aside0.mk (Kd.R_below (ro_ HO292) hb)
          have HO295 := Aside0.mk (Kd.R_lower (Kd.R_new' (Kd.R_new' (Kd.R_new' ho0 (Kd.R_lt (ro_ HO_10))) (Kd.R_lt (ro_ HO_11))) (Kd.R_lt (ro_ HO_12))) (below_size (hb_ HB)))
          replace HO_10 := Aside0.mk (Kd.R_elder' (ro_ HO_10) (Kd.R_base ho0) hb)
          replace HO_11 := Aside0.mk (Kd.R_elder' (ro_ HO_11) (Kd.R_base ho0) hb)
          replace HO_12 := Aside0.mk (Kd.R_elder' (ro_ HO_12) (Kd.R_base ho0) hb)
          replace BK213 := Aside0.mk (blk_below (bk_ BK213) hb)
          replace HB := Aside0.mk (below_step (hb_ HB) hb)
          (try clear hb)
          (try clear hb2)
          (try clear hk)
          (try clear hi)
          (try clear ho0)
          refine hK.out _ _ ⟨HS0_, HS1_, HS2_⟩ (fun hHeld => ?_)
          clear hK K
          refine norm_ (a' := ?_) ?_ ?_
          rotate_left
          ·show Act.put _ (some 182) _ = _
           simp only [Act.put, sa_, s0_, s1_, i64_w, i32_w]
           rfl
          refine one_ (i := 8) (N := some 187) #[tt, tt, tt, tt, tt, tt, tt, tt, tt, ff, tt, ff, ff, ff, ff, ff, ff, ff] rfl rfl (one_of HT_.out (by kernel_rfl)) (by decide) (fun K hK => ?_)
          refine Kd.R_lit_step k58 _ 58 ?hg (N := 187) ?hd (xs := ([(⟨(rd_T58 x12_1 x19_4).f0, (rd_T58 x12_1 x19_4).f1, (rd_T58 x12_1 x19_4).f2⟩ : S58)] : List (S58))) (inner := [.int .i64 ((rd_T58 x12_1 x19_4).f0), .int .i64 ((rd_T58 x12_1 x19_4).f1), .int .i64 ((rd_T58 x12_1 x19_4).f2)]) (ok := fun _ => True) (okp := fun _ => True) ?hr ?hp (fun _ hk => hk) trivial (Below.refl _ _) (Nat.le_refl _) (by simp) ?_; (case hd => rfl); (case hg => rfl); (case hr => first | (go_simp; done) | (go_simp; rfl)); (case hp => exact (Reps.c3 (show Kd.M k58 _ _ _ (⟨(rd_T58 x12_1 x19_4).f0, (rd_T58 x12_1 x19_4).f1, (rd_T58 x12_1 x19_4).f2⟩ : S58) [.int .i64 ((rd_T58 x12_1 x19_4).f0), .int .i64 ((rd_T58 x12_1 x19_4).f1), .int .i64 ((rd_T58 x12_1 x19_4).f2)] from (k58_mkM _ _ _ (⟨(rd_T58 x12_1 x19_4).f0, (rd_T58 x12_1 x19_4).f1, (rd_T58 x12_1 x19_4).f2⟩ : S58) )) (Reps.none _ _)))
          intro v298 w150 ho151 hb hg_ hnew_
          have HS0_ := (hb.cell (World.block_lt_of_cell? _ _ (hHeld.1))).trans (hHeld.1)
          have HS1_ := (hb.cell (World.block_lt_of_cell? _ _ (hHeld.2.1))).trans (hHeld.2.1)
          have HS2_ := (hb.cell (World.block_lt_of_cell? _ _ (hHeld.2.2))).trans (hHeld.2.2)
          clear hg_ hnew_
          (first | rw [← Ny297.out] at ho151 | (simp only [Int.reduceToNat] at ho151; rw [← Ny297.out] at ho151))
          replace HO_7 := Aside0.mk (Kd.R_below (ro_ HO_7) hb)
          replace HO_14 := Aside0.mk (Kd.R_below (ro_ HO_14) hb)
          replace HO292 := Aside0.mk (Kd.R_below (ro_ HO292) hb)
          have HO299 := Aside0.mk (Kd.R_lower (Kd.R_new' (Kd.R_new' (Kd.R_new' (Kd.R_new' ho151 (Kd.R_lt (ro_ HO_10))) (Kd.R_lt (ro_ HO_11))) (Kd.R_lt (ro_ HO_12))) (Kd.R_lt (ro_ HO295))) (below_size (hb_ HB)))
          replace HO_10 := Aside0.mk (Kd.R_elder' (ro_ HO_10) (Kd.R_base ho151) hb)
          replace HO_11 := Aside0.mk (Kd.R_elder' (ro_ HO_11) (Kd.R_base ho151) hb)
          replace HO_12 := Aside0.mk (Kd.R_elder' (ro_ HO_12) (Kd.R_base ho151) hb)
          replace HO295 := Aside0.mk (Kd.R_elder' (ro_ HO295) (Kd.R_base ho151) hb)
          replace BK213 := Aside0.mk (blk_below (bk_ BK213) hb)
          replace HB := Aside0.mk (below_step (hb_ HB) hb)
          clear hb ho151
          refine hK.out _ _ ⟨HS0_, HS1_, HS2_⟩ (fun hHeld => ?_)
          clear hK K
          refine norm_ (a' := ?_) ?_ ?_
          rotate_left
          ·show Act.put _ (some 187) _ = _
           simp only [Act.put, sa_, s0_, s1_, i64_w, i32_w]
           rfl
          exact norm_ (by simp only [putAll, Act.put, List.setIfInBounds_toArray, List.set_cons_zero, List.set_cons_succ]) (hCont (v291, v294, v298) _ ⟨hHeld, (by (with_reducible repeat (first | apply Kd.R_alloc | apply Kd.R_drewN | apply Kd.R_drew)); exact Kd.R_mono HO292.out (fun _ hk => hk.2)), (by (with_reducible repeat (first | apply Kd.R_alloc | apply Kd.R_drewN | apply Kd.R_drew)); exact Kd.R_mono HO295.out (fun _ hk => ⟨hk.2, ⟨hk.1.1.1.2, ⟨hk.1.1.2, hk.1.2⟩⟩⟩)), (by (with_reducible repeat (first | apply Kd.R_alloc | apply Kd.R_drewN | apply Kd.R_drew)); exact Kd.R_mono HO299.out (fun _ hk => ⟨hk.2, ⟨hk.1.1.1.2, ⟨hk.1.1.2, hk.1.2⟩⟩⟩)), (by (with_reducible repeat (first | apply Kd.R_alloc | apply Kd.R_drewN | apply Kd.R_drew)); exact Kd.R_mono HO_10.out (fun _ hk => ⟨hk.1.2, ⟨hk.2, ⟨hk.1.1.1, hk.1.1.2⟩⟩⟩)), (by (with_reducible repeat (first | apply Kd.R_alloc | apply Kd.R_drewN | apply Kd.R_drew)); exact Kd.R_mono HO_11.out (fun _ hk => ⟨hk.1.2, ⟨hk.2, ⟨hk.1.1.1, hk.1.1.2⟩⟩⟩)), (by (with_reducible repeat (first | apply Kd.R_alloc | apply Kd.R_drewN | apply Kd.R_drew)); exact Kd.R_mono HO_12.out (fun _ hk => ⟨hk.1.2, ⟨hk.2, ⟨hk.1.1.1, hk.1.1.2⟩⟩⟩)), (ro_ HO_14), (by (with_reducible repeat (first | apply Kd.R_alloc | apply Kd.R_drewN | apply Kd.R_drew)); exact Kd.R_mono HO_7.out (fun _ hk => hk.2)), (bk_ BK213), (hb_ HB)⟩)
         skip
         refine Kd.R_lit_step k58 _ 58 ?hg (N := 187) ?hd (xs := ([(⟨(rd_T58 x12_1 x19_4).f0, (rd_T58 x12_1 x19_4).f1, (rd_T58 x12_1 x19_4).f2⟩ : S58)] : List (S58))) (inner := [.int .i64 ((rd_T58 x12_1 x19_4).f0), .int .i64 ((rd_T58 x12_1 x19_4).f1), .int .i64 ((rd_T58 x12_1 x19_4).f2)]) (ok := fun _ => True) (okp := fun _ => True) ?hr ?hp (fun _ hk => hk) trivial (Below.refl _ _) (Nat.le_refl _) (by simp) ?_; (case hd => rfl); (case hg => rfl); (case hr => first | (go_simp; done) | (go_simp; rfl)); (case hp => exact (Reps.c3 (show Kd.M k58 _ _ _ (⟨(rd_T58 x12_1 x19_4).f0, (rd_T58 x12_1 x19_4).f1, (rd_T58 x12_1 x19_4).f2⟩ : S58) [.int .i64 ((rd_T58 x12_1 x19_4).f0), .int .i64 ((rd_T58 x12_1 x19_4).f1), .int .i64 ((rd_T58 x12_1 x19_4).f2)] from (k58_mkM _ _ _ (⟨(rd_T58 x12_1 x19_4).f0, (rd_T58 x12_1 x19_4).f1, (rd_T58 x12_1 x19_4).f2⟩ : S58) )) (Reps.none _ _)))
         intro v298 w149 ho150 hb hg_ hnew_
         have HS0_ := (hb.cell (World.block_lt_of_cell? _ _ (hHeld.1))).trans (hHeld.1)
         have HS1_ := (hb.cell (World.block_lt_of_cell? _ _ (hHeld.2.1))).trans (hHeld.2.1)
         have HS2_ := (hb.cell (World.block_lt_of_cell? _ _ (hHeld.2.2))).trans (hHeld.2.2)
         clear hg_ hnew_
         (first | rw [← Ny297.out] at ho150 | (simp only [Int.reduceToNat] at ho150; rw [← Ny297.out] at ho150))
         replace HO_7 := Aside0.mk (Kd.R_below (ro_ HO_7) hb)
         replace HO_14 := Aside0.mk (Kd.R_below (ro_ HO_14) hb)
         replace HO292 := Aside0.mk (Kd.R_below (ro_ HO292) hb)
         have HO299 := Aside0.mk (Kd.R_lower (Kd.R_new' (Kd.R_new' (Kd.R_new' ho150 (Kd.R_lt (ro_ HO_10))) (Kd.R_lt (ro_ HO_11))) (Kd.R_lt (ro_ HO_12))) (below_size (hb_ HB)))
         replace HO_10 := Aside0.mk (Kd.R_elder' (ro_ HO_10) (Kd.R_base ho150) hb)
         replace HO_11 := Aside0.mk (Kd.R_elder' (ro_ HO_11) (Kd.R_base ho150) hb)
         replace HO_12 := Aside0.mk (Kd.R_elder' (ro_ HO_12) (Kd.R_base ho150) hb)
         replace BK213 := Aside0.mk (blk_below (bk_ BK213) hb)
         replace HB := Aside0.mk (below_step (hb_ HB) hb)
         clear hb ho150
         refine hK.out _ _ ⟨HS0_, HS1_, HS2_⟩ (fun hHeld => ?_)
         clear hK K
         refine norm_ (a' := ?_) ?_ ?_
         rotate_left
         ·show Act.put _ (some 187) _ = _
          simp only [Act.put, sa_, s0_, s1_, i64_w, i32_w]
          rfl
         refine one_ (i := 3) (N := some 182) #[tt, tt, tt, tt, tt, tt, tt, tt, tt, ff, tt, ff, ff, ff, ff, ff, ff, ff] rfl rfl (one_of HT_.out (by kernel_rfl)) (by decide) (fun K hK => ?_)
         refine goes_ Try.func39 (by kernel_rfl) rfl #[.slice Ao87 x10_1.length co87] (by rfl) rfl rfl (by (try simp only [List.map_toArray, List.map_cons, List.map_nil]); first | done | rfl | (simp only [List.length_drop, List.length_take]; rfl)) ?_
         with_reducible refine (acmelaw12_lots.calls _ _ x10_1 t293 _ ?side1 ?side2 A136.out).mono ?_
         (case side1 => repeat (first | exact (Kd.R_reads' HO_10.out).2.2 | (with_reducible refine Kd.C_alloc ?_ _) | (with_reducible refine Kd.C_drewN ?_ _) | (with_reducible refine Kd.C_drew ?_)))
         (case side2 => exact (Kd.R_reads' HO_10.out).2.1)
         rintro e w151 ⟨v294, rfl, ho0, hb⟩
         have HS0_ := (hb.cell (World.block_lt_of_cell? _ _ (hHeld.1))).trans (hHeld.1)
         have HS1_ := (hb.cell (World.block_lt_of_cell? _ _ (hHeld.2.1))).trans (hHeld.2.1)
         have HS2_ := (hb.cell (World.block_lt_of_cell? _ _ (hHeld.2.2))).trans (hHeld.2.2)
         refine ⟨_, rfl, ?_⟩
         replace HO_7 := Aside0.mk (Kd.R_below (ro_ HO_7) hb)
         replace HO_14 := Aside0.mk (Kd.R_below (ro_ HO_14) hb)
         replace HO292 := Aside0.mk (Kd.R_below (ro_ HO292) hb)
         have HO295 := Aside0.mk (Kd.R_lower (Kd.R_new' (Kd.R_new' (Kd.R_new' (Kd.R_new' ho0 (Kd.R_lt (ro_ HO_10))) (Kd.R_lt (ro_ HO_11))) (Kd.R_lt (ro_ HO_12))) (Kd.R_lt (ro_ HO299))) (below_size (hb_ HB)))
         replace HO_10 := Aside0.mk (Kd.R_elder' (ro_ HO_10) (Kd.R_base ho0) hb)
         replace HO_11 := Aside0.mk (Kd.R_elder' (ro_ HO_11) (Kd.R_base ho0) hb)
         replace HO_12 := Aside0.mk (Kd.R_elder' (ro_ HO_12) (Kd.R_base ho0) hb)
         replace HO299 := Aside0.mk (Kd.R_elder' (ro_ HO299) (Kd.R_base ho0) hb)
         replace BK213 := Aside0.mk (blk_below (bk_ BK213) hb)
         replace HB := Aside0.mk (below_step (hb_ HB) hb)
         (try clear hb)
         (try clear hb2)
         (try clear hk)
         (try clear hi)
         (try clear ho0)
         refine hK.out _ _ ⟨HS0_, HS1_, HS2_⟩ (fun hHeld => ?_)
         clear hK K
         refine norm_ (a' := ?_) ?_ ?_
         rotate_left
         ·show Act.put _ (some 182) _ = _
          simp only [Act.put, sa_, s0_, s1_, i64_w, i32_w]
          rfl
         exact norm_ (by simp only [putAll, Act.put, List.setIfInBounds_toArray, List.set_cons_zero, List.set_cons_succ]) (hCont (v291, v294, v298) _ ⟨hHeld, (by (with_reducible repeat (first | apply Kd.R_alloc | apply Kd.R_drewN | apply Kd.R_drew)); exact Kd.R_mono HO292.out (fun _ hk => hk.2)), (by (with_reducible repeat (first | apply Kd.R_alloc | apply Kd.R_drewN | apply Kd.R_drew)); exact Kd.R_mono HO295.out (fun _ hk => ⟨hk.2, ⟨hk.1.1.1.2, ⟨hk.1.1.2, hk.1.2⟩⟩⟩)), (by (with_reducible repeat (first | apply Kd.R_alloc | apply Kd.R_drewN | apply Kd.R_drew)); exact Kd.R_mono HO299.out (fun _ hk => ⟨hk.2, ⟨hk.1.1.1.2, ⟨hk.1.1.2, hk.1.2⟩⟩⟩)), (by (with_reducible repeat (first | apply Kd.R_alloc | apply Kd.R_drewN | apply Kd.R_drew)); exact Kd.R_mono HO_10.out (fun _ hk => ⟨hk.2, ⟨hk.1.2, ⟨hk.1.1.1, hk.1.1.2⟩⟩⟩)), (by (with_reducible repeat (first | apply Kd.R_alloc | apply Kd.R_drewN | apply Kd.R_drew)); exact Kd.R_mono HO_11.out (fun _ hk => ⟨hk.2, ⟨hk.1.2, ⟨hk.1.1.1, hk.1.1.2⟩⟩⟩)), (by (with_reducible repeat (first | apply Kd.R_alloc | apply Kd.R_drewN | apply Kd.R_drew)); exact Kd.R_mono HO_12.out (fun _ hk => ⟨hk.2, ⟨hk.1.2, ⟨hk.1.1.1, hk.1.1.2⟩⟩⟩)), (ro_ HO_14), (by (with_reducible repeat (first | apply Kd.R_alloc | apply Kd.R_drewN | apply Kd.R_drew)); exact Kd.R_mono HO_7.out (fun _ hk => hk.2)), (bk_ BK213), (hb_ HB)⟩)
        skip
        refine Kd.R_lit_step k58 _ 58 ?hg (N := 187) ?hd (xs := ([(⟨(rd_T58 x12_1 x19_4).f0, (rd_T58 x12_1 x19_4).f1, (rd_T58 x12_1 x19_4).f2⟩ : S58)] : List (S58))) (inner := [.int .i64 ((rd_T58 x12_1 x19_4).f0), .int .i64 ((rd_T58 x12_1 x19_4).f1), .int .i64 ((rd_T58 x12_1 x19_4).f2)]) (ok := fun _ => True) (okp := fun _ => True) ?hr ?hp (fun _ hk => hk) trivial (Below.refl _ _) (Nat.le_refl _) (by simp) ?_; (case hd => rfl); (case hg => rfl); (case hr => first | (go_simp; done) | (go_simp; rfl)); (case hp => exact (Reps.c3 (show Kd.M k58 _ _ _ (⟨(rd_T58 x12_1 x19_4).f0, (rd_T58 x12_1 x19_4).f1, (rd_T58 x12_1 x19_4).f2⟩ : S58) [.int .i64 ((rd_T58 x12_1 x19_4).f0), .int .i64 ((rd_T58 x12_1 x19_4).f1), .int .i64 ((rd_T58 x12_1 x19_4).f2)] from (k58_mkM _ _ _ (⟨(rd_T58 x12_1 x19_4).f0, (rd_T58 x12_1 x19_4).f1, (rd_T58 x12_1 x19_4).f2⟩ : S58) )) (Reps.none _ _)))
        intro v298 w148 ho149 hb hg_ hnew_
        have HS0_ := (hb.cell (World.block_lt_of_cell? _ _ (hHeld.1))).trans (hHeld.1)
        have HS1_ := (hb.cell (World.block_lt_of_cell? _ _ (hHeld.2.1))).trans (hHeld.2.1)
        have HS2_ := (hb.cell (World.block_lt_of_cell? _ _ (hHeld.2.2))).trans (hHeld.2.2)
        clear hg_ hnew_
        (first | rw [← Ny297.out] at ho149 | (simp only [Int.reduceToNat] at ho149; rw [← Ny297.out] at ho149))
        replace HO_7 := Aside0.mk (Kd.R_below (ro_ HO_7) hb)
        replace HO_14 := Aside0.mk (Kd.R_below (ro_ HO_14) hb)
        have HO299 := Aside0.mk (Kd.R_lower (Kd.R_new' (Kd.R_new' (Kd.R_new' ho149 (Kd.R_lt (ro_ HO_10))) (Kd.R_lt (ro_ HO_11))) (Kd.R_lt (ro_ HO_12))) (below_size (hb_ HB)))
        replace HO_10 := Aside0.mk (Kd.R_elder' (ro_ HO_10) (Kd.R_base ho149) hb)
        replace HO_11 := Aside0.mk (Kd.R_elder' (ro_ HO_11) (Kd.R_base ho149) hb)
        replace HO_12 := Aside0.mk (Kd.R_elder' (ro_ HO_12) (Kd.R_base ho149) hb)
        replace BK213 := Aside0.mk (blk_below (bk_ BK213) hb)
        replace HB := Aside0.mk (below_step (hb_ HB) hb)
        clear hb ho149
        refine hK.out _ _ ⟨HS0_, HS1_, HS2_⟩ (fun hHeld => ?_)
        clear hK K
        refine norm_ (a' := ?_) ?_ ?_
        rotate_left
        ·show Act.put _ (some 187) _ = _
         simp only [Act.put, sa_, s0_, s1_, i64_w, i32_w]
         rfl
        refine one_ (i := 1) (N := some 180) #[tt, tt, tt, ff, tt, tt, tt, tt, tt, ff, tt, ff, ff, ff, ff, ff, ff, ff] rfl rfl (one_of HT_.out (by kernel_rfl)) (by decide) (fun K hK => ?_)
        refine goes_ Try.func31 (by kernel_rfl) rfl #[.slice Ao85 t214.length co85] (by rfl) rfl rfl (by (try simp only [List.map_toArray, List.map_cons, List.map_nil]); first | done | rfl | (simp only [List.length_drop, List.length_take]; rfl)) ?_
        with_reducible refine (acmelaw12_runs.calls _ _ t214 t290 _ ?side1 ?side2 A135.out).mono ?_
        (case side1 => repeat (first | exact (Kd.R_reads' HO_7.out).2.2 | (with_reducible refine Kd.C_alloc ?_ _) | (with_reducible refine Kd.C_drewN ?_ _) | (with_reducible refine Kd.C_drew ?_)))
        (case side2 => exact (Kd.R_reads' HO_7.out).2.1)
        rintro e w150 ⟨v291, rfl, ho0, hb⟩
        have HS0_ := (hb.cell (World.block_lt_of_cell? _ _ (hHeld.1))).trans (hHeld.1)
        have HS1_ := (hb.cell (World.block_lt_of_cell? _ _ (hHeld.2.1))).trans (hHeld.2.1)
        have HS2_ := (hb.cell (World.block_lt_of_cell? _ _ (hHeld.2.2))).trans (hHeld.2.2)
        refine ⟨_, rfl, ?_⟩
        replace HO_10 := Aside0.mk (Kd.R_below (ro_ HO_10) hb)
        replace HO_11 := Aside0.mk (Kd.R_below (ro_ HO_11) hb)
        replace HO_12 := Aside0.mk (Kd.R_below (ro_ HO_12) hb)
        replace HO_14 := Aside0.mk (Kd.R_below (ro_ HO_14) hb)
        replace HO299 := Aside0.mk (Kd.R_below (ro_ HO299) hb)
        have HO292 := Aside0.mk (Kd.R_lower (Kd.R_new' ho0 (Kd.R_lt (ro_ HO_7))) (below_size (hb_ HB)))
        replace HO_7 := Aside0.mk (Kd.R_elder' (ro_ HO_7) (Kd.R_base ho0) hb)
        replace BK213 := Aside0.mk (blk_below (bk_ BK213) hb)
        replace HB := Aside0.mk (below_step (hb_ HB) hb)
        (try clear hb)
        (try clear hb2)
        (try clear hk)
        (try clear hi)
        (try clear ho0)
        refine hK.out _ _ ⟨HS0_, HS1_, HS2_⟩ (fun hHeld => ?_)
        clear hK K
        refine norm_ (a' := ?_) ?_ ?_
        rotate_left
        ·show Act.put _ (some 180) _ = _
         simp only [Act.put, sa_, s0_, s1_, i64_w, i32_w]
         rfl
        refine one_ (i := 3) (N := some 182) #[tt, tt, tt, tt, tt, tt, tt, tt, tt, ff, tt, ff, ff, ff, ff, ff, ff, ff] rfl rfl (one_of HT_.out (by kernel_rfl)) (by decide) (fun K hK => ?_)
        refine goes_ Try.func39 (by kernel_rfl) rfl #[.slice Ao87 x10_1.length co87] (by rfl) rfl rfl (by (try simp only [List.map_toArray, List.map_cons, List.map_nil]); first | done | rfl | (simp only [List.length_drop, List.length_take]; rfl)) ?_
        with_reducible refine (acmelaw12_lots.calls _ _ x10_1 t293 _ ?side1 ?side2 A136.out).mono ?_
        (case side1 => repeat (first | exact (Kd.R_reads' HO_10.out).2.2 | (with_reducible refine Kd.C_alloc ?_ _) | (with_reducible refine Kd.C_drewN ?_ _) | (with_reducible refine Kd.C_drew ?_)))
        (case side2 => exact (Kd.R_reads' HO_10.out).2.1)
        rintro e w151 ⟨v294, rfl, ho0, hb⟩
        have HS0_ := (hb.cell (World.block_lt_of_cell? _ _ (hHeld.1))).trans (hHeld.1)
        have HS1_ := (hb.cell (World.block_lt_of_cell? _ _ (hHeld.2.1))).trans (hHeld.2.1)
        have HS2_ := (hb.cell (World.block_lt_of_cell? _ _ (hHeld.2.2))).trans (hHeld.2.2)
        refine ⟨_, rfl, ?_⟩
        replace HO_7 := Aside0.mk (Kd.R_below (ro_ HO_7) hb)
        replace HO_14 := Aside0.mk (Kd.R_below (ro_ HO_14) hb)
        replace HO292 := Aside0.mk (Kd.R_below (ro_ HO292) hb)
        have HO295 := Aside0.mk (Kd.R_lower (Kd.R_new' (Kd.R_new' (Kd.R_new' (Kd.R_new' ho0 (Kd.R_lt (ro_ HO_10))) (Kd.R_lt (ro_ HO_11))) (Kd.R_lt (ro_ HO_12))) (Kd.R_lt (ro_ HO299))) (below_size (hb_ HB)))
        replace HO_10 := Aside0.mk (Kd.R_elder' (ro_ HO_10) (Kd.R_base ho0) hb)
        replace HO_11 := Aside0.mk (Kd.R_elder' (ro_ HO_11) (Kd.R_base ho0) hb)
        replace HO_12 := Aside0.mk (Kd.R_elder' (ro_ HO_12) (Kd.R_base ho0) hb)
        replace HO299 := Aside0.mk (Kd.R_elder' (ro_ HO299) (Kd.R_base ho0) hb)
        replace BK213 := Aside0.mk (blk_below (bk_ BK213) hb)
        replace HB := Aside0.mk (below_step (hb_ HB) hb)
        (try clear hb)
        (try clear hb2)
        (try clear hk)
        (try clear hi)
        (try clear ho0)
        refine hK.out _ _ ⟨HS0_, HS1_, HS2_⟩ (fun hHeld => ?_)
        clear hK K
        refine norm_ (a' := ?_) ?_ ?_
        rotate_left
        ·show Act.put _ (some 182) _ = _
         simp only [Act.put, sa_, s0_, s1_, i64_w, i32_w]
         rfl
        exact norm_ (by simp only [putAll, Act.put, List.setIfInBounds_toArray, List.set_cons_zero, List.set_cons_succ]) (hCont (v291, v294, v298) _ ⟨hHeld, (by (with_reducible repeat (first | apply Kd.R_alloc | apply Kd.R_drewN | apply Kd.R_drew)); exact Kd.R_mono HO292.out (fun _ hk => hk.2)), (by (with_reducible repeat (first | apply Kd.R_alloc | apply Kd.R_drewN | apply Kd.R_drew)); exact Kd.R_mono HO295.out (fun _ hk => ⟨hk.2, ⟨hk.1.1.1.2, ⟨hk.1.1.2, hk.1.2⟩⟩⟩)), (by (with_reducible repeat (first | apply Kd.R_alloc | apply Kd.R_drewN | apply Kd.R_drew)); exact Kd.R_mono HO299.out (fun _ hk => ⟨hk.2, ⟨hk.1.1.1.2, ⟨hk.1.1.2, hk.1.2⟩⟩⟩)), (by (with_reducible repeat (first | apply Kd.R_alloc | apply Kd.R_drewN | apply Kd.R_drew)); exact Kd.R_mono HO_10.out (fun _ hk => ⟨hk.2, ⟨hk.1.2, ⟨hk.1.1.1, hk.1.1.2⟩⟩⟩)), (by (with_reducible repeat (first | apply Kd.R_alloc | apply Kd.R_drewN | apply Kd.R_drew)); exact Kd.R_mono HO_11.out (fun _ hk => ⟨hk.2, ⟨hk.1.2, ⟨hk.1.1.1, hk.1.1.2⟩⟩⟩)), (by (with_reducible repeat (first | apply Kd.R_alloc | apply Kd.R_drewN | apply Kd.R_drew)); exact Kd.R_mono HO_12.out (fun _ hk => ⟨hk.2, ⟨hk.1.2, ⟨hk.1.1.1, hk.1.1.2⟩⟩⟩)), (ro_ HO_14), (by (with_reducible repeat (first | apply Kd.R_alloc | apply Kd.R_drewN | apply Kd.R_drew)); exact Kd.R_mono HO_7.out (fun _ hk => hk.2)), (bk_ BK213), (hb_ HB)⟩)
       rintro ⟨v291, v294, v298⟩ w152 ⟨hS_, h0_, h1_, h2_, h3_, h4_, h5_, h6_, h7_, h8_, h9_⟩
       have n0_ : Aside0 (Kd.R k144 144 w152 w.heap.size (fun k_ => some k_ ≠ (.slice Ao85 t214.length co85 : Value).ownBlock) v291 t290) := ⟨h0_⟩
       have n1_ : Aside0 (Kd.R k58 58 w152 w.heap.size (fun k_ => some k_ ≠ (v298 : Value).ownBlock ∧ some k_ ≠ (.slice Ao87 x10_1.length co87 : Value).ownBlock ∧ some k_ ≠ (.slice Ao89 x11_1.length co89 : Value).ownBlock ∧ some k_ ≠ (.slice (some ad296) x12_1.length co98 : Value).ownBlock) v294 t293) := ⟨h1_⟩
       have n2_ : Aside0 (Kd.R k58 58 w152 w.heap.size (fun k_ => some k_ ≠ (v294 : Value).ownBlock ∧ some k_ ≠ (.slice Ao87 x10_1.length co87 : Value).ownBlock ∧ some k_ ≠ (.slice Ao89 x11_1.length co89 : Value).ownBlock ∧ some k_ ≠ (.slice (some ad296) x12_1.length co98 : Value).ownBlock) v298 y297) := ⟨h2_⟩
       have n3_ : Aside0 (Kd.R k58 58 w152 w.heap.size (fun k_ => some k_ ≠ (v294 : Value).ownBlock ∧ some k_ ≠ (v298 : Value).ownBlock ∧ some k_ ≠ (.slice Ao89 x11_1.length co89 : Value).ownBlock ∧ some k_ ≠ (.slice (some ad296) x12_1.length co98 : Value).ownBlock) (.slice Ao87 x10_1.length co87) x10_1) := ⟨h3_⟩
       have n4_ : Aside0 (Kd.R k58 58 w152 w.heap.size (fun k_ => some k_ ≠ (v294 : Value).ownBlock ∧ some k_ ≠ (v298 : Value).ownBlock ∧ some k_ ≠ (.slice Ao87 x10_1.length co87 : Value).ownBlock ∧ some k_ ≠ (.slice (some ad296) x12_1.length co98 : Value).ownBlock) (.slice Ao89 x11_1.length co89) x11_1) := ⟨h4_⟩
       have n5_ : Aside0 (Kd.R k58 58 w152 w.heap.size (fun k_ => some k_ ≠ (v294 : Value).ownBlock ∧ some k_ ≠ (v298 : Value).ownBlock ∧ some k_ ≠ (.slice Ao87 x10_1.length co87 : Value).ownBlock ∧ some k_ ≠ (.slice Ao89 x11_1.length co89 : Value).ownBlock) (.slice (some ad296) x12_1.length co98) x12_1) := ⟨h5_⟩
       have n6_ : Aside0 (Kd.R k79 79 w152 w.heap.size (fun _ => True) v268 t266) := ⟨h6_⟩
       have n7_ : Aside0 (Kd.R k144 144 w152 w.heap.size (fun k_ => some k_ ≠ (v291 : Value).ownBlock) (.slice Ao85 t214.length co85) t214) := ⟨h7_⟩
       have n8_ : Aside0 (w152.heap[gb213]? = some (.cells #[.slice A0_0 l0_0.length c0_0, .slice A0_1 l0_1.length c0_1] 113 (0, 0))) := ⟨h8_⟩
       have n9_ : Aside0 (Below w.heap.size w w152) := ⟨h9_⟩
       clear HO_7
       clear HO_10
       clear HO_11
       clear HO_12
       clear HO_14
       clear BK213
       clear HB
       clear h0_ h1_ h2_ h3_ h4_ h5_ h6_ h7_ h8_ h9_
       have HO292 := n0_
       have HO295 := n1_
       have HO299 := n2_
       have HO_10 := n3_
       have HO_11 := n4_
       have HO_12 := n5_
       have HO_14 := n6_
       have HO_7 := n7_
       have BK213 := n8_
       have HB := n9_
       clear n0_ n1_ n2_ n3_ n4_ n5_ n6_ n7_ n8_ n9_
       have hHeld : w152.cell? (ad296.add ((x19_4).toNat * 3)) = some (.int .i64 ((rd_T58 x12_1 x19_4).f0)) ∧ w152.cell? ⟨(ad296.add ((x19_4).toNat * 3)).block, (ad296.add ((x19_4).toNat * 3)).off + 1, none⟩ = some (.int .i64 ((rd_T58 x12_1 x19_4).f1)) ∧ w152.cell? ⟨(ad296.add ((x19_4).toNat * 3)).block, (ad296.add ((x19_4).toNat * 3)).off + 2, none⟩ = some (.int .i64 ((rd_T58 x12_1 x19_4).f2)) := hS_
       obtain ⟨Ao154, co154, eo154⟩ := Kd.R_slice HO299.out
       (first | subst eo154 | (injection eo154 with f1_ f2_ f3_; have f4_ := f1_.symm; have f5_ := f3_.symm; clear f1_ f2_ f3_; subst f4_; subst f5_))
       refine norm_ (a' := ?_) ?_ ?_
       rotate_left
       ·simp only [putAll, Act.put, List.setIfInBounds_toArray, List.set_cons_zero, List.set_cons_succ]
        rfl
       refine last_ (i := 9) (N := some 188) #[tt, tt, tt, tt, tt, tt, tt, tt, tt, tt, tt, ff, ff, ff, ff, ff, ff, ff] rfl rfl (one_of HT_.out (by kernel_rfl)) (by decide) (fun K hK => ?_)
       refine Kd.R_append_rows_step k58 (w0 := w) w.heap.size (by rfl) (.tmp 182) (.tmp 187) 68 58 (.agg #[(.int .i64 0), (.int .i64 0), (.int .i64 0)]) 24 rfl Try.underlying68 info58 rfl (by decide) (by omega) v294 t293 y297 _ _ _ (fun k_ => some k_ ≠ (.slice Ao87 x10_1.length co87 : Value).ownBlock ∧ some k_ ≠ (.slice Ao89 x11_1.length co89 : Value).ownBlock ∧ some k_ ≠ (.slice (some ad296) x12_1.length co98 : Value).ownBlock ∧ some k_ ≠ (.slice Ao154 y297.length co154 : Value).ownBlock) (fun _ => False) rfl rfl ?aO ?aR (fun _ _ h => h) (fun _ h => h.elim) ?aF ?aB ?aS ?aL ?_
       (case aR => repeat (first | exact (Kd.R_reads' HO299.out).2.2 | (with_reducible refine Kd.C_alloc ?_ _) | (with_reducible refine Kd.C_drewN ?_ _) | (with_reducible refine Kd.C_drew ?_)))
       (case aB => exact (hb_ HB))
       (case aF => exact (fun k_ hk => ⟨Kd.fresh' (Kd.R_lt (ro_ HO_10)) k_ hk, Kd.fresh' (Kd.R_lt (ro_ HO_11)) k_ hk, Kd.fresh' (Kd.R_lt (ro_ HO_12)) k_ hk, Kd.fresh' (Kd.R_lt (ro_ HO299)) k_ hk⟩))
       (case aO => exact (by (with_reducible repeat (first | apply Kd.R_alloc | apply Kd.R_drewN | apply Kd.R_drew)); exact Kd.R_mono HO295.out (fun _ hk => ⟨hk.2.1, ⟨hk.2.2.1, ⟨hk.2.2.2, hk.1⟩⟩⟩)))
       (case aS => exact (below_size (hb_ HB)))
       (case aL => have := LMc138.out; omega)
       intro v301 w153 ho hb hg hat
       rw [← Ny300.out] at ho
       have n0_ := Aside0.mk (Kd.R_over' (ro_ HO_7) (Kd.R_typed (ro_ HO295)) (by decide) hg)
       have n1_ := Aside0.mk (Kd.R_after (ok := (fun k_ => some k_ ≠ (.slice Ao89 x11_1.length co89 : Value).ownBlock ∧ some k_ ≠ (.slice (some ad296) x12_1.length co98 : Value).ownBlock ∧ some k_ ≠ (.slice Ao154 y297.length co154 : Value).ownBlock)) (by (with_reducible repeat (first | apply Kd.R_alloc | apply Kd.R_drewN | apply Kd.R_drew)); exact Kd.R_mono HO_10.out (fun _ hk => ⟨⟨hk.2.2.1, ⟨hk.2.2.2, hk.2.1⟩⟩, hk.1⟩)) hg hat)
       have n2_ := Aside0.mk (Kd.R_after (ok := (fun k_ => some k_ ≠ (.slice Ao87 x10_1.length co87 : Value).ownBlock ∧ some k_ ≠ (.slice (some ad296) x12_1.length co98 : Value).ownBlock ∧ some k_ ≠ (.slice Ao154 y297.length co154 : Value).ownBlock)) (by (with_reducible repeat (first | apply Kd.R_alloc | apply Kd.R_drewN | apply Kd.R_drew)); exact Kd.R_mono HO_11.out (fun _ hk => ⟨⟨hk.2.2.1, ⟨hk.2.2.2, hk.2.1⟩⟩, hk.1⟩)) hg hat)
       have n3_ := Aside0.mk (Kd.R_after (ok := (fun k_ => some k_ ≠ (.slice Ao87 x10_1.length co87 : Value).ownBlock ∧ some k_ ≠ (.slice Ao89 x11_1.length co89 : Value).ownBlock ∧ some k_ ≠ (.slice Ao154 y297.length co154 : Value).ownBlock)) (by (with_reducible repeat (first | apply Kd.R_alloc | apply Kd.R_drewN | apply Kd.R_drew)); exact Kd.R_mono HO_12.out (fun _ hk => ⟨⟨hk.2.2.1, ⟨hk.2.2.2, hk.2.1⟩⟩, hk.1⟩)) hg hat)
       have n4_ := Aside0.mk (Kd.R_over' (ro_ HO_14) (Kd.R_typed (ro_ HO295)) (by decide) hg)
       have n5_ := Aside0.mk (blk_grown (bk_ BK213) hg (Kd.R_ne HO295.out BK213.out (by decide)))
       have n6_ := Aside0.mk (Kd.R_over' (ro_ HO292) (Kd.R_typed (ro_ HO295)) (by decide) hg)
       have n7_ := Aside0.mk (Kd.R_after (ok := (fun k_ => some k_ ≠ (.slice Ao87 x10_1.length co87 : Value).ownBlock ∧ some k_ ≠ (.slice Ao89 x11_1.length co89 : Value).ownBlock ∧ some k_ ≠ (.slice (some ad296) x12_1.length co98 : Value).ownBlock)) (by (with_reducible repeat (first | apply Kd.R_alloc | apply Kd.R_drewN | apply Kd.R_drew)); exact Kd.R_mono HO299.out (fun _ hk => ⟨⟨hk.2.1, ⟨hk.2.2.1, hk.2.2.2⟩⟩, hk.1⟩)) hg hat)
       have n8_ := Aside0.mk (hb)
       have n9_ := Aside0.mk (ho)
       clear HO_7
       clear HO_10
       clear HO_11
       clear HO_12
       clear HO_14
       clear BK213
       clear HO292
       clear HO299
       clear HB
       clear HO295
       have HO_7 := n0_
       have HO_10 := n1_
       have HO_11 := n2_
       have HO_12 := n3_
       have HO_14 := n4_
       have BK213 := n5_
       have HO292 := n6_
       have HO299 := n7_
       have HB := n8_
       have HO302 := n9_
       clear n0_ n1_ n2_ n3_ n4_ n5_ n6_ n7_ n8_ n9_
       clear ho hb hg hat
       refine hK.out _ _ ?_
       clear hK K
       refine norm_ (a' := ?_) ?_ ?_
       rotate_left
       ·show Act.put _ (some 188) _ = _
        simp only [Act.put, sa_, s0_, s1_, i64_w, i32_w]
        rfl
       obtain ⟨adn_, en_, hn0_, hn1_, hn2_⟩ := at_T58 (Kd.R_reads' HO_12.out).2.2 x19_4 (of_eq_true p296) (of_eq_true q296)
       obtain rfl : ad296 = adn_ := (by injection en_)
       have hHeld := And.intro hn0_ (And.intro hn1_ hn2_)
       refine one_ (i := 11) (N := some 190) #[tt, tt, tt, tt, tt, tt, tt, tt, tt, tt, tt, tt, ff, ff, ff, ff, ff, ff] rfl rfl (one_of HT_.out (by kernel_rfl)) (by decide) (fun K hK => ?_)
       refine goes_ Try.func39 (by kernel_rfl) rfl #[.slice Ao89 x11_1.length co89] (by rfl) rfl rfl (by (try simp only [List.map_toArray, List.map_cons, List.map_nil]); first | done | rfl | (simp only [List.length_drop, List.length_take]; rfl)) ?_
       with_reducible refine (acmelaw12_lots.calls _ _ x11_1 t303 _ ?side1 ?side2 A139.out).mono ?_
       (case side1 => repeat (first | exact (Kd.R_reads' HO_11.out).2.2 | (with_reducible refine Kd.C_alloc ?_ _) | (with_reducible refine Kd.C_drewN ?_ _) | (with_reducible refine Kd.C_drew ?_)))
       (case side2 => exact (Kd.R_reads' HO_11.out).2.1)
       rintro e w155 ⟨v304, rfl, ho0, hb⟩
       have HS0_ := (hb.cell (World.block_lt_of_cell? _ _ (hHeld.1))).trans (hHeld.1)
       have HS1_ := (hb.cell (World.block_lt_of_cell? _ _ (hHeld.2.1))).trans (hHeld.2.1)
       have HS2_ := (hb.cell (World.block_lt_of_cell? _ _ (hHeld.2.2))).trans (hHeld.2.2)
       refine ⟨_, rfl, ?_⟩
       replace HO_7 := Aside0.mk (Kd.R_below (ro_ HO_7) hb)
       replace HO_14 := Aside0.mk (Kd.R_below (ro_ HO_14) hb)
       replace HO292 := Aside0.mk (Kd.R_below (ro_ HO292) hb)
       have HO305 := Aside0.mk (Kd.R_lower (Kd.R_new' (Kd.R_new' (Kd.R_new' (Kd.R_new' (Kd.R_new' ho0 (Kd.R_lt (ro_ HO_10))) (Kd.R_lt (ro_ HO_11))) (Kd.R_lt (ro_ HO_12))) (Kd.R_lt (ro_ HO299))) (Kd.R_lt (ro_ HO302))) (below_size (hb_ HB)))
       replace HO_10 := Aside0.mk (Kd.R_elder' (ro_ HO_10) (Kd.R_base ho0) hb)
       replace HO_11 := Aside0.mk (Kd.R_elder' (ro_ HO_11) (Kd.R_base ho0) hb)
       replace HO_12 := Aside0.mk (Kd.R_elder' (ro_ HO_12) (Kd.R_base ho0) hb)
       replace HO299 := Aside0.mk (Kd.R_elder' (ro_ HO299) (Kd.R_base ho0) hb)
       replace HO302 := Aside0.mk (Kd.R_elder' (ro_ HO302) (Kd.R_base ho0) hb)
       replace BK213 := Aside0.mk (blk_below (bk_ BK213) hb)
       replace HB := Aside0.mk (below_step (hb_ HB) hb)
       (try clear hb)
       (try clear hb2)
       (try clear hk)
       (try clear hi)
       (try clear ho0)
       obtain ⟨Ao156, co156, eo156⟩ := Kd.R_slice HO292.out
       (first | subst eo156 | (injection eo156 with f1_ f2_ f3_; have f4_ := f1_.symm; have f5_ := f3_.symm; clear f1_ f2_ f3_; subst f4_; subst f5_))
       obtain ⟨Ao157, co157, eo157⟩ := Kd.R_slice HO302.out
       (first | subst eo157 | (injection eo157 with f1_ f2_ f3_; have f4_ := f1_.symm; have f5_ := f3_.symm; clear f1_ f2_ f3_; subst f4_; subst f5_))
       obtain ⟨Ao158, co158, eo158⟩ := Kd.R_slice HO305.out
       (first | subst eo158 | (injection eo158 with f1_ f2_ f3_; have f4_ := f1_.symm; have f5_ := f3_.symm; clear f1_ f2_ f3_; subst f4_; subst f5_))
       refine hK.out _ _ ⟨HS0_, HS1_, HS2_⟩ (fun hHeld => ?_)
       clear hK K
       refine norm_ (a' := ?_) ?_ ?_
       rotate_left
       ·show Act.put _ (some 190) _ = _
        simp only [Act.put, sa_, s0_, s1_, i64_w, i32_w]
        rfl
       refine one_ (i := 12) (N := some 191) #[tt, tt, tt, tt, tt, tt, tt, tt, tt, tt, tt, tt, tt, ff, ff, ff, ff, ff] rfl rfl (one_of HT_.out (by kernel_rfl)) (by decide) (fun K hK => ?_)
       refine goes_ Try.func40 (by kernel_rfl) rfl #[.slice Ao156 t290.length co156, .slice Ao157 y300.length co157, .slice Ao158 t303.length co158] (by rfl) rfl rfl (by (try simp only [List.map_toArray, List.map_cons, List.map_nil]); first | done | rfl | (simp only [List.length_drop, List.length_take]; rfl)) ?_
       with_reducible refine (mill_Culprits.calls _ _ t290 _ _ y300 _ _ t303 t306 t307 _ ?side1 ?side2 ?side3 ?side4 ?side5 ?side6 A140.out).mono ?_
       (case side1 => repeat (first | exact (Kd.R_reads' HO292.out).2.2 | (with_reducible refine Kd.C_alloc ?_ _) | (with_reducible refine Kd.C_drewN ?_ _) | (with_reducible refine Kd.C_drew ?_)))
       (case side2 => exact (Kd.R_reads' HO292.out).2.1)
       (case side3 => repeat (first | exact (Kd.R_reads' HO302.out).2.2 | (with_reducible refine Kd.C_alloc ?_ _) | (with_reducible refine Kd.C_drewN ?_ _) | (with_reducible refine Kd.C_drew ?_)))
       (case side4 => exact (Kd.R_reads' HO302.out).2.1)
       (case side5 => repeat (first | exact (Kd.R_reads' HO305.out).2.2 | (with_reducible refine Kd.C_alloc ?_ _) | (with_reducible refine Kd.C_drewN ?_ _) | (with_reducible refine Kd.C_drew ?_)))
       (case side6 => exact (Kd.R_reads' HO305.out).2.1)
       rintro e w159 ⟨v308, rfl, ho0, hb⟩
       have HS0_ := (hb.cell (World.block_lt_of_cell? _ _ (hHeld.1))).trans (hHeld.1)
       have HS1_ := (hb.cell (World.block_lt_of_cell? _ _ (hHeld.2.1))).trans (hHeld.2.1)
       have HS2_ := (hb.cell (World.block_lt_of_cell? _ _ (hHeld.2.2))).trans (hHeld.2.2)
       refine ⟨_, rfl, ?_⟩
       replace HO_7 := Aside0.mk (Kd.R_below (ro_ HO_7) hb)
       replace HO_10 := Aside0.mk (Kd.R_below (ro_ HO_10) hb)
       replace HO_11 := Aside0.mk (Kd.R_below (ro_ HO_11) hb)
       replace HO_12 := Aside0.mk (Kd.R_below (ro_ HO_12) hb)
       replace HO292 := Aside0.mk (Kd.R_below (ro_ HO292) hb)
       replace HO299 := Aside0.mk (Kd.R_below (ro_ HO299) hb)
       replace HO302 := Aside0.mk (Kd.R_below (ro_ HO302) hb)
       replace HO305 := Aside0.mk (Kd.R_below (ro_ HO305) hb)
       have HO309 := Aside0.mk (Kd.R_lower (Kd.R_new' ho0 (Kd.R_lt (ro_ HO_14))) (below_size (hb_ HB)))
       replace HO_14 := Aside0.mk (Kd.R_elder' (ro_ HO_14) (Kd.R_base ho0) hb)
       replace BK213 := Aside0.mk (blk_below (bk_ BK213) hb)
       replace HB := Aside0.mk (below_step (hb_ HB) hb)
       (try clear hb)
       (try clear hb2)
       (try clear hk)
       (try clear hi)
       (try clear ho0)
       refine hK.out _ _ ⟨HS0_, HS1_, HS2_⟩ (fun hHeld => ?_)
       clear hK K
       refine norm_ (a' := ?_) ?_ ?_
       rotate_left
       ·show Act.put _ (some 191) _ = _
        simp only [Act.put, sa_, s0_, s1_, i64_w, i32_w]
        rfl
       refine pure_ (i := 13) (N := some 178) (v := ?_) (a' := ?_) #[tt, tt, tt, tt, tt, tt, tt, tt, tt, tt, tt, tt, tt, tt, ff, ff, ff, ff] rfl rfl (any_of HT_.out (by kernel_rfl)) (fun _ _ _ h => h) (Or.inl ⟨by rfl, ?_⟩) ?_ ?_
       rotate_left
       ·intro w'
        go_simp
        with_reducible rfl
       rotate_left
       ·simp only [Act.put, sa_, s0_, s1_, i64_w, i32_w]
        rfl
       refine pure_ (i := 14) (N := some 192) (v := ?_) (a' := ?_) #[tt, tt, tt, tt, tt, tt, tt, tt, tt, tt, tt, tt, tt, tt, tt, ff, ff, ff] rfl rfl (any_of HT_.out (by kernel_rfl)) (fun _ _ _ h => h) (Or.inl ⟨by rfl, ?_⟩) ?_ ?_
       rotate_left
       ·intro w'
        go_simp
        with_reducible rfl
       rotate_left
       ·simp only [Act.put, sa_, s0_, s1_, i64_w, i32_w]
        rfl
       refine pure_ (i := 15) (N := some 193) (v := ?_) (a' := ?_) #[tt, tt, tt, tt, tt, tt, tt, tt, tt, tt, tt, tt, tt, tt, tt, tt, ff, ff] rfl rfl (any_of HT_.out (by kernel_rfl)) (fun _ _ _ h => h) (Or.inl ⟨by rfl, ?_⟩) ?_ ?_
       rotate_left
       ·intro w'
        go_simp
        with_reducible rfl
       rotate_left
       ·simp only [Act.put, sa_, s0_, s1_, i64_w, i32_w]
        rfl
       refine pure_ (i := 16) (N := some 20) (v := ?_) (a' := ?_) #[tt, tt, tt, tt, tt, tt, tt, tt, tt, tt, tt, tt, tt, tt, tt, tt, tt, ff] rfl rfl (any_of HT_.out (by kernel_rfl)) (fun _ _ _ h => h) (Or.inl ⟨by rfl, ?_⟩) ?_ ?_
       rotate_left
       ·intro w'
        go_simp
        with_reducible rfl
       rotate_left
       ·simp only [Act.put, sa_, s0_, s1_, i64_w, i32_w]
        rfl
       refine pure_ (i := 17) (N := some 21) (v := ?_) (a' := ?_) #[tt, tt, tt, tt, tt, tt, tt, tt, tt, tt, tt, tt, tt, tt, tt, tt, tt, tt] rfl rfl (any_of HT_.out (by kernel_rfl)) (fun _ _ _ h => h) (Or.inl ⟨by rfl, ?_⟩) ?_ ?_
       rotate_left
       ·intro w'
        go_simp
        with_reducible rfl
       rotate_left
       ·simp only [Act.put, sa_, s0_, s1_, i64_w, i32_w]
        rfl
       refine done_ (done_of HT_.out (by kernel_rfl)) ?_
       try go_wp2
       replace HO_7 := Aside0.mk (Kd.R_drew HO_7.out)
       replace HO_10 := Aside0.mk (Kd.R_drew HO_10.out)
       replace HO_11 := Aside0.mk (Kd.R_drew HO_11.out)
       replace HO_12 := Aside0.mk (Kd.R_drew HO_12.out)
       replace HO_14 := Aside0.mk (Kd.R_drew HO_14.out)
       replace HO292 := Aside0.mk (Kd.R_drew HO292.out)
       replace HO299 := Aside0.mk (Kd.R_drew HO299.out)
       replace HO302 := Aside0.mk (Kd.R_drew HO302.out)
       replace HO305 := Aside0.mk (Kd.R_drew HO305.out)
       replace HO309 := Aside0.mk (Kd.R_drew HO309.out)
       replace BK213 := Aside0.mk (blk_drew BK213.out)
       replace HB := Aside0.mk (below_drew1 HB.out)
       have p319 : 0 ≤ (x19_4 : Int) := of_decide_eq_true ‹_›
       have q319 : x19_4 < (x12_1.length : Int) := of_decide_eq_true ‹_›
       obtain ⟨ad319, e319, hx319_0, hx319_1, hx319_2⟩ := at_T58 (Kd.R_reads' HO_12.out).2.2 x19_4 p319 q319
       obtain rfl : ad296 = ad319 := (by injection e319)
       replace p319 := eq_true p319
       replace q319 := eq_true q319
       refine start_ (n := 18) (S := fun w' => w'.cell? (ad296.add ((x19_4).toNat * 3)) = some (.int .i64 ((rd_T58 x12_1 x19_4).f0)) ∧ w'.cell? ⟨(ad296.add ((x19_4).toNat * 3)).block, (ad296.add ((x19_4).toNat * 3)).off + 1, none⟩ = some (.int .i64 ((rd_T58 x12_1 x19_4).f1)) ∧ w'.cell? ⟨(ad296.add ((x19_4).toNat * 3)).block, (ad296.add ((x19_4).toNat * 3)).off + 2, none⟩ = some (.int .i64 ((rd_T58 x12_1 x19_4).f2))) (ds := [11]) #[ff, ff, ff, ff, ff, ff, ff, ff, ff, ff, ff, ff, ff, ff, ff, ff, ff, ff] (by kernel_rfl) rfl rfl ⟨hx319_0, hx319_1, hx319_2⟩ (fun hHeld => ?_); refine with_tabW acmelaw12_MillNarrowed.tab26 acmelaw12_MillNarrowed.bits26 (fun HT_ HW_ => ?_)
       generalize w159.drew = w160 at HO_7 HO_10 HO_11 HO_12 HO_14 HO292 HO299 HO302 HO305 HO309 BK213 HB hx319_0 hx319_1 hx319_2 hHeld ⊢
       refine pure_ (i := 0) (N := some 195) (v := ?_) (a' := ?_) #[tt, ff, ff, ff, ff, ff, ff, ff, ff, ff, ff, ff, ff, ff, ff, ff, ff, ff] rfl rfl (any_of HT_.out (by kernel_rfl)) (fun _ _ _ h => h) (Or.inl ⟨by rfl, ?_⟩) ?_ ?_
       rotate_left
       ·intro w'
        go_simp
        with_reducible rfl
       rotate_left
       ·simp only [Act.put, sa_, s0_, s1_, i64_w, i32_w]
        rfl
       refine pure_ (i := 2) (N := some 197) (v := ?_) (a' := ?_) #[tt, ff, tt, ff, ff, ff, ff, ff, ff, ff, ff, ff, ff, ff, ff, ff, ff, ff] rfl rfl (any_of HT_.out (by kernel_rfl)) (fun _ _ _ h => h) (Or.inl ⟨by rfl, ?_⟩) ?_ ?_
       rotate_left
       ·intro w'
        go_simp
        with_reducible rfl
       rotate_left
       ·simp only [Act.put, sa_, s0_, s1_, i64_w, i32_w]
        rfl
       refine pure_ (i := 4) (N := some 199) (v := ?_) (a' := ?_) #[tt, ff, tt, ff, tt, ff, ff, ff, ff, ff, ff, ff, ff, ff, ff, ff, ff, ff] rfl rfl (any_of HT_.out (by kernel_rfl)) (fun _ _ _ h => h) (Or.inl ⟨by rfl, ?_⟩) ?_ ?_
       rotate_left
       ·intro w'
        go_simp
        with_reducible rfl
       rotate_left
       ·simp only [Act.put, sa_, s0_, s1_, i64_w, i32_w]
        rfl
       refine pure_ (i := 6) (N := some 201) (v := ?_) (a' := ?_) #[tt, ff, tt, ff, tt, ff, tt, ff, ff, ff, ff, ff, ff, ff, ff, ff, ff, ff] rfl rfl (any_of HT_.out (by kernel_rfl)) (fun _ _ _ h => h) (Or.inl ⟨by rfl, ?_⟩) ?_ ?_
       rotate_left
       ·intro w'
        go_simp
        with_reducible rfl
       rotate_left
       ·simp only [Act.put, sa_, s0_, s1_, i64_w, i32_w]
        rfl
       refine pure_ (i := 7) (N := some 202) (v := ?_) (a' := ?_) #[tt, ff, tt, ff, tt, ff, tt, tt, ff, ff, ff, ff, ff, ff, ff, ff, ff, ff] rfl rfl (any_of HT_.out (by kernel_rfl)) (fun _ _ _ h => h) (Or.inl ⟨by rfl, ?_⟩) ?_ ?_
       rotate_left
       ·intro w'
        go_simp
        with_reducible rfl
       rotate_left
       ·simp only [Act.put, sa_, s0_, s1_, i64_w, i32_w]
        rfl
       refine pure_ (i := 8) (N := some 203) (v := ?_) (a' := ?_) #[tt, ff, tt, ff, tt, ff, tt, tt, tt, ff, ff, ff, ff, ff, ff, ff, ff, ff] rfl rfl (any_of HT_.out (by kernel_rfl)) (fun _ _ _ h => h) (Or.inl ⟨by rfl, ?_⟩) ?_ ?_
       rotate_left
       ·intro w'
        go_simp
        with_reducible rfl
       rotate_left
       ·simp only [Act.put, sa_, s0_, s1_, i64_w, i32_w]
        rfl
       refine take_ (i := 9) (N := some 204) (v := ?_) (a' := ?_) #[tt, ff, tt, ff, tt, ff, tt, tt, tt, tt, ff, ff, ff, ff, ff, ff, ff, ff] rfl rfl (take_ofW HT_.out HW_.out (by kernel_rfl)) (fun _ _ _ h => h) (Or.inl ⟨by rfl, ?_⟩) hHeld ?_ ?_
       rotate_left
       ·rintro w' ⟨s0, s1, s2⟩
        go_simp
        with_reducible rfl
       rotate_left
       ·simp only [Act.put, sa_, s0_, s1_, i64_w, i32_w]
        rfl
       refine join_ (σ := Value × Value × Value × Value) 7 #[tt, tt, tt, tt, tt, tt, tt, tt, tt, tt, tt, ff, ff, ff, ff, ff, ff, ff] (fun s_ => [(196, s_.1), (198, s_.2.1), (200, s_.2.2.1), (205, s_.2.2.2)]) (fun s_ w' => (w'.cell? (ad296.add ((x19_4).toNat * 3)) = some (.int .i64 ((rd_T58 x12_1 x19_4).f0)) ∧ w'.cell? ⟨(ad296.add ((x19_4).toNat * 3)).block, (ad296.add ((x19_4).toNat * 3)).off + 1, none⟩ = some (.int .i64 ((rd_T58 x12_1 x19_4).f1)) ∧ w'.cell? ⟨(ad296.add ((x19_4).toNat * 3)).block, (ad296.add ((x19_4).toNat * 3)).off + 2, none⟩ = some (.int .i64 ((rd_T58 x12_1 x19_4).f2))) ∧ (Kd.R k144 144 w' w.heap.size (fun k_ => some k_ ≠ (s_.1 : Value).ownBlock ∧ some k_ ≠ (.slice Ao85 t214.length co85 : Value).ownBlock) (.slice Ao156 t290.length co156) t290) ∧ (Kd.R k58 58 w' w.heap.size (fun k_ => some k_ ≠ (.slice Ao157 y300.length co157 : Value).ownBlock ∧ some k_ ≠ (.slice Ao158 t303.length co158 : Value).ownBlock ∧ some k_ ≠ (s_.2.1 : Value).ownBlock ∧ some k_ ≠ (s_.2.2.1 : Value).ownBlock ∧ some k_ ≠ (s_.2.2.2 : Value).ownBlock ∧ some k_ ≠ (.slice Ao87 x10_1.length co87 : Value).ownBlock ∧ some k_ ≠ (.slice Ao89 x11_1.length co89 : Value).ownBlock ∧ some k_ ≠ (.slice (some ad296) x12_1.length co98 : Value).ownBlock) (.slice Ao154 y297.length co154) y297) ∧ (Kd.R k58 58 w' w.heap.size (fun k_ => some k_ ≠ (.slice Ao154 y297.length co154 : Value).ownBlock ∧ some k_ ≠ (.slice Ao158 t303.length co158 : Value).ownBlock ∧ some k_ ≠ (s_.2.1 : Value).ownBlock ∧ some k_ ≠ (s_.2.2.1 : Value).ownBlock ∧ some k_ ≠ (s_.2.2.2 : Value).ownBlock ∧ some k_ ≠ (.slice Ao87 x10_1.length co87 : Value).ownBlock ∧ some k_ ≠ (.slice Ao89 x11_1.length co89 : Value).ownBlock ∧ some k_ ≠ (.slice (some ad296) x12_1.length co98 : Value).ownBlock) (.slice Ao157 y300.length co157) y300) ∧ (Kd.R k58 58 w' w.heap.size (fun k_ => some k_ ≠ (.slice Ao154 y297.length co154 : Value).ownBlock ∧ some k_ ≠ (.slice Ao157 y300.length co157 : Value).ownBlock ∧ some k_ ≠ (s_.2.1 : Value).ownBlock ∧ some k_ ≠ (s_.2.2.1 : Value).ownBlock ∧ some k_ ≠ (s_.2.2.2 : Value).ownBlock ∧ some k_ ≠ (.slice Ao87 x10_1.length co87 : Value).ownBlock ∧ some k_ ≠ (.slice Ao89 x11_1.length co89 : Value).ownBlock ∧ some k_ ≠ (.slice (some ad296) x12_1.length co98 : Value).ownBlock) (.slice Ao158 t303.length co158) t303) ∧ (Kd.R k79 79 w' w.heap.size (fun k_ => some k_ ≠ (v268 : Value).ownBlock) v308 t306) ∧ (Kd.R k144 144 w' w.heap.size (fun k_ => some k_ ≠ (.slice Ao156 t290.length co156 : Value).ownBlock ∧ some k_ ≠ (.slice Ao85 t214.length co85 : Value).ownBlock) s_.1 t310) ∧ (Kd.R k58 58 w' w.heap.size (fun k_ => some k_ ≠ (.slice Ao154 y297.length co154 : Value).ownBlock ∧ some k_ ≠ (.slice Ao157 y300.length co157 : Value).ownBlock ∧ some k_ ≠ (.slice Ao158 t303.length co158 : Value).ownBlock ∧ some k_ ≠ (s_.2.2.1 : Value).ownBlock ∧ some k_ ≠ (s_.2.2.2 : Value).ownBlock ∧ some k_ ≠ (.slice Ao87 x10_1.length co87 : Value).ownBlock ∧ some k_ ≠ (.slice Ao89 x11_1.length co89 : Value).ownBlock ∧ some k_ ≠ (.slice (some ad296) x12_1.length co98 : Value).ownBlock) s_.2.1 t313) ∧ (Kd.R k58 58 w' w.heap.size (fun k_ => some k_ ≠ (.slice Ao154 y297.length co154 : Value).ownBlock ∧ some k_ ≠ (.slice Ao157 y300.length co157 : Value).ownBlock ∧ some k_ ≠ (.slice Ao158 t303.length co158 : Value).ownBlock ∧ some k_ ≠ (s_.2.1 : Value).ownBlock ∧ some k_ ≠ (s_.2.2.2 : Value).ownBlock ∧ some k_ ≠ (.slice Ao87 x10_1.length co87 : Value).ownBlock ∧ some k_ ≠ (.slice Ao89 x11_1.length co89 : Value).ownBlock ∧ some k_ ≠ (.slice (some ad296) x12_1.length co98 : Value).ownBlock) s_.2.2.1 t316) ∧ (Kd.R k58 58 w' w.heap.size (fun k_ => some k_ ≠ (.slice Ao154 y297.length co154 : Value).ownBlock ∧ some k_ ≠ (.slice Ao157 y300.length co157 : Value).ownBlock ∧ some k_ ≠ (.slice Ao158 t303.length co158 : Value).ownBlock ∧ some k_ ≠ (s_.2.1 : Value).ownBlock ∧ some k_ ≠ (s_.2.2.1 : Value).ownBlock ∧ some k_ ≠ (.slice Ao87 x10_1.length co87 : Value).ownBlock ∧ some k_ ≠ (.slice Ao89 x11_1.length co89 : Value).ownBlock ∧ some k_ ≠ (.slice (some ad296) x12_1.length co98 : Value).ownBlock) s_.2.2.2 y320) ∧ (Kd.R k58 58 w' w.heap.size (fun k_ => some k_ ≠ (.slice Ao154 y297.length co154 : Value).ownBlock ∧ some k_ ≠ (.slice Ao157 y300.length co157 : Value).ownBlock ∧ some k_ ≠ (.slice Ao158 t303.length co158 : Value).ownBlock ∧ some k_ ≠ (s_.2.1 : Value).ownBlock ∧ some k_ ≠ (s_.2.2.1 : Value).ownBlock ∧ some k_ ≠ (s_.2.2.2 : Value).ownBlock ∧ some k_ ≠ (.slice Ao89 x11_1.length co89 : Value).ownBlock ∧ some k_ ≠ (.slice (some ad296) x12_1.length co98 : Value).ownBlock) (.slice Ao87 x10_1.length co87) x10_1) ∧ (Kd.R k58 58 w' w.heap.size (fun k_ => some k_ ≠ (.slice Ao154 y297.length co154 : Value).ownBlock ∧ some k_ ≠ (.slice Ao157 y300.length co157 : Value).ownBlock ∧ some k_ ≠ (.slice Ao158 t303.length co158 : Value).ownBlock ∧ some k_ ≠ (s_.2.1 : Value).ownBlock ∧ some k_ ≠ (s_.2.2.1 : Value).ownBlock ∧ some k_ ≠ (s_.2.2.2 : Value).ownBlock ∧ some k_ ≠ (.slice Ao87 x10_1.length co87 : Value).ownBlock ∧ some k_ ≠ (.slice (some ad296) x12_1.length co98 : Value).ownBlock) (.slice Ao89 x11_1.length co89) x11_1) ∧ (Kd.R k58 58 w' w.heap.size (fun k_ => some k_ ≠ (.slice Ao154 y297.length co154 : Value).ownBlock ∧ some k_ ≠ (.slice Ao157 y300.length co157 : Value).ownBlock ∧ some k_ ≠ (.slice Ao158 t303.length co158 : Value).ownBlock ∧ some k_ ≠ (s_.2.1 : Value).ownBlock ∧ some k_ ≠ (s_.2.2.1 : Value).ownBlock ∧ some k_ ≠ (s_.2.2.2 : Value).ownBlock ∧ some k_ ≠ (.slice Ao87 x10_1.length co87 : Value).ownBlock ∧ some k_ ≠ (.slice Ao89 x11_1.length co89 : Value).ownBlock) (.slice (some ad296) x12_1.length co98) x12_1) ∧ (Kd.R k79 79 w' w.heap.size (fun k_ => some k_ ≠ (v308 : Value).ownBlock) v268 t266) ∧ (Kd.R k144 144 w' w.heap.size (fun k_ => some k_ ≠ (.slice Ao156 t290.length co156 : Value).ownBlock ∧ some k_ ≠ (s_.1 : Value).ownBlock) (.slice Ao85 t214.length co85) t214) ∧ (w'.heap[gb213]? = some (.cells #[.slice A0_0 l0_0.length c0_0, .slice A0_1 l0_1.length c0_1] 113 (0, 0))) ∧ (Below w.heap.size w w')) ?_ ?_
       rotate_left
       ·intro hCont
        refine two_ (i := 1) (j := 10) (Ni := some 196) (Nj := some 205) #[tt, tt, tt, ff, tt, ff, tt, tt, tt, tt, ff, ff, ff, ff, ff, ff, ff, ff] #[tt, ff, tt, ff, tt, ff, tt, tt, tt, tt, tt, ff, ff, ff, ff, ff, ff, ff] rfl rfl rfl rfl (two_of HT_.out (by kernel_rfl)) (by decide) (by decide) (fun K hK => ?_) (fun K hK => ?_)
        ·skip
         refine goes_ Try.func31 (by kernel_rfl) rfl #[.slice Ao85 t214.length co85] (by rfl) rfl rfl (by (try simp only [List.map_toArray, List.map_cons, List.map_nil]); first | done | rfl | (simp only [List.length_drop, List.length_take]; rfl)) ?_
         with_reducible refine (acmelaw12_runs.calls _ _ t214 t310 _ ?side1 ?side2 A141.out).mono ?_
         (case side1 => repeat (first | exact (Kd.R_reads' HO_7.out).2.2 | (with_reducible refine Kd.C_alloc ?_ _) | (with_reducible refine Kd.C_drewN ?_ _) | (with_reducible refine Kd.C_drew ?_)))
         (case side2 => exact (Kd.R_reads' HO_7.out).2.1)
         rintro e w161 ⟨v311, rfl, ho0, hb⟩
         have HS0_ := (hb.cell (World.block_lt_of_cell? _ _ (hHeld.1))).trans (hHeld.1)
         have HS1_ := (hb.cell (World.block_lt_of_cell? _ _ (hHeld.2.1))).trans (hHeld.2.1)
         have HS2_ := (hb.cell (World.block_lt_of_cell? _ _ (hHeld.2.2))).trans (hHeld.2.2)
         refine ⟨_, rfl, ?_⟩
         replace HO_10 := Aside0.mk (Kd.R_below (ro_ HO_10) hb)
         replace HO_11 := Aside0.mk (Kd.R_below (ro_ HO_11) hb)
         replace HO_12 := Aside0.mk (Kd.R_below (ro_ HO_12) hb)
         replace HO_14 := Aside0.mk (Kd.R_below (ro_ HO_14) hb)
         replace HO299 := Aside0.mk (Kd.R_below (ro_ HO299) hb)
         replace HO302 := Aside0.mk (Kd.R_below (ro_ HO302) hb)
         replace HO305 := Aside0.mk (Kd.R_below (ro_ HO305) hb)
         replace HO309 := Aside0.mk (Kd.R_below (ro_ HO309) hb)
         have HO312 := Aside0.mk (Kd.R_lower (Kd.R_new' (Kd.R_new' ho0 (Kd.R_lt (ro_ HO_7))) (Kd.R_lt (ro_ HO292))) (below_size (hb_ HB)))
         replace HO_7 := Aside0.mk (Kd.R_elder' (ro_ HO_7) (Kd.R_base ho0) hb)
         replace HO292 := Aside0.mk (Kd.R_elder' (ro_ HO292) (Kd.R_base ho0) hb)
         replace BK213 := Aside0.mk (blk_below (bk_ BK213) hb)
         replace HB := Aside0.mk (below_step (hb_ HB) hb)
         (try clear hb)
         (try clear hb2)
         (try clear hk)
         (try clear hi)
         (try clear ho0)
         refine hK.out _ _ ⟨HS0_, HS1_, HS2_⟩ (fun hHeld => ?_)
         clear hK K
         refine norm_ (a' := ?_) ?_ ?_
         rotate_left
         ·show Act.put _ (some 196) _ = _
          simp only [Act.put, sa_, s0_, s1_, i64_w, i32_w]
          rfl
         refine two_ (i := 3) (j := 10) (Ni := some 198) (Nj := some 205) #[tt, tt, tt, tt, tt, ff, tt, tt, tt, tt, ff, ff, ff, ff, ff, ff, ff, ff] #[tt, tt, tt, ff, tt, ff, tt, tt, tt, tt, tt, ff, ff, ff, ff, ff, ff, ff] rfl rfl rfl rfl (two_of HT_.out (by kernel_rfl)) (by decide) (by decide) (fun K hK => ?_) (fun K hK => ?_)
         ·skip
          refine goes_ Try.func39 (by kernel_rfl) rfl #[.slice Ao87 x10_1.length co87] (by rfl) rfl rfl (by (try simp only [List.map_toArray, List.map_cons, List.map_nil]); first | done | rfl | (simp only [List.length_drop, List.length_take]; rfl)) ?_
          with_reducible refine (acmelaw12_lots.calls _ _ x10_1 t313 _ ?side1 ?side2 A142.out).mono ?_
          (case side1 => repeat (first | exact (Kd.R_reads' HO_10.out).2.2 | (with_reducible refine Kd.C_alloc ?_ _) | (with_reducible refine Kd.C_drewN ?_ _) | (with_reducible refine Kd.C_drew ?_)))
          (case side2 => exact (Kd.R_reads' HO_10.out).2.1)
          rintro e w162 ⟨v314, rfl, ho0, hb⟩
          have HS0_ := (hb.cell (World.block_lt_of_cell? _ _ (hHeld.1))).trans (hHeld.1)
          have HS1_ := (hb.cell (World.block_lt_of_cell? _ _ (hHeld.2.1))).trans (hHeld.2.1)
          have HS2_ := (hb.cell (World.block_lt_of_cell? _ _ (hHeld.2.2))).trans (hHeld.2.2)
          refine ⟨_, rfl, ?_⟩
          replace HO_7 := Aside0.mk (Kd.R_below (ro_ HO_7) hb)
          replace HO_14 := Aside0.mk (Kd.R_below (ro_ HO_14) hb)
          replace HO292 := Aside0.mk (Kd.R_below (ro_ HO292) hb)
          replace HO309 := Aside0.mk (Kd.R_below (ro_ HO309) hb)
          replace HO312 := Aside0.mk (Kd.R_below (ro_ HO312) hb)
          have HO315 := Aside0.mk (Kd.R_lower (Kd.R_new' (Kd.R_new' (Kd.R_new' (Kd.R_new' (Kd.R_new' (Kd.R_new' ho0 (Kd.R_lt (ro_ HO_10))) (Kd.R_lt (ro_ HO_11))) (Kd.R_lt (ro_ HO_12))) (Kd.R_lt (ro_ HO299))) (Kd.R_lt (ro_ HO302))) (Kd.R_lt (ro_ HO305))) (below_size (hb_ HB)))
          replace HO_10 := Aside0.mk (Kd.R_elder' (ro_ HO_10) (Kd.R_base ho0) hb)
          replace HO_11 := Aside0.mk (Kd.R_elder' (ro_ HO_11) (Kd.R_base ho0) hb)
          replace HO_12 := Aside0.mk (Kd.R_elder' (ro_ HO_12) (Kd.R_base ho0) hb)
          replace HO299 := Aside0.mk (Kd.R_elder' (ro_ HO299) (Kd.R_base ho0) hb)
          replace HO302 := Aside0.mk (Kd.R_elder' (ro_ HO302) (Kd.R_base ho0) hb)
          replace HO305 := Aside0.mk (Kd.R_elder' (ro_ HO305) (Kd.R_base ho0) hb)
          replace BK213 := Aside0.mk (blk_below (bk_ BK213) hb)
          replace HB := Aside0.mk (below_step (hb_ HB) hb)
          (try clear hb)
          (try clear hb2)
          (try clear hk)
          (try clear hi)
          (try clear ho0)
          refine hK.out _ _ ⟨HS0_, HS1_, HS2_⟩ (fun hHeld => ?_)
          clear hK K
          refine norm_ (a' := ?_) ?_ ?_
          rotate_left
          ·show Act.put _ (some 198) _ = _
           simp only [Act.put, sa_, s0_, s1_, i64_w, i32_w]
           rfl
          refine two_ (i := 5) (j := 10) (Ni := some 200) (Nj := some 205) #[tt, tt, tt, tt, tt, tt, tt, tt, tt, tt, ff, ff, ff, ff, ff, ff, ff, ff] #[tt, tt, tt, tt, tt, ff, tt, tt, tt, tt, tt, ff, ff, ff, ff, ff, ff, ff] rfl rfl rfl rfl (two_of HT_.out (by kernel_rfl)) (by decide) (by decide) (fun K hK => ?_) (fun K hK => ?_)
          ·skip
           refine goes_ Try.func39 (by kernel_rfl) rfl #[.slice Ao89 x11_1.length co89] (by rfl) rfl rfl (by (try simp only [List.map_toArray, List.map_cons, List.map_nil]); first | done | rfl | (simp only [List.length_drop, List.length_take]; rfl)) ?_
           with_reducible refine (acmelaw12_lots.calls _ _ x11_1 t316 _ ?side1 ?side2 A143.out).mono ?_
           (case side1 => repeat (first | exact (Kd.R_reads' HO_11.out).2.2 | (with_reducible refine Kd.C_alloc ?_ _) | (with_reducible refine Kd.C_drewN ?_ _) | (with_reducible refine Kd.C_drew ?_)))
           (case side2 => exact (Kd.R_reads' HO_11.out).2.1)
           rintro e w163 ⟨v317, rfl, ho0, hb⟩
           have HS0_ := (hb.cell (World.block_lt_of_cell? _ _ (hHeld.1))).trans (hHeld.1)
           have HS1_ := (hb.cell (World.block_lt_of_cell? _ _ (hHeld.2.1))).trans (hHeld.2.1)
           have HS2_ := (hb.cell (World.block_lt_of_cell? _ _ (hHeld.2.2))).trans (hHeld.2.2)
           refine ⟨_, rfl, ?_⟩
           replace HO_7 := Aside0.mk (Kd.R_below (ro_ HO_7) hb)
           replace HO_14 := Aside0.mk (Kd.R_below (ro_ HO_14) hb)
           replace HO292 := Aside0.mk (Kd.R_below (ro_ HO292) hb)
           replace HO309 := Aside0.mk (Kd.R_below (ro_ HO309) hb)
           replace HO312 := Aside0.mk (Kd.R_below (ro_ HO312) hb)
           have HO318 := Aside0.mk (Kd.R_lower (Kd.R_new' (Kd.R_new' (Kd.R_new' (Kd.R_new' (Kd.R_new' (Kd.R_new' (Kd.R_new' ho0 (Kd.R_lt (ro_ HO_10))) (Kd.R_lt (ro_ HO_11))) (Kd.R_lt (ro_ HO_12))) (Kd.R_lt (ro_ HO299))) (Kd.R_lt (ro_ HO302))) (Kd.R_lt (ro_ HO305))) (Kd.R_lt (ro_ HO315))) (below_size (hb_ HB)))
           replace HO_10 := Aside0.mk (Kd.R_elder' (ro_ HO_10) (Kd.R_base ho0) hb)
           replace HO_11 := Aside0.mk (Kd.R_elder' (ro_ HO_11) (Kd.R_base ho0) hb)
           replace HO_12 := Aside0.mk (Kd.R_elder' (ro_ HO_12) (Kd.R_base ho0) hb)
           replace HO299 := Aside0.mk (Kd.R_elder' (ro_ HO299) (Kd.R_base ho0) hb)
           replace HO302 := Aside0.mk (Kd.R_elder' (ro_ HO302) (Kd.R_base ho0) hb)
           replace HO305 := Aside0.mk (Kd.R_elder' (ro_ HO305) (Kd.R_base ho0) hb)
           replace HO315 := Aside0.mk (Kd.R_elder' (ro_ HO315) (Kd.R_base ho0) hb)
           replace BK213 := Aside0.mk (blk_below (bk_ BK213) hb)
           replace HB := Aside0.mk (below_step (hb_ HB) hb)
           (try clear hb)
           (try clear hb2)
           (try clear hk)
           (try clear hi)
           (try clear ho0)
           refine hK.out _ _ ⟨HS0_, HS1_, HS2_⟩ (fun hHeld => ?_)
           clear hK K
           refine norm_ (a' := ?_) ?_ ?_
           rotate_left
           ·show Act.put _ (some 200) _ = _
            simp only [Act.put, sa_, s0_, s1_, i64_w, i32_w]
            rfl
           refine one_ (i := 10) (N := some 205) #[tt, tt, tt, tt, tt, tt, tt, tt, tt, tt, tt, ff, ff, ff, ff, ff, ff, ff] rfl rfl (one_of HT_.out (by kernel_rfl)) (by decide) (fun K hK => ?_)
           refine Kd.R_lit_step k58 _ 58 ?hg (N := 205) ?hd (xs := ([(⟨(rd_T58 x12_1 x19_4).f0, (rd_T58 x12_1 x19_4).f1, (rd_T58 x12_1 x19_4).f2⟩ : S58)] : List (S58))) (inner := [.int .i64 ((rd_T58 x12_1 x19_4).f0), .int .i64 ((rd_T58 x12_1 x19_4).f1), .int .i64 ((rd_T58 x12_1 x19_4).f2)]) (ok := fun _ => True) (okp := fun _ => True) ?hr ?hp (fun _ hk => hk) trivial (Below.refl _ _) (Nat.le_refl _) (by simp) ?_; (case hd => rfl); (case hg => rfl); (case hr => first | (go_simp; done) | (go_simp; rfl)); (case hp => exact (Reps.c3 (show Kd.M k58 _ _ _ (⟨(rd_T58 x12_1 x19_4).f0, (rd_T58 x12_1 x19_4).f1, (rd_T58 x12_1 x19_4).f2⟩ : S58) [.int .i64 ((rd_T58 x12_1 x19_4).f0), .int .i64 ((rd_T58 x12_1 x19_4).f1), .int .i64 ((rd_T58 x12_1 x19_4).f2)] from (k58_mkM _ _ _ (⟨(rd_T58 x12_1 x19_4).f0, (rd_T58 x12_1 x19_4).f1, (rd_T58 x12_1 x19_4).f2⟩ : S58) )) (Reps.none _ _)))
           intro v321 w164 ho165 hb hg_ hnew_
           have HS0_ := (hb.cell (World.block_lt_of_cell? _ _ (hHeld.1))).trans (hHeld.1)
           have HS1_ := (hb.cell (World.block_lt_of_cell? _ _ (hHeld.2.1))).trans (hHeld.2.1)
           have HS2_ := (hb.cell (World.block_lt_of_cell? _ _ (hHeld.2.2))).trans (hHeld.2.2)
           clear hg_ hnew_
           (first | rw [← Ny320.out] at ho165 | (simp only [Int.reduceToNat] at ho165; rw [← Ny320.out] at ho165))
           replace HO_7 := Aside0.mk (Kd.R_below (ro_ HO_7) hb)
           replace HO_14 := Aside0.mk (Kd.R_below (ro_ HO_14) hb)
           replace HO292 := Aside0.mk (Kd.R_below (ro_ HO292) hb)
           replace HO309 := Aside0.mk (Kd.R_below (ro_ HO309) hb)
           replace HO312 := Aside0.mk (Kd.R_below (ro_ HO312) hb)
           have HO322 := Aside0.mk (Kd.R_lower (Kd.R_new' (Kd.R_new' (Kd.R_new' (Kd.R_new' (Kd.R_new' (Kd.R_new' (Kd.R_new' (Kd.R_new' ho165 (Kd.R_lt (ro_ HO_10))) (Kd.R_lt (ro_ HO_11))) (Kd.R_lt (ro_ HO_12))) (Kd.R_lt (ro_ HO299))) (Kd.R_lt (ro_ HO302))) (Kd.R_lt (ro_ HO305))) (Kd.R_lt (ro_ HO315))) (Kd.R_lt (ro_ HO318))) (below_size (hb_ HB)))
           replace HO_10 := Aside0.mk (Kd.R_elder' (ro_ HO_10) (Kd.R_base ho165) hb)
           replace HO_11 := Aside0.mk (Kd.R_elder' (ro_ HO_11) (Kd.R_base ho165) hb)
           replace HO_12 := Aside0.mk (Kd.R_elder' (ro_ HO_12) (Kd.R_base ho165) hb)
           replace HO299 := Aside0.mk (Kd.R_elder' (ro_ HO299) (Kd.R_base ho165) hb)
           replace HO302 := Aside0.mk (Kd.R_elder' (ro_ HO302) (Kd.R_base ho165) hb)
           replace HO305 := Aside0.mk (Kd.R_elder' (ro_ HO305) (Kd.R_base ho165) hb)
           replace HO315 := Aside0.mk (Kd.R_elder' (ro_ HO315) (Kd.R_base ho165) hb)
           replace HO318 := Aside0.mk (Kd.R_elder' (ro_ HO318) (Kd.R_base ho165) hb)
           replace BK213 := Aside0.mk (blk_below (bk_ BK213) hb)
           replace HB := Aside0.mk (below_step (hb_ HB) hb)
           clear hb ho165
           refine hK.out _ _ ⟨HS0_, HS1_, HS2_⟩ (fun hHeld => ?_)
           clear hK K
           refine norm_ (a' := ?_) ?_ ?_
           rotate_left
           ·show Act.put _ (some 205) _ = _
            simp only [Act.put, sa_, s0_, s1_, i64_w, i32_w]
            rfl
           exact norm_ (by simp only [putAll, Act.put, List.setIfInBounds_toArray, List.set_cons_zero, List.set_cons_succ]) (hCont (v311, v314, v317, v321) _ ⟨hHeld, (by (with_reducible repeat (first | apply Kd.R_alloc | apply Kd.R_drewN | apply Kd.R_drew)); exact Kd.R_mono HO292.out (fun _ hk => ⟨hk.2, hk.1⟩)), (by (with_reducible repeat (first | apply Kd.R_alloc | apply Kd.R_drewN | apply Kd.R_drew)); exact Kd.R_mono HO299.out (fun _ hk => ⟨hk.1.1.1.1.2, ⟨hk.1.1.1.2, ⟨hk.1.1.2, ⟨hk.1.2, ⟨hk.2, ⟨hk.1.1.1.1.1.1, ⟨hk.1.1.1.1.1.2.1, hk.1.1.1.1.1.2.2⟩⟩⟩⟩⟩⟩⟩)), (by (with_reducible repeat (first | apply Kd.R_alloc | apply Kd.R_drewN | apply Kd.R_drew)); exact Kd.R_mono HO302.out (fun _ hk => ⟨hk.1.1.1.1.2.2.2, ⟨hk.1.1.1.2, ⟨hk.1.1.2, ⟨hk.1.2, ⟨hk.2, ⟨hk.1.1.1.1.1, ⟨hk.1.1.1.1.2.1, hk.1.1.1.1.2.2.1⟩⟩⟩⟩⟩⟩⟩)), (by (with_reducible repeat (first | apply Kd.R_alloc | apply Kd.R_drewN | apply Kd.R_drew)); exact Kd.R_mono HO305.out (fun _ hk => ⟨hk.1.1.1.1.2, ⟨hk.1.1.1.2, ⟨hk.1.1.2, ⟨hk.1.2, ⟨hk.2, ⟨hk.1.1.1.1.1.1.1.2, ⟨hk.1.1.1.1.1.1.2, hk.1.1.1.1.1.2⟩⟩⟩⟩⟩⟩⟩)), (by (with_reducible repeat (first | apply Kd.R_alloc | apply Kd.R_drewN | apply Kd.R_drew)); exact Kd.R_mono HO309.out (fun _ hk => hk.2)), (by (with_reducible repeat (first | apply Kd.R_alloc | apply Kd.R_drewN | apply Kd.R_drew)); exact Kd.R_mono HO312.out (fun _ hk => ⟨hk.2, hk.1.2⟩)), (by (with_reducible repeat (first | apply Kd.R_alloc | apply Kd.R_drewN | apply Kd.R_drew)); exact Kd.R_mono HO315.out (fun _ hk => ⟨hk.1.1.1.1.2, ⟨hk.1.1.1.2, ⟨hk.1.1.2, ⟨hk.1.2, ⟨hk.2, ⟨hk.1.1.1.1.1.1.1.2, ⟨hk.1.1.1.1.1.1.2, hk.1.1.1.1.1.2⟩⟩⟩⟩⟩⟩⟩)), (by (with_reducible repeat (first | apply Kd.R_alloc | apply Kd.R_drewN | apply Kd.R_drew)); exact Kd.R_mono HO318.out (fun _ hk => ⟨hk.1.1.1.1.2, ⟨hk.1.1.1.2, ⟨hk.1.1.2, ⟨hk.1.2, ⟨hk.2, ⟨hk.1.1.1.1.1.1.1.2, ⟨hk.1.1.1.1.1.1.2, hk.1.1.1.1.1.2⟩⟩⟩⟩⟩⟩⟩)), (by (with_reducible repeat (first | apply Kd.R_alloc | apply Kd.R_drewN | apply Kd.R_drew)); exact Kd.R_mono HO322.out (fun _ hk => ⟨hk.1.1.1.1.2, ⟨hk.1.1.1.2, ⟨hk.1.1.2, ⟨hk.1.2, ⟨hk.2, ⟨hk.1.1.1.1.1.1.1.2, ⟨hk.1.1.1.1.1.1.2, hk.1.1.1.1.1.2⟩⟩⟩⟩⟩⟩⟩)), (by (with_reducible repeat (first | apply Kd.R_alloc | apply Kd.R_drewN | apply Kd.R_drew)); exact Kd.R_mono HO_10.out (fun _ hk => ⟨hk.1.1.1.1.1.2.2, ⟨hk.1.1.1.1.2, ⟨hk.1.1.1.2, ⟨hk.1.1.2, ⟨hk.1.2, ⟨hk.2, ⟨hk.1.1.1.1.1.1, hk.1.1.1.1.1.2.1⟩⟩⟩⟩⟩⟩⟩)), (by (with_reducible repeat (first | apply Kd.R_alloc | apply Kd.R_drewN | apply Kd.R_drew)); exact Kd.R_mono HO_11.out (fun _ hk => ⟨hk.1.1.1.1.1.2.2, ⟨hk.1.1.1.1.2, ⟨hk.1.1.1.2, ⟨hk.1.1.2, ⟨hk.1.2, ⟨hk.2, ⟨hk.1.1.1.1.1.1, hk.1.1.1.1.1.2.1⟩⟩⟩⟩⟩⟩⟩)), (by (with_reducible repeat (first | apply Kd.R_alloc | apply Kd.R_drewN | apply Kd.R_drew)); exact Kd.R_mono HO_12.out (fun _ hk => ⟨hk.1.1.1.1.1.2.2, ⟨hk.1.1.1.1.2, ⟨hk.1.1.1.2, ⟨hk.1.1.2, ⟨hk.1.2, ⟨hk.2, ⟨hk.1.1.1.1.1.1, hk.1.1.1.1.1.2.1⟩⟩⟩⟩⟩⟩⟩)), (by (with_reducible repeat (first | apply Kd.R_alloc | apply Kd.R_drewN | apply Kd.R_drew)); exact Kd.R_mono HO_14.out (fun _ hk => hk.2)), (ro_ HO_7), (bk_ BK213), (hb_ HB)⟩)
          skip
          refine Kd.R_lit_step k58 _ 58 ?hg (N := 205) ?hd (xs := ([(⟨(rd_T58 x12_1 x19_4).f0, (rd_T58 x12_1 x19_4).f1, (rd_T58 x12_1 x19_4).f2⟩ : S58)] : List (S58))) (inner := [.int .i64 ((rd_T58 x12_1 x19_4).f0), .int .i64 ((rd_T58 x12_1 x19_4).f1), .int .i64 ((rd_T58 x12_1 x19_4).f2)]) (ok := fun _ => True) (okp := fun _ => True) ?hr ?hp (fun _ hk => hk) trivial (Below.refl _ _) (Nat.le_refl _) (by simp) ?_; (case hd => rfl); (case hg => rfl); (case hr => first | (go_simp; done) | (go_simp; rfl)); (case hp => exact (Reps.c3 (show Kd.M k58 _ _ _ (⟨(rd_T58 x12_1 x19_4).f0, (rd_T58 x12_1 x19_4).f1, (rd_T58 x12_1 x19_4).f2⟩ : S58) [.int .i64 ((rd_T58 x12_1 x19_4).f0), .int .i64 ((rd_T58 x12_1 x19_4).f1), .int .i64 ((rd_T58 x12_1 x19_4).f2)] from (k58_mkM _ _ _ (⟨(rd_T58 x12_1 x19_4).f0, (rd_T58 x12_1 x19_4).f1, (rd_T58 x12_1 x19_4).f2⟩ : S58) )) (Reps.none _ _)))
          intro v321 w163 ho164 hb hg_ hnew_
          have HS0_ := (hb.cell (World.block_lt_of_cell? _ _ (hHeld.1))).trans (hHeld.1)
          have HS1_ := (hb.cell (World.block_lt_of_cell? _ _ (hHeld.2.1))).trans (hHeld.2.1)
          have HS2_ := (hb.cell (World.block_lt_of_cell? _ _ (hHeld.2.2))).trans (hHeld.2.2)
          clear hg_ hnew_
          (first | rw [← Ny320.out] at ho164 | (simp only [Int.reduceToNat] at ho164; rw [← Ny320.out] at ho164))
          replace HO_7 := Aside0.mk (Kd.R_below (ro_ HO_7) hb)
          replace HO_14 := Aside0.mk (Kd.R_below (ro_ HO_14) hb)
          replace HO292 := Aside0.mk (Kd.R_below (ro_ HO292) hb)
          replace HO309 := Aside0.mk (Kd.R_below (ro_ HO309) hb)
          replace HO312 := Aside0.mk (Kd.R_below (ro_ HO312) hb)
          have HO322 := Aside0.mk (Kd.R_lower (Kd.R_new' (Kd.R_new' (Kd.R_new' (Kd.R_new' (Kd.R_new' (Kd.R_new' (Kd.R_new' ho164 (Kd.R_lt (ro_ HO_10))) (Kd.R_lt (ro_ HO_11))) (Kd.R_lt (ro_ HO_12))) (Kd.R_lt (ro_ HO299))) (Kd.R_lt (ro_ HO302))) (Kd.R_lt (ro_ HO305))) (Kd.R_lt (ro_ HO315))) (below_size (hb_ HB)))
          replace HO_10 := Aside0.mk (Kd.R_elder' (ro_ HO_10) (Kd.R_base ho164) hb)
          replace HO_11 := Aside0.mk (Kd.R_elder' (ro_ HO_11) (Kd.R_base ho164) hb)
          replace HO_12 := Aside0.mk (Kd.R_elder' (ro_ HO_12) (Kd.R_base ho164) hb)
          replace HO299 := Aside0.mk (Kd.R_elder' (ro_ HO299) (Kd.R_base ho164) hb)
          replace HO302 := Aside0.mk (Kd.R_elder' (ro_ HO302) (Kd.R_base ho164) hb)
          replace HO305 := Aside0.mk (Kd.R_elder' (ro_ HO305) (Kd.R_base ho164) hb)
          replace HO315 := Aside0.mk (Kd.R_elder' (ro_ HO315) (Kd.R_base ho164) hb)
          replace BK213 := Aside0.mk (blk_below (bk_ BK213) hb)
          replace HB := Aside0.mk (below_step (hb_ HB) hb)
          clear hb ho164
          refine hK.out _ _ ⟨HS0_, HS1_, HS2_⟩ (fun hHeld => ?_)
          clear hK K
          refine norm_ (a' := ?_) ?_ ?_
          rotate_left
          ·show Act.put _ (some 205) _ = _
           simp only [Act.put, sa_, s0_, s1_, i64_w, i32_w]
           rfl
          refine one_ (i := 5) (N := some 200) #[tt, tt, tt, tt, tt, tt, tt, tt, tt, tt, tt, ff, ff, ff, ff, ff, ff, ff] rfl rfl (one_of HT_.out (by kernel_rfl)) (by decide) (fun K hK => ?_)
          refine goes_ Try.func39 (by kernel_rfl) rfl #[.slice Ao89 x11_1.length co89] (by rfl) rfl rfl (by (try simp only [List.map_toArray, List.map_cons, List.map_nil]); first | done | rfl | (simp only [List.length_drop, List.length_take]; rfl)) ?_
          with_reducible refine (acmelaw12_lots.calls _ _ x11_1 t316 _ ?side1 ?side2 A143.out).mono ?_
          (case side1 => repeat (first | exact (Kd.R_reads' HO_11.out).2.2 | (with_reducible refine Kd.C_alloc ?_ _) | (with_reducible refine Kd.C_drewN ?_ _) | (with_reducible refine Kd.C_drew ?_)))
          (case side2 => exact (Kd.R_reads' HO_11.out).2.1)
          rintro e w165 ⟨v317, rfl, ho0, hb⟩
          have HS0_ := (hb.cell (World.block_lt_of_cell? _ _ (hHeld.1))).trans (hHeld.1)
          have HS1_ := (hb.cell (World.block_lt_of_cell? _ _ (hHeld.2.1))).trans (hHeld.2.1)
          have HS2_ := (hb.cell (World.block_lt_of_cell? _ _ (hHeld.2.2))).trans (hHeld.2.2)
          refine ⟨_, rfl, ?_⟩
          replace HO_7 := Aside0.mk (Kd.R_below (ro_ HO_7) hb)
          replace HO_14 := Aside0.mk (Kd.R_below (ro_ HO_14) hb)
          replace HO292 := Aside0.mk (Kd.R_below (ro_ HO292) hb)
          replace HO309 := Aside0.mk (Kd.R_below (ro_ HO309) hb)
          replace HO312 := Aside0.mk (Kd.R_below (ro_ HO312) hb)
          have HO318 := Aside0.mk (Kd.R_lower (Kd.R_new' (Kd.R_new' (Kd.R_new' (Kd.R_new' (Kd.R_new' (Kd.R_new' (Kd.R_new' (Kd.R_new' ho0 (Kd.R_lt (ro_ HO_10))) (Kd.R_lt (ro_ HO_11))) (Kd.R_lt (ro_ HO_12))) (Kd.R_lt (ro_ HO299))) (Kd.R_lt (ro_ HO302))) (Kd.R_lt (ro_ HO305))) (Kd.R_lt (ro_ HO315))) (Kd.R_lt (ro_ HO322))) (below_size (hb_ HB)))
          replace HO_10 := Aside0.mk (Kd.R_elder' (ro_ HO_10) (Kd.R_base ho0) hb)
          replace HO_11 := Aside0.mk (Kd.R_elder' (ro_ HO_11) (Kd.R_base ho0) hb)
          replace HO_12 := Aside0.mk (Kd.R_elder' (ro_ HO_12) (Kd.R_base ho0) hb)
          replace HO299 := Aside0.mk (Kd.R_elder' (ro_ HO299) (Kd.R_base ho0) hb)
          replace HO302 := Aside0.mk (Kd.R_elder' (ro_ HO302) (Kd.R_base ho0) hb)
          replace HO305 := Aside0.mk (Kd.R_elder' (ro_ HO305) (Kd.R_base ho0) hb)
          replace HO315 := Aside0.mk (Kd.R_elder' (ro_ HO315) (Kd.R_base ho0) hb)
          replace HO322 := Aside0.mk (Kd.R_elder' (ro_ HO322) (Kd.R_base ho0) hb)
          replace BK213 := Aside0.mk (blk_below (bk_ BK213) hb)
          replace HB := Aside0.mk (below_step (hb_ HB) hb)
          (try clear hb)
          (try clear hb2)
          (try clear hk)
          (try clear hi)
          (try clear ho0)
          refine hK.out _ _ ⟨HS0_, HS1_, HS2_⟩ (fun hHeld => ?_)
          clear hK K
          refine norm_ (a' := ?_) ?_ ?_
          rotate_left
          ·show Act.put _ (some 200) _ = _
           simp only [Act.put, sa_, s0_, s1_, i64_w, i32_w]
           rfl
          exact norm_ (by simp only [putAll, Act.put, List.setIfInBounds_toArray, List.set_cons_zero, List.set_cons_succ]) (hCont (v311, v314, v317, v321) _ ⟨hHeld, (by (with_reducible repeat (first | apply Kd.R_alloc | apply Kd.R_drewN | apply Kd.R_drew)); exact Kd.R_mono HO292.out (fun _ hk => ⟨hk.2, hk.1⟩)), (by (with_reducible repeat (first | apply Kd.R_alloc | apply Kd.R_drewN | apply Kd.R_drew)); exact Kd.R_mono HO299.out (fun _ hk => ⟨hk.1.1.1.1.2, ⟨hk.1.1.1.2, ⟨hk.1.1.2, ⟨hk.2, ⟨hk.1.2, ⟨hk.1.1.1.1.1.1, ⟨hk.1.1.1.1.1.2.1, hk.1.1.1.1.1.2.2⟩⟩⟩⟩⟩⟩⟩)), (by (with_reducible repeat (first | apply Kd.R_alloc | apply Kd.R_drewN | apply Kd.R_drew)); exact Kd.R_mono HO302.out (fun _ hk => ⟨hk.1.1.1.1.2.2.2, ⟨hk.1.1.1.2, ⟨hk.1.1.2, ⟨hk.2, ⟨hk.1.2, ⟨hk.1.1.1.1.1, ⟨hk.1.1.1.1.2.1, hk.1.1.1.1.2.2.1⟩⟩⟩⟩⟩⟩⟩)), (by (with_reducible repeat (first | apply Kd.R_alloc | apply Kd.R_drewN | apply Kd.R_drew)); exact Kd.R_mono HO305.out (fun _ hk => ⟨hk.1.1.1.1.2, ⟨hk.1.1.1.2, ⟨hk.1.1.2, ⟨hk.2, ⟨hk.1.2, ⟨hk.1.1.1.1.1.1.1.2, ⟨hk.1.1.1.1.1.1.2, hk.1.1.1.1.1.2⟩⟩⟩⟩⟩⟩⟩)), (by (with_reducible repeat (first | apply Kd.R_alloc | apply Kd.R_drewN | apply Kd.R_drew)); exact Kd.R_mono HO309.out (fun _ hk => hk.2)), (by (with_reducible repeat (first | apply Kd.R_alloc | apply Kd.R_drewN | apply Kd.R_drew)); exact Kd.R_mono HO312.out (fun _ hk => ⟨hk.2, hk.1.2⟩)), (by (with_reducible repeat (first | apply Kd.R_alloc | apply Kd.R_drewN | apply Kd.R_drew)); exact Kd.R_mono HO315.out (fun _ hk => ⟨hk.1.1.1.1.2, ⟨hk.1.1.1.2, ⟨hk.1.1.2, ⟨hk.2, ⟨hk.1.2, ⟨hk.1.1.1.1.1.1.1.2, ⟨hk.1.1.1.1.1.1.2, hk.1.1.1.1.1.2⟩⟩⟩⟩⟩⟩⟩)), (by (with_reducible repeat (first | apply Kd.R_alloc | apply Kd.R_drewN | apply Kd.R_drew)); exact Kd.R_mono HO318.out (fun _ hk => ⟨hk.1.1.1.1.2, ⟨hk.1.1.1.2, ⟨hk.1.1.2, ⟨hk.1.2, ⟨hk.2, ⟨hk.1.1.1.1.1.1.1.2, ⟨hk.1.1.1.1.1.1.2, hk.1.1.1.1.1.2⟩⟩⟩⟩⟩⟩⟩)), (by (with_reducible repeat (first | apply Kd.R_alloc | apply Kd.R_drewN | apply Kd.R_drew)); exact Kd.R_mono HO322.out (fun _ hk => ⟨hk.1.1.1.1.2, ⟨hk.1.1.1.2, ⟨hk.1.1.2, ⟨hk.1.2, ⟨hk.2, ⟨hk.1.1.1.1.1.1.1.2, ⟨hk.1.1.1.1.1.1.2, hk.1.1.1.1.1.2⟩⟩⟩⟩⟩⟩⟩)), (by (with_reducible repeat (first | apply Kd.R_alloc | apply Kd.R_drewN | apply Kd.R_drew)); exact Kd.R_mono HO_10.out (fun _ hk => ⟨hk.1.1.1.1.1.2.2, ⟨hk.1.1.1.1.2, ⟨hk.1.1.1.2, ⟨hk.1.1.2, ⟨hk.2, ⟨hk.1.2, ⟨hk.1.1.1.1.1.1, hk.1.1.1.1.1.2.1⟩⟩⟩⟩⟩⟩⟩)), (by (with_reducible repeat (first | apply Kd.R_alloc | apply Kd.R_drewN | apply Kd.R_drew)); exact Kd.R_mono HO_11.out (fun _ hk => ⟨hk.1.1.1.1.1.2.2, ⟨hk.1.1.1.1.2, ⟨hk.1.1.1.2, ⟨hk.1.1.2, ⟨hk.2, ⟨hk.1.2, ⟨hk.1.1.1.1.1.1, hk.1.1.1.1.1.2.1⟩⟩⟩⟩⟩⟩⟩)), (by (with_reducible repeat (first | apply Kd.R_alloc | apply Kd.R_drewN | apply Kd.R_drew)); exact Kd.R_mono HO_12.out (fun _ hk => ⟨hk.1.1.1.1.1.2.2, ⟨hk.1.1.1.1.2, ⟨hk.1.1.1.2, ⟨hk.1.1.2, ⟨hk.2, ⟨hk.1.2, ⟨hk.1.1.1.1.1.1, hk.1.1.1.1.1.2.1⟩⟩⟩⟩⟩⟩⟩)), (by (with_reducible repeat (first | apply Kd.R_alloc | apply Kd.R_drewN | apply Kd.R_drew)); exact Kd.R_mono HO_14.out (fun _ hk => hk.2)), (ro_ HO_7), (bk_ BK213), (hb_ HB)⟩)
         skip
         refine Kd.R_lit_step k58 _ 58 ?hg (N := 205) ?hd (xs := ([(⟨(rd_T58 x12_1 x19_4).f0, (rd_T58 x12_1 x19_4).f1, (rd_T58 x12_1 x19_4).f2⟩ : S58)] : List (S58))) (inner := [.int .i64 ((rd_T58 x12_1 x19_4).f0), .int .i64 ((rd_T58 x12_1 x19_4).f1), .int .i64 ((rd_T58 x12_1 x19_4).f2)]) (ok := fun _ => True) (okp := fun _ => True) ?hr ?hp (fun _ hk => hk) trivial (Below.refl _ _) (Nat.le_refl _) (by simp) ?_; (case hd => rfl); (case hg => rfl); (case hr => first | (go_simp; done) | (go_simp; rfl)); (case hp => exact (Reps.c3 (show Kd.M k58 _ _ _ (⟨(rd_T58 x12_1 x19_4).f0, (rd_T58 x12_1 x19_4).f1, (rd_T58 x12_1 x19_4).f2⟩ : S58) [.int .i64 ((rd_T58 x12_1 x19_4).f0), .int .i64 ((rd_T58 x12_1 x19_4).f1), .int .i64 ((rd_T58 x12_1 x19_4).f2)] from (k58_mkM _ _ _ (⟨(rd_T58 x12_1 x19_4).f0, (rd_T58 x12_1 x19_4).f1, (rd_T58 x12_1 x19_4).f2⟩ : S58) )) (Reps.none _ _)))
         intro v321 w162 ho163 hb hg_ hnew_
         have HS0_ := (hb.cell (World.block_lt_of_cell? _ _ (hHeld.1))).trans (hHeld.1)
         have HS1_ := (hb.cell (World.block_lt_of_cell? _ _ (hHeld.2.1))).trans (hHeld.2.1)
         have HS2_ := (hb.cell (World.block_lt_of_cell? _ _ (hHeld.2.2))).trans (hHeld.2.2)
         clear hg_ hnew_
         (first | rw [← Ny320.out] at ho163 | (simp only [Int.reduceToNat] at ho163; rw [← Ny320.out] at ho163))
         replace HO_7 := Aside0.mk (Kd.R_below (ro_ HO_7) hb)
         replace HO_14 := Aside0.mk (Kd.R_below (ro_ HO_14) hb)
         replace HO292 := Aside0.mk (Kd.R_below (ro_ HO292) hb)
         replace HO309 := Aside0.mk (Kd.R_below (ro_ HO309) hb)
         replace HO312 := Aside0.mk (Kd.R_below (ro_ HO312) hb)
         have HO322 := Aside0.mk (Kd.R_lower (Kd.R_new' (Kd.R_new' (Kd.R_new' (Kd.R_new' (Kd.R_new' (Kd.R_new' ho163 (Kd.R_lt (ro_ HO_10))) (Kd.R_lt (ro_ HO_11))) (Kd.R_lt (ro_ HO_12))) (Kd.R_lt (ro_ HO299))) (Kd.R_lt (ro_ HO302))) (Kd.R_lt (ro_ HO305))) (below_size (hb_ HB)))
         replace HO_10 := Aside0.mk (Kd.R_elder' (ro_ HO_10) (Kd.R_base ho163) hb)
         replace HO_11 := Aside0.mk (Kd.R_elder' (ro_ HO_11) (Kd.R_base ho163) hb)
         replace HO_12 := Aside0.mk (Kd.R_elder' (ro_ HO_12) (Kd.R_base ho163) hb)
         replace HO299 := Aside0.mk (Kd.R_elder' (ro_ HO299) (Kd.R_base ho163) hb)
         replace HO302 := Aside0.mk (Kd.R_elder' (ro_ HO302) (Kd.R_base ho163) hb)
         replace HO305 := Aside0.mk (Kd.R_elder' (ro_ HO305) (Kd.R_base ho163) hb)
         replace BK213 := Aside0.mk (blk_below (bk_ BK213) hb)
         replace HB := Aside0.mk (below_step (hb_ HB) hb)
         clear hb ho163
         refine hK.out _ _ ⟨HS0_, HS1_, HS2_⟩ (fun hHeld => ?_)
         clear hK K
         refine norm_ (a' := ?_) ?_ ?_
         rotate_left
         ·show Act.put _ (some 205) _ = _
          simp only [Act.put, sa_, s0_, s1_, i64_w, i32_w]
          rfl
         refine one_ (i := 3) (N := some 198) #[tt, tt, tt, tt, tt, ff, tt, tt, tt, tt, tt, ff, ff, ff, ff, ff, ff, ff] rfl rfl (one_of HT_.out (by kernel_rfl)) (by decide) (fun K hK => ?_)
         refine goes_ Try.func39 (by kernel_rfl) rfl #[.slice Ao87 x10_1.length co87] (by rfl) rfl rfl (by (try simp only [List.map_toArray, List.map_cons, List.map_nil]); first | done | rfl | (simp only [List.length_drop, List.length_take]; rfl)) ?_
         with_reducible refine (acmelaw12_lots.calls _ _ x10_1 t313 _ ?side1 ?side2 A142.out).mono ?_
         (case side1 => repeat (first | exact (Kd.R_reads' HO_10.out).2.2 | (with_reducible refine Kd.C_alloc ?_ _) | (with_reducible refine Kd.C_drewN ?_ _) | (with_reducible refine Kd.C_drew ?_)))
         (case side2 => exact (Kd.R_reads' HO_10.out).2.1)
         rintro e w164 ⟨v314, rfl, ho0, hb⟩
         have HS0_ := (hb.cell (World.block_lt_of_cell? _ _ (hHeld.1))).trans (hHeld.1)
         have HS1_ := (hb.cell (World.block_lt_of_cell? _ _ (hHeld.2.1))).trans (hHeld.2.1)
         have HS2_ := (hb.cell (World.block_lt_of_cell? _ _ (hHeld.2.2))).trans (hHeld.2.2)
         refine ⟨_, rfl, ?_⟩
         replace HO_7 := Aside0.mk (Kd.R_below (ro_ HO_7) hb)
         replace HO_14 := Aside0.mk (Kd.R_below (ro_ HO_14) hb)
         replace HO292 := Aside0.mk (Kd.R_below (ro_ HO292) hb)
         replace HO309 := Aside0.mk (Kd.R_below (ro_ HO309) hb)
         replace HO312 := Aside0.mk (Kd.R_below (ro_ HO312) hb)
         have HO315 := Aside0.mk (Kd.R_lower (Kd.R_new' (Kd.R_new' (Kd.R_new' (Kd.R_new' (Kd.R_new' (Kd.R_new' (Kd.R_new' ho0 (Kd.R_lt (ro_ HO_10))) (Kd.R_lt (ro_ HO_11))) (Kd.R_lt (ro_ HO_12))) (Kd.R_lt (ro_ HO299))) (Kd.R_lt (ro_ HO302))) (Kd.R_lt (ro_ HO305))) (Kd.R_lt (ro_ HO322))) (below_size (hb_ HB)))
         replace HO_10 := Aside0.mk (Kd.R_elder' (ro_ HO_10) (Kd.R_base ho0) hb)
         replace HO_11 := Aside0.mk (Kd.R_elder' (ro_ HO_11) (Kd.R_base ho0) hb)
         replace HO_12 := Aside0.mk (Kd.R_elder' (ro_ HO_12) (Kd.R_base ho0) hb)
         replace HO299 := Aside0.mk (Kd.R_elder' (ro_ HO299) (Kd.R_base ho0) hb)
         replace HO302 := Aside0.mk (Kd.R_elder' (ro_ HO302) (Kd.R_base ho0) hb)
         replace HO305 := Aside0.mk (Kd.R_elder' (ro_ HO305) (Kd.R_base ho0) hb)
         replace HO322 := Aside0.mk (Kd.R_elder' (ro_ HO322) (Kd.R_base ho0) hb)
         replace BK213 := Aside0.mk (blk_below (bk_ BK213) hb)
         replace HB := Aside0.mk (below_step (hb_ HB) hb)
         (try clear hb)
         (try clear hb2)
         (try clear hk)
         (try clear hi)
         (try clear ho0)
         refine hK.out _ _ ⟨HS0_, HS1_, HS2_⟩ (fun hHeld => ?_)
         clear hK K
         refine norm_ (a' := ?_) ?_ ?_
         rotate_left
         ·show Act.put _ (some 198) _ = _
          simp only [Act.put, sa_, s0_, s1_, i64_w, i32_w]
          rfl
         refine one_ (i := 5) (N := some 200) #[tt, tt, tt, tt, tt, tt, tt, tt, tt, tt, tt, ff, ff, ff, ff, ff, ff, ff] rfl rfl (one_of HT_.out (by kernel_rfl)) (by decide) (fun K hK => ?_)
         refine goes_ Try.func39 (by kernel_rfl) rfl #[.slice Ao89 x11_1.length co89] (by rfl) rfl rfl (by (try simp only [List.map_toArray, List.map_cons, List.map_nil]); first | done | rfl | (simp only [List.length_drop, List.length_take]; rfl)) ?_
         with_reducible refine (acmelaw12_lots.calls _ _ x11_1 t316 _ ?side1 ?side2 A143.out).mono ?_
         (case side1 => repeat (first | exact (Kd.R_reads' HO_11.out).2.2 | (with_reducible refine Kd.C_alloc ?_ _) | (with_reducible refine Kd.C_drewN ?_ _) | (with_reducible refine Kd.C_drew ?_)))
         (case side2 => exact (Kd.R_reads' HO_11.out).2.1)
         rintro e w165 ⟨v317, rfl, ho0, hb⟩
         have HS0_ := (hb.cell (World.block_lt_of_cell? _ _ (hHeld.1))).trans (hHeld.1)
         have HS1_ := (hb.cell (World.block_lt_of_cell? _ _ (hHeld.2.1))).trans (hHeld.2.1)
         have HS2_ := (hb.cell (World.block_lt_of_cell? _ _ (hHeld.2.2))).trans (hHeld.2.2)
         refine ⟨_, rfl, ?_⟩
         replace HO_7 := Aside0.mk (Kd.R_below (ro_ HO_7) hb)
         replace HO_14 := Aside0.mk (Kd.R_below (ro_ HO_14) hb)
         replace HO292 := Aside0.mk (Kd.R_below (ro_ HO292) hb)
         replace HO309 := Aside0.mk (Kd.R_below (ro_ HO309) hb)
         replace HO312 := Aside0.mk (Kd.R_below (ro_ HO312) hb)
         have HO318 := Aside0.mk (Kd.R_lower (Kd.R_new' (Kd.R_new' (Kd.R_new' (Kd.R_new' (Kd.R_new' (Kd.R_new' (Kd.R_new' (Kd.R_new' ho0 (Kd.R_lt (ro_ HO_10))) (Kd.R_lt (ro_ HO_11))) (Kd.R_lt (ro_ HO_12))) (Kd.R_lt (ro_ HO299))) (Kd.R_lt (ro_ HO302))) (Kd.R_lt (ro_ HO305))) (Kd.R_lt (ro_ HO322))) (Kd.R_lt (ro_ HO315))) (below_size (hb_ HB)))
         replace HO_10 := Aside0.mk (Kd.R_elder' (ro_ HO_10) (Kd.R_base ho0) hb)
         replace HO_11 := Aside0.mk (Kd.R_elder' (ro_ HO_11) (Kd.R_base ho0) hb)
         replace HO_12 := Aside0.mk (Kd.R_elder' (ro_ HO_12) (Kd.R_base ho0) hb)
         replace HO299 := Aside0.mk (Kd.R_elder' (ro_ HO299) (Kd.R_base ho0) hb)
         replace HO302 := Aside0.mk (Kd.R_elder' (ro_ HO302) (Kd.R_base ho0) hb)
         replace HO305 := Aside0.mk (Kd.R_elder' (ro_ HO305) (Kd.R_base ho0) hb)
         replace HO322 := Aside0.mk (Kd.R_elder' (ro_ HO322) (Kd.R_base ho0) hb)
         replace HO315 := Aside0.mk (Kd.R_elder' (ro_ HO315) (Kd.R_base ho0) hb)
         replace BK213 := Aside0.mk (blk_below (bk_ BK213) hb)
         replace HB := Aside0.mk (below_step (hb_ HB) hb)
         (try clear hb)
         (try clear hb2)
         (try clear hk)
         (try clear hi)
         (try clear ho0)
         refine hK.out _ _ ⟨HS0_, HS1_, HS2_⟩ (fun hHeld => ?_)
         clear hK K
         refine norm_ (a' := ?_) ?_ ?_
         rotate_left
         ·show Act.put _ (some 200) _ = _
          simp only [Act.put, sa_, s0_, s1_, i64_w, i32_w]
          rfl
         exact norm_ (by simp only [putAll, Act.put, List.setIfInBounds_toArray, List.set_cons_zero, List.set_cons_succ]) (hCont (v311, v314, v317, v321) _ ⟨hHeld, (by (with_reducible repeat (first | apply Kd.R_alloc | apply Kd.R_drewN | apply Kd.R_drew)); exact Kd.R_mono HO292.out (fun _ hk => ⟨hk.2, hk.1⟩)), (by (with_reducible repeat (first | apply Kd.R_alloc | apply Kd.R_drewN | apply Kd.R_drew)); exact Kd.R_mono HO299.out (fun _ hk => ⟨hk.1.1.1.1.2, ⟨hk.1.1.1.2, ⟨hk.1.2, ⟨hk.2, ⟨hk.1.1.2, ⟨hk.1.1.1.1.1.1, ⟨hk.1.1.1.1.1.2.1, hk.1.1.1.1.1.2.2⟩⟩⟩⟩⟩⟩⟩)), (by (with_reducible repeat (first | apply Kd.R_alloc | apply Kd.R_drewN | apply Kd.R_drew)); exact Kd.R_mono HO302.out (fun _ hk => ⟨hk.1.1.1.1.2.2.2, ⟨hk.1.1.1.2, ⟨hk.1.2, ⟨hk.2, ⟨hk.1.1.2, ⟨hk.1.1.1.1.1, ⟨hk.1.1.1.1.2.1, hk.1.1.1.1.2.2.1⟩⟩⟩⟩⟩⟩⟩)), (by (with_reducible repeat (first | apply Kd.R_alloc | apply Kd.R_drewN | apply Kd.R_drew)); exact Kd.R_mono HO305.out (fun _ hk => ⟨hk.1.1.1.1.2, ⟨hk.1.1.1.2, ⟨hk.1.2, ⟨hk.2, ⟨hk.1.1.2, ⟨hk.1.1.1.1.1.1.1.2, ⟨hk.1.1.1.1.1.1.2, hk.1.1.1.1.1.2⟩⟩⟩⟩⟩⟩⟩)), (by (with_reducible repeat (first | apply Kd.R_alloc | apply Kd.R_drewN | apply Kd.R_drew)); exact Kd.R_mono HO309.out (fun _ hk => hk.2)), (by (with_reducible repeat (first | apply Kd.R_alloc | apply Kd.R_drewN | apply Kd.R_drew)); exact Kd.R_mono HO312.out (fun _ hk => ⟨hk.2, hk.1.2⟩)), (by (with_reducible repeat (first | apply Kd.R_alloc | apply Kd.R_drewN | apply Kd.R_drew)); exact Kd.R_mono HO315.out (fun _ hk => ⟨hk.1.1.1.1.2, ⟨hk.1.1.1.2, ⟨hk.1.1.2, ⟨hk.2, ⟨hk.1.2, ⟨hk.1.1.1.1.1.1.1.2, ⟨hk.1.1.1.1.1.1.2, hk.1.1.1.1.1.2⟩⟩⟩⟩⟩⟩⟩)), (by (with_reducible repeat (first | apply Kd.R_alloc | apply Kd.R_drewN | apply Kd.R_drew)); exact Kd.R_mono HO318.out (fun _ hk => ⟨hk.1.1.1.1.2, ⟨hk.1.1.1.2, ⟨hk.1.1.2, ⟨hk.2, ⟨hk.1.2, ⟨hk.1.1.1.1.1.1.1.2, ⟨hk.1.1.1.1.1.1.2, hk.1.1.1.1.1.2⟩⟩⟩⟩⟩⟩⟩)), (by (with_reducible repeat (first | apply Kd.R_alloc | apply Kd.R_drewN | apply Kd.R_drew)); exact Kd.R_mono HO322.out (fun _ hk => ⟨hk.1.1.1.1.2, ⟨hk.1.1.1.2, ⟨hk.1.1.2, ⟨hk.1.2, ⟨hk.2, ⟨hk.1.1.1.1.1.1.1.2, ⟨hk.1.1.1.1.1.1.2, hk.1.1.1.1.1.2⟩⟩⟩⟩⟩⟩⟩)), (by (with_reducible repeat (first | apply Kd.R_alloc | apply Kd.R_drewN | apply Kd.R_drew)); exact Kd.R_mono HO_10.out (fun _ hk => ⟨hk.1.1.1.1.1.2.2, ⟨hk.1.1.1.1.2, ⟨hk.1.1.1.2, ⟨hk.1.2, ⟨hk.2, ⟨hk.1.1.2, ⟨hk.1.1.1.1.1.1, hk.1.1.1.1.1.2.1⟩⟩⟩⟩⟩⟩⟩)), (by (with_reducible repeat (first | apply Kd.R_alloc | apply Kd.R_drewN | apply Kd.R_drew)); exact Kd.R_mono HO_11.out (fun _ hk => ⟨hk.1.1.1.1.1.2.2, ⟨hk.1.1.1.1.2, ⟨hk.1.1.1.2, ⟨hk.1.2, ⟨hk.2, ⟨hk.1.1.2, ⟨hk.1.1.1.1.1.1, hk.1.1.1.1.1.2.1⟩⟩⟩⟩⟩⟩⟩)), (by (with_reducible repeat (first | apply Kd.R_alloc | apply Kd.R_drewN | apply Kd.R_drew)); exact Kd.R_mono HO_12.out (fun _ hk => ⟨hk.1.1.1.1.1.2.2, ⟨hk.1.1.1.1.2, ⟨hk.1.1.1.2, ⟨hk.1.2, ⟨hk.2, ⟨hk.1.1.2, ⟨hk.1.1.1.1.1.1, hk.1.1.1.1.1.2.1⟩⟩⟩⟩⟩⟩⟩)), (by (with_reducible repeat (first | apply Kd.R_alloc | apply Kd.R_drewN | apply Kd.R_drew)); exact Kd.R_mono HO_14.out (fun _ hk => hk.2)), (ro_ HO_7), (bk_ BK213), (hb_ HB)⟩)
        skip
        refine Kd.R_lit_step k58 _ 58 ?hg (N := 205) ?hd (xs := ([(⟨(rd_T58 x12_1 x19_4).f0, (rd_T58 x12_1 x19_4).f1, (rd_T58 x12_1 x19_4).f2⟩ : S58)] : List (S58))) (inner := [.int .i64 ((rd_T58 x12_1 x19_4).f0), .int .i64 ((rd_T58 x12_1 x19_4).f1), .int .i64 ((rd_T58 x12_1 x19_4).f2)]) (ok := fun _ => True) (okp := fun _ => True) ?hr ?hp (fun _ hk => hk) trivial (Below.refl _ _) (Nat.le_refl _) (by simp) ?_; (case hd => rfl); (case hg => rfl); (case hr => first | (go_simp; done) | (go_simp; rfl)); (case hp => exact (Reps.c3 (show Kd.M k58 _ _ _ (⟨(rd_T58 x12_1 x19_4).f0, (rd_T58 x12_1 x19_4).f1, (rd_T58 x12_1 x19_4).f2⟩ : S58) [.int .i64 ((rd_T58 x12_1 x19_4).f0), .int .i64 ((rd_T58 x12_1 x19_4).f1), .int .i64 ((rd_T58 x12_1 x19_4).f2)] from (k58_mkM _ _ _ (⟨(rd_T58 x12_1 x19_4).f0, (rd_T58 x12_1 x19_4).f1, (rd_T58 x12_1 x19_4).f2⟩ : S58) )) (Reps.none _ _)))
        intro v321 w161 ho162 hb hg_ hnew_
        have HS0_ := (hb.cell (World.block_lt_of_cell? _ _ (hHeld.1))).trans (hHeld.1)
        have HS1_ := (hb.cell (World.block_lt_of_cell? _ _ (hHeld.2.1))).trans (hHeld.2.1)
        have HS2_ := (hb.cell (World.block_lt_of_cell? _ _ (hHeld.2.2))).trans (hHeld.2.2)
        clear hg_ hnew_
        (first | rw [← Ny320.out] at ho162 | (simp only [Int.reduceToNat] at ho162; rw [← Ny320.out] at ho162))
        replace HO_7 := Aside0.mk (Kd.R_below (ro_ HO_7) hb)
        replace HO_14 := Aside0.mk (Kd.R_below (ro_ HO_14) hb)
        replace HO292 := Aside0.mk (Kd.R_below (ro_ HO292) hb)
        replace HO309 := Aside0.mk (Kd.R_below (ro_ HO309) hb)
        have HO322 := Aside0.mk (Kd.R_lower (Kd.R_new' (Kd.R_new' (Kd.R_new' (Kd.R_new' (Kd.R_new' (Kd.R_new' ho162 (Kd.R_lt (ro_ HO_10))) (Kd.R_lt (ro_ HO_11))) (Kd.R_lt (ro_ HO_12))) (Kd.R_lt (ro_ HO299))) (Kd.R_lt (ro_ HO302))) (Kd.R_lt (ro_ HO305))) (below_size (hb_ HB)))
        replace HO_10 := Aside0.mk (Kd.R_elder' (ro_ HO_10) (Kd.R_base ho162) hb)
        replace HO_11 := Aside0.mk (Kd.R_elder' (ro_ HO_11) (Kd.R_base ho162) hb)
        replace HO_12 := Aside0.mk (Kd.R_elder' (ro_ HO_12) (Kd.R_base ho162) hb)
        replace HO299 := Aside0.mk (Kd.R_elder' (ro_ HO299) (Kd.R_base ho162) hb)
        replace HO302 := Aside0.mk (Kd.R_elder' (ro_ HO302) (Kd.R_base ho162) hb)
        replace HO305 := Aside0.mk (Kd.R_elder' (ro_ HO305) (Kd.R_base ho162) hb)
        replace BK213 := Aside0.mk (blk_below (bk_ BK213) hb)
        replace HB := Aside0.mk (below_step (hb_ HB) hb)
        clear hb ho162
        refine hK.out _ _ ⟨HS0_, HS1_, HS2_⟩ (fun hHeld => ?_)
        clear hK K
        refine norm_ (a' := ?_) ?_ ?_
        rotate_left
        ·show Act.put _ (some 205) _ = _
         simp only [Act.put, sa_, s0_, s1_, i64_w, i32_w]
         rfl
        refine one_ (i := 1) (N := some 196) #[tt, tt, tt, ff, tt, ff, tt, tt, tt, tt, tt, ff, ff, ff, ff, ff, ff, ff] rfl rfl (one_of HT_.out (by kernel_rfl)) (by decide) (fun K hK => ?_)
        refine goes_ Try.func31 (by kernel_rfl) rfl #[.slice Ao85 t214.length co85] (by rfl) rfl rfl (by (try simp only [List.map_toArray, List.map_cons, List.map_nil]); first | done | rfl | (simp only [List.length_drop, List.length_take]; rfl)) ?_
        with_reducible refine (acmelaw12_runs.calls _ _ t214 t310 _ ?side1 ?side2 A141.out).mono ?_
        (case side1 => repeat (first | exact (Kd.R_reads' HO_7.out).2.2 | (with_reducible refine Kd.C_alloc ?_ _) | (with_reducible refine Kd.C_drewN ?_ _) | (with_reducible refine Kd.C_drew ?_)))
        (case side2 => exact (Kd.R_reads' HO_7.out).2.1)
        rintro e w163 ⟨v311, rfl, ho0, hb⟩
        have HS0_ := (hb.cell (World.block_lt_of_cell? _ _ (hHeld.1))).trans (hHeld.1)
        have HS1_ := (hb.cell (World.block_lt_of_cell? _ _ (hHeld.2.1))).trans (hHeld.2.1)
        have HS2_ := (hb.cell (World.block_lt_of_cell? _ _ (hHeld.2.2))).trans (hHeld.2.2)
        refine ⟨_, rfl, ?_⟩
        replace HO_10 := Aside0.mk (Kd.R_below (ro_ HO_10) hb)
        replace HO_11 := Aside0.mk (Kd.R_below (ro_ HO_11) hb)
        replace HO_12 := Aside0.mk (Kd.R_below (ro_ HO_12) hb)
        replace HO_14 := Aside0.mk (Kd.R_below (ro_ HO_14) hb)
        replace HO299 := Aside0.mk (Kd.R_below (ro_ HO299) hb)
        replace HO302 := Aside0.mk (Kd.R_below (ro_ HO302) hb)
        replace HO305 := Aside0.mk (Kd.R_below (ro_ HO305) hb)
        replace HO309 := Aside0.mk (Kd.R_below (ro_ HO309) hb)
        replace HO322 := Aside0.mk (Kd.R_below (ro_ HO322) hb)
        have HO312 := Aside0.mk (Kd.R_lower (Kd.R_new' (Kd.R_new' ho0 (Kd.R_lt (ro_ HO_7))) (Kd.R_lt (ro_ HO292))) (below_size (hb_ HB)))
        replace HO_7 := Aside0.mk (Kd.R_elder' (ro_ HO_7) (Kd.R_base ho0) hb)
        replace HO292 := Aside0.mk (Kd.R_elder' (ro_ HO292) (Kd.R_base ho0) hb)
        replace BK213 := Aside0.mk (blk_below (bk_ BK213) hb)
        replace HB := Aside0.mk (below_step (hb_ HB) hb)
        (try clear hb)
        (try clear hb2)
        (try clear hk)
        (try clear hi)
        (try clear ho0)
        refine hK.out _ _ ⟨HS0_, HS1_, HS2_⟩ (fun hHeld => ?_)
        clear hK K
        refine norm_ (a' := ?_) ?_ ?_
        rotate_left
        ·show Act.put _ (some 196) _ = _
         simp only [Act.put, sa_, s0_, s1_, i64_w, i32_w]
         rfl
        refine one_ (i := 3) (N := some 198) #[tt, tt, tt, tt, tt, ff, tt, tt, tt, tt, tt, ff, ff, ff, ff, ff, ff, ff] rfl rfl (one_of HT_.out (by kernel_rfl)) (by decide) (fun K hK => ?_)
        refine goes_ Try.func39 (by kernel_rfl) rfl #[.slice Ao87 x10_1.length co87] (by rfl) rfl rfl (by (try simp only [List.map_toArray, List.map_cons, List.map_nil]); first | done | rfl | (simp only [List.length_drop, List.length_take]; rfl)) ?_
        with_reducible refine (acmelaw12_lots.calls _ _ x10_1 t313 _ ?side1 ?side2 A142.out).mono ?_
        (case side1 => repeat (first | exact (Kd.R_reads' HO_10.out).2.2 | (with_reducible refine Kd.C_alloc ?_ _) | (with_reducible refine Kd.C_drewN ?_ _) | (with_reducible refine Kd.C_drew ?_)))
        (case side2 => exact (Kd.R_reads' HO_10.out).2.1)
        rintro e w164 ⟨v314, rfl, ho0, hb⟩
        have HS0_ := (hb.cell (World.block_lt_of_cell? _ _ (hHeld.1))).trans (hHeld.1)
        have HS1_ := (hb.cell (World.block_lt_of_cell? _ _ (hHeld.2.1))).trans (hHeld.2.1)
        have HS2_ := (hb.cell (World.block_lt_of_cell? _ _ (hHeld.2.2))).trans (hHeld.2.2)
        refine ⟨_, rfl, ?_⟩
        replace HO_7 := Aside0.mk (Kd.R_below (ro_ HO_7) hb)
        replace HO_14 := Aside0.mk (Kd.R_below (ro_ HO_14) hb)
        replace HO292 := Aside0.mk (Kd.R_below (ro_ HO292) hb)
        replace HO309 := Aside0.mk (Kd.R_below (ro_ HO309) hb)
        replace HO312 := Aside0.mk (Kd.R_below (ro_ HO312) hb)
        have HO315 := Aside0.mk (Kd.R_lower (Kd.R_new' (Kd.R_new' (Kd.R_new' (Kd.R_new' (Kd.R_new' (Kd.R_new' (Kd.R_new' ho0 (Kd.R_lt (ro_ HO_10))) (Kd.R_lt (ro_ HO_11))) (Kd.R_lt (ro_ HO_12))) (Kd.R_lt (ro_ HO299))) (Kd.R_lt (ro_ HO302))) (Kd.R_lt (ro_ HO305))) (Kd.R_lt (ro_ HO322))) (below_size (hb_ HB)))
        replace HO_10 := Aside0.mk (Kd.R_elder' (ro_ HO_10) (Kd.R_base ho0) hb)
        replace HO_11 := Aside0.mk (Kd.R_elder' (ro_ HO_11) (Kd.R_base ho0) hb)
        replace HO_12 := Aside0.mk (Kd.R_elder' (ro_ HO_12) (Kd.R_base ho0) hb)
        replace HO299 := Aside0.mk (Kd.R_elder' (ro_ HO299) (Kd.R_base ho0) hb)
        replace HO302 := Aside0.mk (Kd.R_elder' (ro_ HO302) (Kd.R_base ho0) hb)
        replace HO305 := Aside0.mk (Kd.R_elder' (ro_ HO305) (Kd.R_base ho0) hb)
        replace HO322 := Aside0.mk (Kd.R_elder' (ro_ HO322) (Kd.R_base ho0) hb)
        replace BK213 := Aside0.mk (blk_below (bk_ BK213) hb)
        replace HB := Aside0.mk (below_step (hb_ HB) hb)
        (try clear hb)
        (try clear hb2)
        (try clear hk)
        (try clear hi)
        (try clear ho0)
        refine hK.out _ _ ⟨HS0_, HS1_, HS2_⟩ (fun hHeld => ?_)
        clear hK K
        refine norm_ (a' := ?_) ?_ ?_
        rotate_left
        ·show Act.put _ (some 198) _ = _
         simp only [Act.put, sa_, s0_, s1_, i64_w, i32_w]
         rfl
        refine one_ (i := 5) (N := some 200) #[tt, tt, tt, tt, tt, tt, tt, tt, tt, tt, tt, ff, ff, ff, ff, ff, ff, ff] rfl rfl (one_of HT_.out (by kernel_rfl)) (by decide) (fun K hK => ?_)
        refine goes_ Try.func39 (by kernel_rfl) rfl #[.slice Ao89 x11_1.length co89] (by rfl) rfl rfl (by (try simp only [List.map_toArray, List.map_cons, List.map_nil]); first | done | rfl | (simp only [List.length_drop, List.length_take]; rfl)) ?_
        with_reducible refine (acmelaw12_lots.calls _ _ x11_1 t316 _ ?side1 ?side2 A143.out).mono ?_
        (case side1 => repeat (first | exact (Kd.R_reads' HO_11.out).2.2 | (with_reducible refine Kd.C_alloc ?_ _) | (with_reducible refine Kd.C_drewN ?_ _) | (with_reducible refine Kd.C_drew ?_)))
        (case side2 => exact (Kd.R_reads' HO_11.out).2.1)
        rintro e w165 ⟨v317, rfl, ho0, hb⟩
        have HS0_ := (hb.cell (World.block_lt_of_cell? _ _ (hHeld.1))).trans (hHeld.1)
        have HS1_ := (hb.cell (World.block_lt_of_cell? _ _ (hHeld.2.1))).trans (hHeld.2.1)
        have HS2_ := (hb.cell (World.block_lt_of_cell? _ _ (hHeld.2.2))).trans (hHeld.2.2)
        refine ⟨_, rfl, ?_⟩
        replace HO_7 := Aside0.mk (Kd.R_below (ro_ HO_7) hb)
        replace HO_14 := Aside0.mk (Kd.R_below (ro_ HO_14) hb)
        replace HO292 := Aside0.mk (Kd.R_below (ro_ HO292) hb)
        replace HO309 := Aside0.mk (Kd.R_below (ro_ HO309) hb)
        replace HO312 := Aside0.mk (Kd.R_below (ro_ HO312) hb)
        have HO318 := Aside0.mk (Kd.R_lower (Kd.R_new' (Kd.R_new' (Kd.R_new' (Kd.R_new' (Kd.R_new' (Kd.R_new' (Kd.R_new' (Kd.R_new' ho0 (Kd.R_lt (ro_ HO_10))) (Kd.R_lt (ro_ HO_11))) (Kd.R_lt (ro_ HO_12))) (Kd.R_lt (ro_ HO299))) (Kd.R_lt (ro_ HO302))) (Kd.R_lt (ro_ HO305))) (Kd.R_lt (ro_ HO322))) (Kd.R_lt (ro_ HO315))) (below_size (hb_ HB)))
        replace HO_10 := Aside0.mk (Kd.R_elder' (ro_ HO_10) (Kd.R_base ho0) hb)
        replace HO_11 := Aside0.mk (Kd.R_elder' (ro_ HO_11) (Kd.R_base ho0) hb)
        replace HO_12 := Aside0.mk (Kd.R_elder' (ro_ HO_12) (Kd.R_base ho0) hb)
        replace HO299 := Aside0.mk (Kd.R_elder' (ro_ HO299) (Kd.R_base ho0) hb)
        replace HO302 := Aside0.mk (Kd.R_elder' (ro_ HO302) (Kd.R_base ho0) hb)
        replace HO305 := Aside0.mk (Kd.R_elder' (ro_ HO305) (Kd.R_base ho0) hb)
        replace HO322 := Aside0.mk (Kd.R_elder' (ro_ HO322) (Kd.R_base ho0) hb)
        replace HO315 := Aside0.mk (Kd.R_elder' (ro_ HO315) (Kd.R_base ho0) hb)
        replace BK213 := Aside0.mk (blk_below (bk_ BK213) hb)
        replace HB := Aside0.mk (below_step (hb_ HB) hb)
        (try clear hb)
        (try clear hb2)
        (try clear hk)
        (try clear hi)
        (try clear ho0)
        refine hK.out _ _ ⟨HS0_, HS1_, HS2_⟩ (fun hHeld => ?_)
        clear hK K
        refine norm_ (a' := ?_) ?_ ?_
        rotate_left
        ·show Act.put _ (some 200) _ = _
         simp only [Act.put, sa_, s0_, s1_, i64_w, i32_w]
         rfl
        exact norm_ (by simp only [putAll, Act.put, List.setIfInBounds_toArray, List.set_cons_zero, List.set_cons_succ]) (hCont (v311, v314, v317, v321) _ ⟨hHeld, (by (with_reducible repeat (first | apply Kd.R_alloc | apply Kd.R_drewN | apply Kd.R_drew)); exact Kd.R_mono HO292.out (fun _ hk => ⟨hk.2, hk.1⟩)), (by (with_reducible repeat (first | apply Kd.R_alloc | apply Kd.R_drewN | apply Kd.R_drew)); exact Kd.R_mono HO299.out (fun _ hk => ⟨hk.1.1.1.1.2, ⟨hk.1.1.1.2, ⟨hk.1.2, ⟨hk.2, ⟨hk.1.1.2, ⟨hk.1.1.1.1.1.1, ⟨hk.1.1.1.1.1.2.1, hk.1.1.1.1.1.2.2⟩⟩⟩⟩⟩⟩⟩)), (by (with_reducible repeat (first | apply Kd.R_alloc | apply Kd.R_drewN | apply Kd.R_drew)); exact Kd.R_mono HO302.out (fun _ hk => ⟨hk.1.1.1.1.2.2.2, ⟨hk.1.1.1.2, ⟨hk.1.2, ⟨hk.2, ⟨hk.1.1.2, ⟨hk.1.1.1.1.1, ⟨hk.1.1.1.1.2.1, hk.1.1.1.1.2.2.1⟩⟩⟩⟩⟩⟩⟩)), (by (with_reducible repeat (first | apply Kd.R_alloc | apply Kd.R_drewN | apply Kd.R_drew)); exact Kd.R_mono HO305.out (fun _ hk => ⟨hk.1.1.1.1.2, ⟨hk.1.1.1.2, ⟨hk.1.2, ⟨hk.2, ⟨hk.1.1.2, ⟨hk.1.1.1.1.1.1.1.2, ⟨hk.1.1.1.1.1.1.2, hk.1.1.1.1.1.2⟩⟩⟩⟩⟩⟩⟩)), (by (with_reducible repeat (first | apply Kd.R_alloc | apply Kd.R_drewN | apply Kd.R_drew)); exact Kd.R_mono HO309.out (fun _ hk => hk.2)), (by (with_reducible repeat (first | apply Kd.R_alloc | apply Kd.R_drewN | apply Kd.R_drew)); exact Kd.R_mono HO312.out (fun _ hk => ⟨hk.2, hk.1.2⟩)), (by (with_reducible repeat (first | apply Kd.R_alloc | apply Kd.R_drewN | apply Kd.R_drew)); exact Kd.R_mono HO315.out (fun _ hk => ⟨hk.1.1.1.1.2, ⟨hk.1.1.1.2, ⟨hk.1.1.2, ⟨hk.2, ⟨hk.1.2, ⟨hk.1.1.1.1.1.1.1.2, ⟨hk.1.1.1.1.1.1.2, hk.1.1.1.1.1.2⟩⟩⟩⟩⟩⟩⟩)), (by (with_reducible repeat (first | apply Kd.R_alloc | apply Kd.R_drewN | apply Kd.R_drew)); exact Kd.R_mono HO318.out (fun _ hk => ⟨hk.1.1.1.1.2, ⟨hk.1.1.1.2, ⟨hk.1.1.2, ⟨hk.2, ⟨hk.1.2, ⟨hk.1.1.1.1.1.1.1.2, ⟨hk.1.1.1.1.1.1.2, hk.1.1.1.1.1.2⟩⟩⟩⟩⟩⟩⟩)), (by (with_reducible repeat (first | apply Kd.R_alloc | apply Kd.R_drewN | apply Kd.R_drew)); exact Kd.R_mono HO322.out (fun _ hk => ⟨hk.1.1.1.1.2, ⟨hk.1.1.1.2, ⟨hk.1.1.2, ⟨hk.1.2, ⟨hk.2, ⟨hk.1.1.1.1.1.1.1.2, ⟨hk.1.1.1.1.1.1.2, hk.1.1.1.1.1.2⟩⟩⟩⟩⟩⟩⟩)), (by (with_reducible repeat (first | apply Kd.R_alloc | apply Kd.R_drewN | apply Kd.R_drew)); exact Kd.R_mono HO_10.out (fun _ hk => ⟨hk.1.1.1.1.1.2.2, ⟨hk.1.1.1.1.2, ⟨hk.1.1.1.2, ⟨hk.1.2, ⟨hk.2, ⟨hk.1.1.2, ⟨hk.1.1.1.1.1.1, hk.1.1.1.1.1.2.1⟩⟩⟩⟩⟩⟩⟩)), (by (with_reducible repeat (first | apply Kd.R_alloc | apply Kd.R_drewN | apply Kd.R_drew)); exact Kd.R_mono HO_11.out (fun _ hk => ⟨hk.1.1.1.1.1.2.2, ⟨hk.1.1.1.1.2, ⟨hk.1.1.1.2, ⟨hk.1.2, ⟨hk.2, ⟨hk.1.1.2, ⟨hk.1.1.1.1.1.1, hk.1.1.1.1.1.2.1⟩⟩⟩⟩⟩⟩⟩)), (by (with_reducible repeat (first | apply Kd.R_alloc | apply Kd.R_drewN | apply Kd.R_drew)); exact Kd.R_mono HO_12.out (fun _ hk => ⟨hk.1.1.1.1.1.2.2, ⟨hk.1.1.1.1.2, ⟨hk.1.1.1.2, ⟨hk.1.2, ⟨hk.2, ⟨hk.1.1.2, ⟨hk.1.1.1.1.1.1, hk.1.1.1.1.1.2.1⟩⟩⟩⟩⟩⟩⟩)), (by (with_reducible repeat (first | apply Kd.R_alloc | apply Kd.R_drewN | apply Kd.R_drew)); exact Kd.R_mono HO_14.out (fun _ hk => hk.2)), (ro_ HO_7), (bk_ BK213), (hb_ HB)⟩)
       rintro ⟨v311, v314, v317, v321⟩ w166 ⟨hS_, h0_, h1_, h2_, h3_, h4_, h5_, h6_, h7_, h8_, h9_, h10_, h11_, h12_, h13_, h14_, h15_⟩
       have n0_ : Aside0 (Kd.R k144 144 w166 w.heap.size (fun k_ => some k_ ≠ (v311 : Value).ownBlock ∧ some k_ ≠ (.slice Ao85 t214.length co85 : Value).ownBlock) (.slice Ao156 t290.length co156) t290) := ⟨h0_⟩
       have n1_ : Aside0 (Kd.R k58 58 w166 w.heap.size (fun k_ => some k_ ≠ (.slice Ao157 y300.length co157 : Value).ownBlock ∧ some k_ ≠ (.slice Ao158 t303.length co158 : Value).ownBlock ∧ some k_ ≠ (v314 : Value).ownBlock ∧ some k_ ≠ (v317 : Value).ownBlock ∧ some k_ ≠ (v321 : Value).ownBlock ∧ some k_ ≠ (.slice Ao87 x10_1.length co87 : Value).ownBlock ∧ some k_ ≠ (.slice Ao89 x11_1.length co89 : Value).ownBlock ∧ some k_ ≠ (.slice (some ad296) x12_1.length co98 : Value).ownBlock) (.slice Ao154 y297.length co154) y297) := ⟨h1_⟩
       have n2_ : Aside0 (Kd.R k58 58 w166 w.heap.size (fun k_ => some k_ ≠ (.slice Ao154 y297.length co154 : Value).ownBlock ∧ some k_ ≠ (.slice Ao158 t303.length co158 : Value).ownBlock ∧ some k_ ≠ (v314 : Value).ownBlock ∧ some k_ ≠ (v317 : Value).ownBlock ∧ some k_ ≠ (v321 : Value).ownBlock ∧ some k_ ≠ (.slice Ao87 x10_1.length co87 : Value).ownBlock ∧ some k_ ≠ (.slice Ao89 x11_1.length co89 : Value).ownBlock ∧ some k_ ≠ (.slice (some ad296) x12_1.length co98 : Value).ownBlock) (.slice Ao157 y300.length co157) y300) := ⟨h2_⟩
       have n3_ : Aside0 (Kd.R k58 58 w166 w.heap.size (fun k_ => some k_ ≠ (.slice Ao154 y297.length co154 : Value).ownBlock ∧ some k_ ≠ (.slice Ao157 y300.length co157 : Value).ownBlock ∧ some k_ ≠ (v314 : Value).ownBlock ∧ some k_ ≠ (v317 : Value).ownBlock ∧ some k_ ≠ (v321 : Value).ownBlock ∧ some k_ ≠ (.slice Ao87 x10_1.length co87 : Value).ownBlock ∧ some k_ ≠ (.slice Ao89 x11_1.length co89 : Value).ownBlock ∧ some k_ ≠ (.slice (some ad296) x12_1.length co98 : Value).ownBlock) (.slice Ao158 t303.length co158) t303) := ⟨h3_⟩
       have n4_ : Aside0 (Kd.R k79 79 w166 w.heap.size (fun k_ => some k_ ≠ (v268 : Value).ownBlock) v308 t306) := ⟨h4_⟩
       have n5_ : Aside0 (Kd.R k144 144 w166 w.heap.size (fun k_ => some k_ ≠ (.slice Ao156 t290.length co156 : Value).ownBlock ∧ some k_ ≠ (.slice Ao85 t214.length co85 : Value).ownBlock) v311 t310) := ⟨h5_⟩
       have n6_ : Aside0 (Kd.R k58 58 w166 w.heap.size (fun k_ => some k_ ≠ (.slice Ao154 y297.length co154 : Value).ownBlock ∧ some k_ ≠ (.slice Ao157 y300.length co157 : Value).ownBlock ∧ some k_ ≠ (.slice Ao158 t303.length co158 : Value).ownBlock ∧ some k_ ≠ (v317 : Value).ownBlock ∧ some k_ ≠ (v321 : Value).ownBlock ∧ some k_ ≠ (.slice Ao87 x10_1.length co87 : Value).ownBlock ∧ some k_ ≠ (.slice Ao89 x11_1.length co89 : Value).ownBlock ∧ some k_ ≠ (.slice (some ad296) x12_1.length co98 : Value).ownBlock) v314 t313) := ⟨h6_⟩
       have n7_ : Aside0 (Kd.R k58 58 w166 w.heap.size (fun k_ => some k_ ≠ (.slice Ao154 y297.length co154 : Value).ownBlock ∧ some k_ ≠ (.slice Ao157 y300.length co157 : Value).ownBlock ∧ some k_ ≠ (.slice Ao158 t303.length co158 : Value).ownBlock ∧ some k_ ≠ (v314 : Value).ownBlock ∧ some k_ ≠ (v321 : Value).ownBlock ∧ some k_ ≠ (.slice Ao87 x10_1.length co87 : Value).ownBlock ∧ some k_ ≠ (.slice Ao89 x11_1.length co89 : Value).ownBlock ∧ some k_ ≠ (.slice (some ad296) x12_1.length co98 : Value).ownBlock) v317 t316) := ⟨h7_⟩
       have n8_ : Aside0 (Kd.R k58 58 w166 w.heap.size (fun k_ => some k_ ≠ (.slice Ao154 y297.length co154 : Value).ownBlock ∧ some k_ ≠ (.slice Ao157 y300.length co157 : Value).ownBlock ∧ some k_ ≠ (.slice Ao158 t303.length co158 : Value).ownBlock ∧ some k_ ≠ (v314 : Value).ownBlock ∧ some k_ ≠ (v317 : Value).ownBlock ∧ some k_ ≠ (.slice Ao87 x10_1.length co87 : Value).ownBlock ∧ some k_ ≠ (.slice Ao89 x11_1.length co89 : Value).ownBlock ∧ some k_ ≠ (.slice (some ad296) x12_1.length co98 : Value).ownBlock) v321 y320) := ⟨h8_⟩
       have n9_ : Aside0 (Kd.R k58 58 w166 w.heap.size (fun k_ => some k_ ≠ (.slice Ao154 y297.length co154 : Value).ownBlock ∧ some k_ ≠ (.slice Ao157 y300.length co157 : Value).ownBlock ∧ some k_ ≠ (.slice Ao158 t303.length co158 : Value).ownBlock ∧ some k_ ≠ (v314 : Value).ownBlock ∧ some k_ ≠ (v317 : Value).ownBlock ∧ some k_ ≠ (v321 : Value).ownBlock ∧ some k_ ≠ (.slice Ao89 x11_1.length co89 : Value).ownBlock ∧ some k_ ≠ (.slice (some ad296) x12_1.length co98 : Value).ownBlock) (.slice Ao87 x10_1.length co87) x10_1) := ⟨h9_⟩
       have n10_ : Aside0 (Kd.R k58 58 w166 w.heap.size (fun k_ => some k_ ≠ (.slice Ao154 y297.length co154 : Value).ownBlock ∧ some k_ ≠ (.slice Ao157 y300.length co157 : Value).ownBlock ∧ some k_ ≠ (.slice Ao158 t303.length co158 : Value).ownBlock ∧ some k_ ≠ (v314 : Value).ownBlock ∧ some k_ ≠ (v317 : Value).ownBlock ∧ some k_ ≠ (v321 : Value).ownBlock ∧ some k_ ≠ (.slice Ao87 x10_1.length co87 : Value).ownBlock ∧ some k_ ≠ (.slice (some ad296) x12_1.length co98 : Value).ownBlock) (.slice Ao89 x11_1.length co89) x11_1) := ⟨h10_⟩
       have n11_ : Aside0 (Kd.R k58 58 w166 w.heap.size (fun k_ => some k_ ≠ (.slice Ao154 y297.length co154 : Value).ownBlock ∧ some k_ ≠ (.slice Ao157 y300.length co157 : Value).ownBlock ∧ some k_ ≠ (.slice Ao158 t303.length co158 : Value).ownBlock ∧ some k_ ≠ (v314 : Value).ownBlock ∧ some k_ ≠ (v317 : Value).ownBlock ∧ some k_ ≠ (v321 : Value).ownBlock ∧ some k_ ≠ (.slice Ao87 x10_1.length co87 : Value).ownBlock ∧ some k_ ≠ (.slice Ao89 x11_1.length co89 : Value).ownBlock) (.slice (some ad296) x12_1.length co98) x12_1) := ⟨h11_⟩
       have n12_ : Aside0 (Kd.R k79 79 w166 w.heap.size (fun k_ => some k_ ≠ (v308 : Value).ownBlock) v268 t266) := ⟨h12_⟩
       have n13_ : Aside0 (Kd.R k144 144 w166 w.heap.size (fun k_ => some k_ ≠ (.slice Ao156 t290.length co156 : Value).ownBlock ∧ some k_ ≠ (v311 : Value).ownBlock) (.slice Ao85 t214.length co85) t214) := ⟨h13_⟩
       have n14_ : Aside0 (w166.heap[gb213]? = some (.cells #[.slice A0_0 l0_0.length c0_0, .slice A0_1 l0_1.length c0_1] 113 (0, 0))) := ⟨h14_⟩
       have n15_ : Aside0 (Below w.heap.size w w166) := ⟨h15_⟩
       clear HO_7
       clear HO_10
       clear HO_11
       clear HO_12
       clear HO_14
       clear HO292
       clear HO299
       clear HO302
       clear HO305
       clear HO309
       clear BK213
       clear HB
       clear h0_ h1_ h2_ h3_ h4_ h5_ h6_ h7_ h8_ h9_ h10_ h11_ h12_ h13_ h14_ h15_
       have HO292 := n0_
       have HO299 := n1_
       have HO302 := n2_
       have HO305 := n3_
       have HO309 := n4_
       have HO312 := n5_
       have HO315 := n6_
       have HO318 := n7_
       have HO322 := n8_
       have HO_10 := n9_
       have HO_11 := n10_
       have HO_12 := n11_
       have HO_14 := n12_
       have HO_7 := n13_
       have BK213 := n14_
       have HB := n15_
       clear n0_ n1_ n2_ n3_ n4_ n5_ n6_ n7_ n8_ n9_ n10_ n11_ n12_ n13_ n14_ n15_
       have hHeld : w166.cell? (ad296.add ((x19_4).toNat * 3)) = some (.int .i64 ((rd_T58 x12_1 x19_4).f0)) ∧ w166.cell? ⟨(ad296.add ((x19_4).toNat * 3)).block, (ad296.add ((x19_4).toNat * 3)).off + 1, none⟩ = some (.int .i64 ((rd_T58 x12_1 x19_4).f1)) ∧ w166.cell? ⟨(ad296.add ((x19_4).toNat * 3)).block, (ad296.add ((x19_4).toNat * 3)).off + 2, none⟩ = some (.int .i64 ((rd_T58 x12_1 x19_4).f2)) := hS_
       obtain ⟨Ao168, co168, eo168⟩ := Kd.R_slice HO322.out
       (first | subst eo168 | (injection eo168 with f1_ f2_ f3_; have f4_ := f1_.symm; have f5_ := f3_.symm; clear f1_ f2_ f3_; subst f4_; subst f5_))
       refine norm_ (a' := ?_) ?_ ?_
       rotate_left
       ·simp only [putAll, Act.put, List.setIfInBounds_toArray, List.set_cons_zero, List.set_cons_succ]
        rfl
       refine last_ (i := 11) (N := some 206) #[tt, tt, tt, tt, tt, tt, tt, tt, tt, tt, tt, tt, ff, ff, ff, ff, ff, ff] rfl rfl (one_of HT_.out (by kernel_rfl)) (by decide) (fun K hK => ?_)
       refine Kd.R_append_rows_step k58 (w0 := w) w.heap.size (by rfl) (.tmp 200) (.tmp 205) 68 58 (.agg #[(.int .i64 0), (.int .i64 0), (.int .i64 0)]) 24 rfl Try.underlying68 info58 rfl (by decide) (by omega) v317 t316 y320 _ _ _ (fun k_ => some k_ ≠ (.slice Ao87 x10_1.length co87 : Value).ownBlock ∧ some k_ ≠ (.slice Ao89 x11_1.length co89 : Value).ownBlock ∧ some k_ ≠ (.slice (some ad296) x12_1.length co98 : Value).ownBlock ∧ some k_ ≠ (.slice Ao154 y297.length co154 : Value).ownBlock ∧ some k_ ≠ (.slice Ao157 y300.length co157 : Value).ownBlock ∧ some k_ ≠ (.slice Ao158 t303.length co158 : Value).ownBlock ∧ some k_ ≠ (v314 : Value).ownBlock ∧ some k_ ≠ (.slice Ao168 y320.length co168 : Value).ownBlock) (fun _ => False) rfl rfl ?aO ?aR (fun _ _ h => h) (fun _ h => h.elim) ?aF ?aB ?aS ?aL ?_
       (case aR => repeat (first | exact (Kd.R_reads' HO322.out).2.2 | (with_reducible refine Kd.C_alloc ?_ _) | (with_reducible refine Kd.C_drewN ?_ _) | (with_reducible refine Kd.C_drew ?_)))
       (case aB => exact (hb_ HB))
       (case aF => exact (fun k_ hk => ⟨Kd.fresh' (Kd.R_lt (ro_ HO_10)) k_ hk, Kd.fresh' (Kd.R_lt (ro_ HO_11)) k_ hk, Kd.fresh' (Kd.R_lt (ro_ HO_12)) k_ hk, Kd.fresh' (Kd.R_lt (ro_ HO299)) k_ hk, Kd.fresh' (Kd.R_lt (ro_ HO302)) k_ hk, Kd.fresh' (Kd.R_lt (ro_ HO305)) k_ hk, Kd.fresh' (Kd.R_lt (ro_ HO315)) k_ hk, Kd.fresh' (Kd.R_lt (ro_ HO322)) k_ hk⟩))
       (case aO => exact (by (with_reducible repeat (first | apply Kd.R_alloc | apply Kd.R_drewN | apply Kd.R_drew)); exact Kd.R_mono HO318.out (fun _ hk => ⟨hk.2.2.2.2.2.1, ⟨hk.2.2.2.2.2.2.1, ⟨hk.2.2.2.2.2.2.2, ⟨hk.1, ⟨hk.2.1, ⟨hk.2.2.1, ⟨hk.2.2.2.1, hk.2.2.2.2.1⟩⟩⟩⟩⟩⟩⟩)))
       (case aS => exact (below_size (hb_ HB)))
       (case aL => have := LMc144.out; omega)
       intro v324 w167 ho hb hg hat
       rw [← Ny323.out] at ho
       have n0_ := Aside0.mk (Kd.R_over' (ro_ HO_7) (Kd.R_typed (ro_ HO318)) (by decide) hg)
       have n1_ := Aside0.mk (Kd.R_after (ok := (fun k_ => some k_ ≠ (.slice Ao89 x11_1.length co89 : Value).ownBlock ∧ some k_ ≠ (.slice (some ad296) x12_1.length co98 : Value).ownBlock ∧ some k_ ≠ (.slice Ao154 y297.length co154 : Value).ownBlock ∧ some k_ ≠ (.slice Ao157 y300.length co157 : Value).ownBlock ∧ some k_ ≠ (.slice Ao158 t303.length co158 : Value).ownBlock ∧ some k_ ≠ (v314 : Value).ownBlock ∧ some k_ ≠ (.slice Ao168 y320.length co168 : Value).ownBlock)) (by (with_reducible repeat (first | apply Kd.R_alloc | apply Kd.R_drewN | apply Kd.R_drew)); exact Kd.R_mono HO_10.out (fun _ hk => ⟨⟨hk.2.2.2.2.2.2.1, ⟨hk.2.2.2.2.2.2.2, ⟨hk.1, ⟨hk.2.1, ⟨hk.2.2.1, ⟨hk.2.2.2.1, hk.2.2.2.2.2.1⟩⟩⟩⟩⟩⟩, hk.2.2.2.2.1⟩)) hg hat)
       have n2_ := Aside0.mk (Kd.R_after (ok := (fun k_ => some k_ ≠ (.slice Ao87 x10_1.length co87 : Value).ownBlock ∧ some k_ ≠ (.slice (some ad296) x12_1.length co98 : Value).ownBlock ∧ some k_ ≠ (.slice Ao154 y297.length co154 : Value).ownBlock ∧ some k_ ≠ (.slice Ao157 y300.length co157 : Value).ownBlock ∧ some k_ ≠ (.slice Ao158 t303.length co158 : Value).ownBlock ∧ some k_ ≠ (v314 : Value).ownBlock ∧ some k_ ≠ (.slice Ao168 y320.length co168 : Value).ownBlock)) (by (with_reducible repeat (first | apply Kd.R_alloc | apply Kd.R_drewN | apply Kd.R_drew)); exact Kd.R_mono HO_11.out (fun _ hk => ⟨⟨hk.2.2.2.2.2.2.1, ⟨hk.2.2.2.2.2.2.2, ⟨hk.1, ⟨hk.2.1, ⟨hk.2.2.1, ⟨hk.2.2.2.1, hk.2.2.2.2.2.1⟩⟩⟩⟩⟩⟩, hk.2.2.2.2.1⟩)) hg hat)
       have n3_ := Aside0.mk (Kd.R_after (ok := (fun k_ => some k_ ≠ (.slice Ao87 x10_1.length co87 : Value).ownBlock ∧ some k_ ≠ (.slice Ao89 x11_1.length co89 : Value).ownBlock ∧ some k_ ≠ (.slice Ao154 y297.length co154 : Value).ownBlock ∧ some k_ ≠ (.slice Ao157 y300.length co157 : Value).ownBlock ∧ some k_ ≠ (.slice Ao158 t303.length co158 : Value).ownBlock ∧ some k_ ≠ (v314 : Value).ownBlock ∧ some k_ ≠ (.slice Ao168 y320.length co168 : Value).ownBlock)) (by (with_reducible repeat (first | apply Kd.R_alloc | apply Kd.R_drewN | apply Kd.R_drew)); exact Kd.R_mono HO_12.out (fun _ hk => ⟨⟨hk.2.2.2.2.2.2.1, ⟨hk.2.2.2.2.2.2.2, ⟨hk.1, ⟨hk.2.1, ⟨hk.2.2.1, ⟨hk.2.2.2.1, hk.2.2.2.2.2.1⟩⟩⟩⟩⟩⟩, hk.2.2.2.2.1⟩)) hg hat)
       have n4_ := Aside0.mk (Kd.R_over' (ro_ HO_14) (Kd.R_typed (ro_ HO318)) (by decide) hg)
       have n5_ := Aside0.mk (blk_grown (bk_ BK213) hg (Kd.R_ne HO318.out BK213.out (by decide)))
       have n6_ := Aside0.mk (Kd.R_over' (ro_ HO292) (Kd.R_typed (ro_ HO318)) (by decide) hg)
       have n7_ := Aside0.mk (Kd.R_after (ok := (fun k_ => some k_ ≠ (.slice Ao87 x10_1.length co87 : Value).ownBlock ∧ some k_ ≠ (.slice Ao89 x11_1.length co89 : Value).ownBlock ∧ some k_ ≠ (.slice (some ad296) x12_1.length co98 : Value).ownBlock ∧ some k_ ≠ (.slice Ao157 y300.length co157 : Value).ownBlock ∧ some k_ ≠ (.slice Ao158 t303.length co158 : Value).ownBlock ∧ some k_ ≠ (v314 : Value).ownBlock ∧ some k_ ≠ (.slice Ao168 y320.length co168 : Value).ownBlock)) (by (with_reducible repeat (first | apply Kd.R_alloc | apply Kd.R_drewN | apply Kd.R_drew)); exact Kd.R_mono HO299.out (fun _ hk => ⟨⟨hk.2.2.2.2.2.1, ⟨hk.2.2.2.2.2.2.1, ⟨hk.2.2.2.2.2.2.2, ⟨hk.1, ⟨hk.2.1, ⟨hk.2.2.1, hk.2.2.2.2.1⟩⟩⟩⟩⟩⟩, hk.2.2.2.1⟩)) hg hat)
       have n8_ := Aside0.mk (Kd.R_after (ok := (fun k_ => some k_ ≠ (.slice Ao87 x10_1.length co87 : Value).ownBlock ∧ some k_ ≠ (.slice Ao89 x11_1.length co89 : Value).ownBlock ∧ some k_ ≠ (.slice (some ad296) x12_1.length co98 : Value).ownBlock ∧ some k_ ≠ (.slice Ao154 y297.length co154 : Value).ownBlock ∧ some k_ ≠ (.slice Ao158 t303.length co158 : Value).ownBlock ∧ some k_ ≠ (v314 : Value).ownBlock ∧ some k_ ≠ (.slice Ao168 y320.length co168 : Value).ownBlock)) (by (with_reducible repeat (first | apply Kd.R_alloc | apply Kd.R_drewN | apply Kd.R_drew)); exact Kd.R_mono HO302.out (fun _ hk => ⟨⟨hk.2.2.2.2.2.1, ⟨hk.2.2.2.2.2.2.1, ⟨hk.2.2.2.2.2.2.2, ⟨hk.1, ⟨hk.2.1, ⟨hk.2.2.1, hk.2.2.2.2.1⟩⟩⟩⟩⟩⟩, hk.2.2.2.1⟩)) hg hat)
       have n9_ := Aside0.mk (Kd.R_after (ok := (fun k_ => some k_ ≠ (.slice Ao87 x10_1.length co87 : Value).ownBlock ∧ some k_ ≠ (.slice Ao89 x11_1.length co89 : Value).ownBlock ∧ some k_ ≠ (.slice (some ad296) x12_1.length co98 : Value).ownBlock ∧ some k_ ≠ (.slice Ao154 y297.length co154 : Value).ownBlock ∧ some k_ ≠ (.slice Ao157 y300.length co157 : Value).ownBlock ∧ some k_ ≠ (v314 : Value).ownBlock ∧ some k_ ≠ (.slice Ao168 y320.length co168 : Value).ownBlock)) (by (with_reducible repeat (first | apply Kd.R_alloc | apply Kd.R_drewN | apply Kd.R_drew)); exact Kd.R_mono HO305.out (fun _ hk => ⟨⟨hk.2.2.2.2.2.1, ⟨hk.2.2.2.2.2.2.1, ⟨hk.2.2.2.2.2.2.2, ⟨hk.1, ⟨hk.2.1, ⟨hk.2.2.1, hk.2.2.2.2.1⟩⟩⟩⟩⟩⟩, hk.2.2.2.1⟩)) hg hat)
       have n10_ := Aside0.mk (Kd.R_over' (ro_ HO309) (Kd.R_typed (ro_ HO318)) (by decide) hg)
       have n11_ := Aside0.mk (Kd.R_over' (ro_ HO312) (Kd.R_typed (ro_ HO318)) (by decide) hg)
       have n12_ := Aside0.mk (Kd.R_after (ok := (fun k_ => some k_ ≠ (.slice Ao87 x10_1.length co87 : Value).ownBlock ∧ some k_ ≠ (.slice Ao89 x11_1.length co89 : Value).ownBlock ∧ some k_ ≠ (.slice (some ad296) x12_1.length co98 : Value).ownBlock ∧ some k_ ≠ (.slice Ao154 y297.length co154 : Value).ownBlock ∧ some k_ ≠ (.slice Ao157 y300.length co157 : Value).ownBlock ∧ some k_ ≠ (.slice Ao158 t303.length co158 : Value).ownBlock ∧ some k_ ≠ (.slice Ao168 y320.length co168 : Value).ownBlock)) (by (with_reducible repeat (first | apply Kd.R_alloc | apply Kd.R_drewN | apply Kd.R_drew)); exact Kd.R_mono HO315.out (fun _ hk => ⟨⟨hk.2.2.2.2.2.1, ⟨hk.2.2.2.2.2.2.1, ⟨hk.2.2.2.2.2.2.2, ⟨hk.1, ⟨hk.2.1, ⟨hk.2.2.1, hk.2.2.2.2.1⟩⟩⟩⟩⟩⟩, hk.2.2.2.1⟩)) hg hat)
       have n13_ := Aside0.mk (Kd.R_after (ok := (fun k_ => some k_ ≠ (.slice Ao87 x10_1.length co87 : Value).ownBlock ∧ some k_ ≠ (.slice Ao89 x11_1.length co89 : Value).ownBlock ∧ some k_ ≠ (.slice (some ad296) x12_1.length co98 : Value).ownBlock ∧ some k_ ≠ (.slice Ao154 y297.length co154 : Value).ownBlock ∧ some k_ ≠ (.slice Ao157 y300.length co157 : Value).ownBlock ∧ some k_ ≠ (.slice Ao158 t303.length co158 : Value).ownBlock ∧ some k_ ≠ (v314 : Value).ownBlock)) (by (with_reducible repeat (first | apply Kd.R_alloc | apply Kd.R_drewN | apply Kd.R_drew)); exact Kd.R_mono HO322.out (fun _ hk => ⟨⟨hk.2.2.2.2.2.1, ⟨hk.2.2.2.2.2.2.1, ⟨hk.2.2.2.2.2.2.2, ⟨hk.1, ⟨hk.2.1, ⟨hk.2.2.1, hk.2.2.2.1⟩⟩⟩⟩⟩⟩, hk.2.2.2.2.1⟩)) hg hat)
       have n14_ := Aside0.mk (hb)
       have n15_ := Aside0.mk (ho)
       clear HO_7
       clear HO_10
       clear HO_11
       clear HO_12
       clear HO_14
       clear BK213
       clear HO292
       clear HO299
       clear HO302
       clear HO305
       clear HO309
       clear HO312
       clear HO315
       clear HO322
       clear HB
       clear HO318
       have HO_7 := n0_
       have HO_10 := n1_
       have HO_11 := n2_
       have HO_12 := n3_
       have HO_14 := n4_
       have BK213 := n5_
       have HO292 := n6_
       have HO299 := n7_
       have HO302 := n8_
       have HO305 := n9_
       have HO309 := n10_
       have HO312 := n11_
       have HO315 := n12_
       have HO322 := n13_
       have HB := n14_
       have HO325 := n15_
       clear n0_ n1_ n2_ n3_ n4_ n5_ n6_ n7_ n8_ n9_ n10_ n11_ n12_ n13_ n14_ n15_
       clear ho hb hg hat
       obtain ⟨Ao169, co169, eo169⟩ := Kd.R_slice HO312.out
       (first | subst eo169 | (injection eo169 with f1_ f2_ f3_; have f4_ := f1_.symm; have f5_ := f3_.symm; clear f1_ f2_ f3_; subst f4_; subst f5_))
       obtain ⟨Ao170, co170, eo170⟩ := Kd.R_slice HO315.out
       (first | subst eo170 | (injection eo170 with f1_ f2_ f3_; have f4_ := f1_.symm; have f5_ := f3_.symm; clear f1_ f2_ f3_; subst f4_; subst f5_))
       obtain ⟨Ao171, co171, eo171⟩ := Kd.R_slice HO325.out
       (first | subst eo171 | (injection eo171 with f1_ f2_ f3_; have f4_ := f1_.symm; have f5_ := f3_.symm; clear f1_ f2_ f3_; subst f4_; subst f5_))
       refine hK.out _ _ ?_
       clear hK K
       refine norm_ (a' := ?_) ?_ ?_
       rotate_left
       ·show Act.put _ (some 206) _ = _
        simp only [Act.put, sa_, s0_, s1_, i64_w, i32_w]
        rfl
       obtain ⟨adn_, en_, hn0_, hn1_, hn2_⟩ := at_T58 (Kd.R_reads' HO_12.out).2.2 x19_4 (of_eq_true p319) (of_eq_true q319)
       obtain rfl : ad296 = adn_ := (by injection en_)
       have hHeld := And.intro hn0_ (And.intro hn1_ hn2_)
       refine one_ (i := 12) (N := some 207) #[tt, tt, tt, tt, tt, tt, tt, tt, tt, tt, tt, tt, tt, ff, ff, ff, ff, ff] rfl rfl (one_of HT_.out (by kernel_rfl)) (by decide) (fun K hK => ?_)
       refine goes_ Try.func40 (by kernel_rfl) rfl #[.slice Ao169 t310.length co169, .slice Ao170 t313.length co170, .slice Ao171 y323.length co171] (by rfl) rfl rfl (by (try simp only [List.map_toArray, List.map_cons, List.map_nil]); first | done | rfl | (simp only [List.length_drop, List.length_take]; rfl)) ?_
       with_reducible refine (mill_Culprits.calls _ _ t310 _ _ t313 _ _ y323 t326 t327 _ ?side1 ?side2 ?side3 ?side4 ?side5 ?side6 A145.out).mono ?_
       (case side1 => repeat (first | exact (Kd.R_reads' HO312.out).2.2 | (with_reducible refine Kd.C_alloc ?_ _) | (with_reducible refine Kd.C_drewN ?_ _) | (with_reducible refine Kd.C_drew ?_)))
       (case side2 => exact (Kd.R_reads' HO312.out).2.1)
       (case side3 => repeat (first | exact (Kd.R_reads' HO315.out).2.2 | (with_reducible refine Kd.C_alloc ?_ _) | (with_reducible refine Kd.C_drewN ?_ _) | (with_reducible refine Kd.C_drew ?_)))
       (case side4 => exact (Kd.R_reads' HO315.out).2.1)
       (case side5 => repeat (first | exact (Kd.R_reads' HO325.out).2.2 | (with_reducible refine Kd.C_alloc ?_ _) | (with_reducible refine Kd.C_drewN ?_ _) | (with_reducible refine Kd.C_drew ?_)))
       (case side6 => exact (Kd.R_reads' HO325.out).2.1)
       rintro e w172 ⟨v328, rfl, ho0, hb⟩
       have HS0_ := (hb.cell (World.block_lt_of_cell? _ _ (hHeld.1))).trans (hHeld.1)
       have HS1_ := (hb.cell (World.block_lt_of_cell? _ _ (hHeld.2.1))).trans (hHeld.2.1)
       have HS2_ := (hb.cell (World.block_lt_of_cell? _ _ (hHeld.2.2))).trans (hHeld.2.2)
       refine ⟨_, rfl, ?_⟩
       replace HO_7 := Aside0.mk (Kd.R_below (ro_ HO_7) hb)
       replace HO_10 := Aside0.mk (Kd.R_below (ro_ HO_10) hb)
       replace HO_11 := Aside0.mk (Kd.R_below (ro_ HO_11) hb)
       replace HO_12 := Aside0.mk (Kd.R_below (ro_ HO_12) hb)
       replace HO292 := Aside0.mk (Kd.R_below (ro_ HO292) hb)
       replace HO299 := Aside0.mk (Kd.R_below (ro_ HO299) hb)
       replace HO302 := Aside0.mk (Kd.R_below (ro_ HO302) hb)
       replace HO305 := Aside0.mk (Kd.R_below (ro_ HO305) hb)
       replace HO312 := Aside0.mk (Kd.R_below (ro_ HO312) hb)
       replace HO315 := Aside0.mk (Kd.R_below (ro_ HO315) hb)
       replace HO322 := Aside0.mk (Kd.R_below (ro_ HO322) hb)
       replace HO325 := Aside0.mk (Kd.R_below (ro_ HO325) hb)
       have HO329 := Aside0.mk (Kd.R_lower (Kd.R_new' (Kd.R_new' ho0 (Kd.R_lt (ro_ HO_14))) (Kd.R_lt (ro_ HO309))) (below_size (hb_ HB)))
       replace HO_14 := Aside0.mk (Kd.R_elder' (ro_ HO_14) (Kd.R_base ho0) hb)
       replace HO309 := Aside0.mk (Kd.R_elder' (ro_ HO309) (Kd.R_base ho0) hb)
       replace BK213 := Aside0.mk (blk_below (bk_ BK213) hb)
       replace HB := Aside0.mk (below_step (hb_ HB) hb)
       (try clear hb)
       (try clear hb2)
       (try clear hk)
       (try clear hi)
       (try clear ho0)
       refine hK.out _ _ ⟨HS0_, HS1_, HS2_⟩ (fun hHeld => ?_)
       clear hK K
       refine norm_ (a' := ?_) ?_ ?_
       rotate_left
       ·show Act.put _ (some 207) _ = _
        simp only [Act.put, sa_, s0_, s1_, i64_w, i32_w]
        rfl
       refine pure_ (i := 13) (N := some 194) (v := ?_) (a' := ?_) #[tt, tt, tt, tt, tt, tt, tt, tt, tt, tt, tt, tt, tt, tt, ff, ff, ff, ff] rfl rfl (any_of HT_.out (by kernel_rfl)) (fun _ _ _ h => h) (Or.inl ⟨by rfl, ?_⟩) ?_ ?_
       rotate_left
       ·intro w'
        go_simp
        with_reducible rfl
       rotate_left
       ·simp only [Act.put, sa_, s0_, s1_, i64_w, i32_w]
        rfl
       refine pure_ (i := 14) (N := some 208) (v := ?_) (a' := ?_) #[tt, tt, tt, tt, tt, tt, tt, tt, tt, tt, tt, tt, tt, tt, tt, ff, ff, ff] rfl rfl (any_of HT_.out (by kernel_rfl)) (fun _ _ _ h => h) (Or.inl ⟨by rfl, ?_⟩) ?_ ?_
       rotate_left
       ·intro w'
        go_simp
        with_reducible rfl
       rotate_left
       ·simp only [Act.put, sa_, s0_, s1_, i64_w, i32_w]
        rfl
       refine pure_ (i := 15) (N := some 209) (v := ?_) (a' := ?_) #[tt, tt, tt, tt, tt, tt, tt, tt, tt, tt, tt, tt, tt, tt, tt, tt, ff, ff] rfl rfl (any_of HT_.out (by kernel_rfl)) (fun _ _ _ h => h) (Or.inl ⟨by rfl, ?_⟩) ?_ ?_
       rotate_left
       ·intro w'
        go_simp
        with_reducible rfl
       rotate_left
       ·simp only [Act.put, sa_, s0_, s1_, i64_w, i32_w]
        rfl
       refine pure_ (i := 16) (N := some 22) (v := ?_) (a' := ?_) #[tt, tt, tt, tt, tt, tt, tt, tt, tt, tt, tt, tt, tt, tt, tt, tt, tt, ff] rfl rfl (any_of HT_.out (by kernel_rfl)) (fun _ _ _ h => h) (Or.inl ⟨by rfl, ?_⟩) ?_ ?_
       rotate_left
       ·intro w'
        go_simp
        with_reducible rfl
       rotate_left
       ·simp only [Act.put, sa_, s0_, s1_, i64_w, i32_w]
        rfl
       refine pure_ (i := 17) (N := some 23) (v := ?_) (a' := ?_) #[tt, tt, tt, tt, tt, tt, tt, tt, tt, tt, tt, tt, tt, tt, tt, tt, tt, tt] rfl rfl (any_of HT_.out (by kernel_rfl)) (fun _ _ _ h => h) (Or.inl ⟨by rfl, ?_⟩) ?_ ?_
       rotate_left
       ·intro w'
        go_simp
        with_reducible rfl
       rotate_left
       ·simp only [Act.put, sa_, s0_, s1_, i64_w, i32_w]
        rfl
       refine done_ (done_of HT_.out (by kernel_rfl)) ?_
       go_upto_region 27 with (fail)
       go_cut [225] (fun v225 wc => ∃ (kq : Nat) (x225_145 : Bool), v225 = .bool x225_145 ∧ Aside0 (acmelaw12_MillNarrowed.j4 kq t214 x10_1 x11_1 x12_1 t266 t282 t283 x19_4 t306 t326 x225_145 = some r) ∧ Aside0 (kq ≤ k4) ∧ Aside0 (Kd.R k144 144 wc w.heap.size (fun _ => True) (.slice Ao85 t214.length co85) t214) ∧ Aside0 (Kd.R k58 58 wc w.heap.size (fun k_ => some k_ ≠ ((.slice Ao89 x11_1.length co89) : Value).ownBlock ∧ some k_ ≠ ((.slice (some ad296) x12_1.length co98) : Value).ownBlock) (.slice Ao87 x10_1.length co87) x10_1) ∧ Aside0 (Kd.R k58 58 wc w.heap.size (fun k_ => some k_ ≠ ((.slice Ao87 x10_1.length co87) : Value).ownBlock ∧ some k_ ≠ ((.slice (some ad296) x12_1.length co98) : Value).ownBlock) (.slice Ao89 x11_1.length co89) x11_1) ∧ Aside0 (Kd.R k58 58 wc w.heap.size (fun k_ => some k_ ≠ ((.slice Ao87 x10_1.length co87) : Value).ownBlock ∧ some k_ ≠ ((.slice Ao89 x11_1.length co89) : Value).ownBlock) (.slice (some ad296) x12_1.length co98) x12_1) ∧ Aside0 (Kd.R k79 79 wc w.heap.size (fun k_ => some k_ ≠ (v308 : Value).ownBlock ∧ some k_ ≠ (v328 : Value).ownBlock) v268 t266) ∧ Aside0 (Kd.R k79 79 wc w.heap.size (fun k_ => some k_ ≠ (v268 : Value).ownBlock ∧ some k_ ≠ (v328 : Value).ownBlock) v308 t306) ∧ Aside0 (Kd.R k79 79 wc w.heap.size (fun k_ => some k_ ≠ (v268 : Value).ownBlock ∧ some k_ ≠ (v308 : Value).ownBlock) v328 t326) ∧ Aside0 (wc.heap[gb213]? = some (.cells #[(.slice A0_0 l0_0.length c0_0), (.slice A0_1 l0_1.length c0_1)] 113 (0, 0))) ∧ Aside0 (Below w.heap.size w wc))
       case first => as_aux_lemma =>
        have H := HC146.out
        clear HC146
        by_cases c173 : t307 = 0
        ·rw [if_pos c173] at H
         have c173b0 : (t307 == 0) = true := beq_iff_eq.mpr c173
         have c173b1 : (t307 != 0) = false := bne_eq_false_iff_eq.mpr c173
         clear c173
         (first | rw [c173b0] | (simp only [i64_w, i32_w]; rw [c173b0]) | skip)
         by_cases c174 : t327 = 0
         ·rw [if_pos c174] at H
          have c174b0 : (t327 == 0) = true := beq_iff_eq.mpr c174
          have c174b1 : (t327 != 0) = false := bne_eq_false_iff_eq.mpr c174
          clear c174
          have H' := Aside0.mk H
          clear H
          obtain ⟨Ao175, co175, eo175⟩ := Kd.R_slice HO309.out
          subst eo175
          obtain ⟨Ao176, co176, eo176⟩ := Kd.R_slice HO329.out
          subst eo176
          obtain ⟨Ao177, co177, eo177⟩ := Kd.R_slice HO_14.out
          subst eo177
          go_wp2
          go_meet
          case rel => exact ⟨_, (((wrap64 ((t306.length : Int) + (t326.length : Int))) != (t266.length : Int))), (by first | rfl | (simp; done) | (simp [*]; done)), H', ⟨by have := HK1.out; have := HJ83.out; have := HJ129.out; have := HK4.out; first | omega | exact Nat.le_refl _⟩, ⟨by (with_reducible repeat (first | apply Kd.R_alloc | apply Kd.R_drewN | apply Kd.R_drew)); exact Kd.R_mono HO_7.out (fun _ hk => trivial)⟩, ⟨by (with_reducible repeat (first | apply Kd.R_alloc | apply Kd.R_drewN | apply Kd.R_drew)); exact Kd.R_mono HO_10.out (fun _ hk => ⟨hk.1.1, hk.1.2.1⟩)⟩, ⟨by (with_reducible repeat (first | apply Kd.R_alloc | apply Kd.R_drewN | apply Kd.R_drew)); exact Kd.R_mono HO_11.out (fun _ hk => ⟨hk.1.1, hk.1.2.1⟩)⟩, ⟨by (with_reducible repeat (first | apply Kd.R_alloc | apply Kd.R_drewN | apply Kd.R_drew)); exact Kd.R_mono HO_12.out (fun _ hk => ⟨hk.1.1, hk.1.2.1⟩)⟩, ⟨ro_ HO_14⟩, ⟨ro_ HO309⟩, ⟨by (with_reducible repeat (first | apply Kd.R_alloc | apply Kd.R_drewN | apply Kd.R_drew)); exact Kd.R_mono HO329.out (fun _ hk => ⟨hk.1.2, hk.2⟩)⟩, BK213, ⟨hb_ HB⟩⟩
         rw [if_neg c174] at H
         have c174b0 : (t327 == 0) = false := beq_eq_false_iff_ne.mpr c174
         have c174b1 : (t327 != 0) = true := bne_iff_ne.mpr c174
         have H' := Aside0.mk H
         clear H
         go_wp2
         go_meet
         case rel => exact ⟨_, (true), (by first | rfl | (simp; done) | (simp [*]; done)), H', ⟨by have := HK1.out; have := HJ83.out; have := HJ129.out; have := HK4.out; first | omega | exact Nat.le_refl _⟩, ⟨by (with_reducible repeat (first | apply Kd.R_alloc | apply Kd.R_drewN | apply Kd.R_drew)); exact Kd.R_mono HO_7.out (fun _ hk => trivial)⟩, ⟨by (with_reducible repeat (first | apply Kd.R_alloc | apply Kd.R_drewN | apply Kd.R_drew)); exact Kd.R_mono HO_10.out (fun _ hk => ⟨hk.1.1, hk.1.2.1⟩)⟩, ⟨by (with_reducible repeat (first | apply Kd.R_alloc | apply Kd.R_drewN | apply Kd.R_drew)); exact Kd.R_mono HO_11.out (fun _ hk => ⟨hk.1.1, hk.1.2.1⟩)⟩, ⟨by (with_reducible repeat (first | apply Kd.R_alloc | apply Kd.R_drewN | apply Kd.R_drew)); exact Kd.R_mono HO_12.out (fun _ hk => ⟨hk.1.1, hk.1.2.1⟩)⟩, ⟨ro_ HO_14⟩, ⟨ro_ HO309⟩, ⟨by (with_reducible repeat (first | apply Kd.R_alloc | apply Kd.R_drewN | apply Kd.R_drew)); exact Kd.R_mono HO329.out (fun _ hk => ⟨hk.1.2, hk.2⟩)⟩, BK213, ⟨hb_ HB⟩⟩
        rw [if_neg c173] at H
        have c173b0 : (t307 == 0) = false := beq_eq_false_iff_ne.mpr c173
        have c173b1 : (t307 != 0) = true := bne_iff_ne.mpr c173
        (first | rw [c173b0] | (simp only [i64_w, i32_w]; rw [c173b0]) | skip)
        have H' := Aside0.mk H
        clear H
        go_wp2
        go_meet
        case rel => exact ⟨_, (true), (by first | rfl | (simp; done) | (simp [*]; done)), H', ⟨by have := HK1.out; have := HJ83.out; have := HJ129.out; have := HK4.out; first | omega | exact Nat.le_refl _⟩, ⟨by (with_reducible repeat (first | apply Kd.R_alloc | apply Kd.R_drewN | apply Kd.R_drew)); exact Kd.R_mono HO_7.out (fun _ hk => trivial)⟩, ⟨by (with_reducible repeat (first | apply Kd.R_alloc | apply Kd.R_drewN | apply Kd.R_drew)); exact Kd.R_mono HO_10.out (fun _ hk => ⟨hk.1.1, hk.1.2.1⟩)⟩, ⟨by (with_reducible repeat (first | apply Kd.R_alloc | apply Kd.R_drewN | apply Kd.R_drew)); exact Kd.R_mono HO_11.out (fun _ hk => ⟨hk.1.1, hk.1.2.1⟩)⟩, ⟨by (with_reducible repeat (first | apply Kd.R_alloc | apply Kd.R_drewN | apply Kd.R_drew)); exact Kd.R_mono HO_12.out (fun _ hk => ⟨hk.1.1, hk.1.2.1⟩)⟩, ⟨ro_ HO_14⟩, ⟨ro_ HO309⟩, ⟨by (with_reducible repeat (first | apply Kd.R_alloc | apply Kd.R_drewN | apply Kd.R_drew)); exact Kd.R_mono HO329.out (fun _ hk => ⟨hk.1.2, hk.2⟩)⟩, BK213, ⟨hb_ HB⟩⟩
       case rest => as_aux_lemma =>
        clear HC146
        try clear c1; try clear p2; try clear c3; try clear c4; try clear p6; try clear c14; try clear c17; try clear c31; try clear c39; try clear c40; try clear p64; try clear c144; try clear c173; try clear c173b0; try clear c173b1; try clear c174; try clear c174b0; try clear c174b1
        obtain ⟨kq, x225_145, rfl, HA, HJ145, HO_7, HO_10, HO_11, HO_12, HO_14, HO_20, HO_22, BK213, HB⟩ := hcut
        obtain _ | kj145 := kq
        ·exact absurd HA.out (by simp [acmelaw12_MillNarrowed.j4])
        have H := HA.out
        clear HA
        simp only [acmelaw12_MillNarrowed.j4] at H
        by_cases c178 : x225_145 = true
        ·subst c178
         have H1 : (none) = some r := by rw [if_pos rfl] at H; exact H
         clear H
         have H := H1
         clear H1
         exact absurd H (by simp)
        replace c178 := Bool.eq_false_iff.mpr c178
        subst c178
        have H1 : (if (mx (t306.length : Int) (t326.length : Int)) < t283 then (none) else (if x19_4 = t282 then (if (mx (t306.length : Int) (t326.length : Int)) = t283 then (if x19_4 < t282 then (none) else (acmelaw12_MillNarrowed.l1 kj145 t214 x10_1 x11_1 x12_1 t266 t282 t283 (wrap64 (x19_4 + 1)))) else (none)) else (if x19_4 < t282 then (if (mx (t306.length : Int) (t326.length : Int)) = t283 then (none) else (acmelaw12_MillNarrowed.l1 kj145 t214 x10_1 x11_1 x12_1 t266 t282 t283 (wrap64 (x19_4 + 1)))) else (acmelaw12_MillNarrowed.l1 kj145 t214 x10_1 x11_1 x12_1 t266 t282 t283 (wrap64 (x19_4 + 1)))))) = some r := by rw [if_neg (show ¬ (false = true) by decide)] at H; exact H
        clear H
        have H := H1
        clear H1
        obtain ⟨ji179, hji179⟩ : ∃ j_ : Int, (mx (t306.length : Int) (t326.length : Int)) = j_ := ⟨_, rfl⟩
        replace H : (if (ji179) < t283 then (none) else (if x19_4 = t282 then (if (ji179) = t283 then (if x19_4 < t282 then (none) else (acmelaw12_MillNarrowed.l1 kj145 t214 x10_1 x11_1 x12_1 t266 t282 t283 (wrap64 (x19_4 + 1)))) else (none)) else (if x19_4 < t282 then (if (ji179) = t283 then (none) else (acmelaw12_MillNarrowed.l1 kj145 t214 x10_1 x11_1 x12_1 t266 t282 t283 (wrap64 (x19_4 + 1)))) else (acmelaw12_MillNarrowed.l1 kj145 t214 x10_1 x11_1 x12_1 t266 t282 t283 (wrap64 (x19_4 + 1)))))) = some r := by first | (rw [hji179] at H; exact H) | (simp only [hji179] at H ⊢; exact H)
        have hji179_ : (if (t306.length : Int) < (t326.length : Int) then (t326.length : Int) else (t306.length : Int)) = ji179 := hji179
        have hji179n_ := hji179_
        simp only [Int.ofNat_lt] at hji179n_
        by_cases c180 : (ji179) < t283
        ·rw [if_pos c180] at H
         exact absurd H (by simp)
        rw [if_neg c180] at H
        have c180b0 : decide ((ji179) < t283) = false := decide_eq_false c180
        clear c180
        by_cases c181 : x19_4 = t282
        ·rw [if_pos c181] at H
         have c181b0 : (x19_4 == t282) = true := beq_iff_eq.mpr c181
         have c181b1 : (x19_4 != t282) = false := bne_eq_false_iff_eq.mpr c181
         clear c181
         by_cases c182 : (ji179) = t283
         rotate_left
         ·rw [if_neg c182] at H
          exact absurd H (by simp)
         rw [if_pos c182] at H
         have c182b0 : ((ji179) == t283) = true := beq_iff_eq.mpr c182
         have c182b1 : ((ji179) != t283) = false := bne_eq_false_iff_eq.mpr c182
         clear c182
         by_cases c183 : x19_4 < t282
         ·rw [if_pos c183] at H
          exact absurd H (by simp)
         rw [if_neg c183] at H
         have c183b0 : decide (x19_4 < t282) = false := decide_eq_false c183
         clear c183
         have H' := Aside0.mk H
         clear H
         obtain ⟨Ao184, co184, eo184⟩ := Kd.R_slice HO_20.out
         subst eo184
         obtain ⟨Ao185, co185, eo185⟩ := Kd.R_slice HO_22.out
         subst eo185
         go_wp2
         go_roundg kj145
         case measure => have := HK1.out; have := HJ83.out; have := HJ129.out; have := HK4.out; have := HJ145.out; omega
         case rel => exact ⟨(wrap64 (x19_4 + 1)), (by first | rfl | (simp; done) | (simp [*]; done)), H', ⟨by have := HK1.out; have := HJ83.out; have := HJ129.out; have := HK4.out; have := HJ145.out; omega⟩, ⟨ro_ HO_7⟩, ⟨ro_ HO_10⟩, ⟨ro_ HO_11⟩, ⟨ro_ HO_12⟩, ⟨by (with_reducible repeat (first | apply Kd.R_alloc | apply Kd.R_drewN | apply Kd.R_drew)); exact Kd.R_mono HO_14.out (fun _ hk => trivial)⟩, BK213, ⟨hb_ HB⟩⟩
        rw [if_neg c181] at H
        have c181b0 : (x19_4 == t282) = false := beq_eq_false_iff_ne.mpr c181
        have c181b1 : (x19_4 != t282) = true := bne_iff_ne.mpr c181
        by_cases c186 : x19_4 < t282
        ·rw [if_pos c186] at H
         have c186b0 : decide (x19_4 < t282) = true := decide_eq_true c186
         clear c186
         by_cases c187 : (ji179) = t283
         ·rw [if_pos c187] at H
          exact absurd H (by simp)
         rw [if_neg c187] at H
         have c187b0 : ((ji179) == t283) = false := beq_eq_false_iff_ne.mpr c187
         have c187b1 : ((ji179) != t283) = true := bne_iff_ne.mpr c187
         have H' := Aside0.mk H
         clear H
         obtain ⟨Ao188, co188, eo188⟩ := Kd.R_slice HO_20.out
         subst eo188
         obtain ⟨Ao189, co189, eo189⟩ := Kd.R_slice HO_22.out
         subst eo189
         go_wp2
         go_roundg kj145
         case measure => have := HK1.out; have := HJ83.out; have := HJ129.out; have := HK4.out; have := HJ145.out; omega
         case rel => exact ⟨(wrap64 (x19_4 + 1)), (by first | rfl | (simp; done) | (simp [*]; done)), H', ⟨by have := HK1.out; have := HJ83.out; have := HJ129.out; have := HK4.out; have := HJ145.out; omega⟩, ⟨ro_ HO_7⟩, ⟨ro_ HO_10⟩, ⟨ro_ HO_11⟩, ⟨ro_ HO_12⟩, ⟨by (with_reducible repeat (first | apply Kd.R_alloc | apply Kd.R_drewN | apply Kd.R_drew)); exact Kd.R_mono HO_14.out (fun _ hk => trivial)⟩, BK213, ⟨hb_ HB⟩⟩
        rw [if_neg c186] at H
        have c186b0 : decide (x19_4 < t282) = false := decide_eq_false c186
        clear c186
        have H' := Aside0.mk H
        clear H
        obtain ⟨Ao190, co190, eo190⟩ := Kd.R_slice HO_20.out
        subst eo190
        obtain ⟨Ao191, co191, eo191⟩ := Kd.R_slice HO_22.out
        subst eo191
        go_wp2
        go_roundg kj145
        case measure => have := HK1.out; have := HJ83.out; have := HJ129.out; have := HK4.out; have := HJ145.out; omega
        case rel => exact ⟨(wrap64 (x19_4 + 1)), (by first | rfl | (simp; done) | (simp [*]; done)), H', ⟨by have := HK1.out; have := HJ83.out; have := HJ129.out; have := HK4.out; have := HJ145.out; omega⟩, ⟨ro_ HO_7⟩, ⟨ro_ HO_10⟩, ⟨ro_ HO_11⟩, ⟨ro_ HO_12⟩, ⟨by (with_reducible repeat (first | apply Kd.R_alloc | apply Kd.R_drewN | apply Kd.R_drew)); exact Kd.R_mono HO_14.out (fun _ hk => trivial)⟩, BK213, ⟨hb_ HB⟩⟩
      rw [if_neg c134] at H
      have c134b0 : decide (x19_4 < (x12_1.length : Int)) = false := decide_eq_false c134
      clear c134
      replace H := Option.bind_eq_some_iff.mp H
      obtain ⟨t289, A1920, H⟩ := H; (try dsimp only at H)
      have A192 := Aside0.mk A1920
      clear A1920
      obtain rfl := Option.some.inj H
      go_wp2_with (first | ((with_reducible refine gate_callee (f := 15) rfl ?_); refine goesL_ (some 254) rfl rfl Try.func15 (by kernel_rfl) rfl #[] rfl (by (try simp only [List.map_toArray, List.map_cons, List.map_nil]); first | done | rfl | (simp only [List.length_drop, List.length_take]; rfl)) ?_; (with_reducible refine (acmelaw12_known.calls  t289 _ A192.out).mono ?_); rintro e w193 ⟨rfl, hb⟩; refine ⟨_, rfl, ?_⟩; replace HO_7 := Aside0.mk (Kd.R_below (ro_ HO_7) hb); replace HO_10 := Aside0.mk (Kd.R_below (ro_ HO_10) hb); replace HO_11 := Aside0.mk (Kd.R_below (ro_ HO_11) hb); replace HO_12 := Aside0.mk (Kd.R_below (ro_ HO_12) hb); replace HO_14 := Aside0.mk (Kd.R_below (ro_ HO_14) hb); replace BK213 := Aside0.mk (blk_below (bk_ BK213) hb); replace HB := Aside0.mk (below_step (hb_ HB) hb); (try clear hb); (try clear hb2); (try clear hk); (try clear hi)))
      go_ret
      exact ⟨by first | rfl | (simp [errW_none, errW_some] <;> rfl) | (simp only [← hji6]; first | rfl | (simp [errW_none, errW_some] <;> rfl)) | (simp [*, errW_none, errW_some] <;> rfl), by repeat (first | (with_reducible first | exact HB.out | apply below_alloc | apply pw_below_drewN | apply below_drew1 | refine below_set ?_ (Aside0.out (by assumption))) | exact HB.out)⟩
  rw [if_neg c83] at H
  exact absurd H (by simp)

end Go.Proofs.Ytiaiecfnpompcaa.T
