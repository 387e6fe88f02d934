-- cut down, squeezed and laid together by pack.py (a program of this repository) out of this seat's texts
import Derived.WalkKit
import Derived.MapKept
import Derived.RangeFuncNested
import Derived.RangeFuncBound
import Derived.RangeFuncCalls
import Derived.RangeFuncLeaves
import Derived.Shelf.Abstract
import Derived.Shelf.RegionOpen
import Derived.OwnWalkIn
import Derived.TacticsInMore
import Derived.LoopNIn
import Derived.LoopIn
import Derived.Shelf.SlSortCmp.InsertionK
import Derived.ChangeKeysEq
import Derived.Test.YtiaiecfnpompcaaZR16
import Derived.Test.YtiaiecfnpompcaaZR17
import Derived.Test.YtiaiecfnpompcaaZR18
import Derived.Test.YtiaiecfnpompcaaZR20
import Derived.Test.YtiaiecfnpompcaaZR13
import Derived.Test.YtiaiecfnpompcaaZR15
import Derived.Test.YtiaiecfnpompcaaZR2
import Derived.Test.YtiaiecfnpompcaaZR10
import Derived.Test.YtiaiecfnpompcaaZR14
import Derived.Test.YtiaiecfnpompcaaZR19
import Derived.Test.YtiaiecfnpompcaaZR3
import Derived.Test.YtiaiecfnpompcaaZR9
import Derived.Test.YtiaiecfnpompcaaZR4
import Derived.Test.YtiaiecfnpompcaaZR12
import Derived.Test.YtiaiecfnpompcaaZR8
import Derived.Test.YtiaiecfnpompcaaZR6
import Derived.Test.YtiaiecfnpompcaaZR7
import Derived.Test.YtiaiecfnpompcaaZR11
import Derived.Test.YtiaiecfnpompcaaZR5
import Derived.Test.YtiaiecfnpompcaaZR1
namespace Go.Proofs.Ytiaiecfnpompcaa.T
open Go.RowKit Go.Proofs.YtiaiecfnpompcaaW.PrintWords Go.Proofs.YtiaiecfnpompcaaW.PrintLast Go.Proofs.YtiaiecfnpompcaaW.PrintMore
attribute [local go_sem] XX XW X6 X5 XQ XP X0 XZ
set_option linter.unusedVariables false
set_option linter.unusedSimpArgs false
attribute [local go_sem] XO


set_option maxHeartbeats 80000000 in
set_option maxRecDepth 100000 in
theorem Xb.callsV (k : Nat) (A0 : Option Addr) (c0 : Nat) (l0 : List (S144)) (P1_0_ : Nat → Prop) (A1_0 : Option Addr) (c1_0 : Nat) (l1_0 : List (S58)) (P1_1_ : Nat → Prop) (A1_1 : Option Addr) (c1_1 : Nat) (l1_1 : List (S58)) (P1_2_ : Nat → Prop) (A1_2 : Option Addr) (c1_2 : Nat) (l1_2 : List (S58)) (a2_0 : Int) (a2_1 : Int) (a2_2 : Int) (r : Bool) (w : World) (hr0 : Kd.C k144 w A0 l0.length l0) (hc0 : l0.length ≤ c0) (hs1_0 : Kd.V k58 58 w w.heap.size (fun k_ => P1_0_ k_) (.slice A1_0 l1_0.length c1_0) l1_0) (hs1_1 : Kd.V k58 58 w w.heap.size (fun k_ => P1_1_ k_) (.slice A1_1 l1_1.length c1_1) l1_1) (hs1_2 : Kd.V k58 58 w w.heap.size (fun k_ => P1_2_ k_) (.slice A1_2 l1_2.length c1_2) l1_2) (h : Xb.f k l0 l1_0 l1_1 l1_2 a2_0 a2_1 a2_2 = some r) :
  Calls Try.prog 8 #[.slice A0 l0.length c0, .agg #[.slice A1_0 l1_0.length c1_0, .slice A1_1 l1_1.length c1_1, .slice A1_2 l1_2.length c1_2], .agg #[.int .i64 a2_0, .int .i64 a2_1, .int .i64 a2_2]] w fun e w' => e = .returned (.bool r) ∧ Below w.heap.size w w' := by
 have hu76 := Try.underlying76
 have hu79 := Try.underlying79
 have HR0 := Xa.mk hr0
 have HC0 := Xa.mk hc0
 clear hr0 hc0
 have HO1_0 := Xa.mk (show Kd.V k58 58 w w.heap.size (fun k_ => ((P1_0_ k_ ∨ P1_1_ k_ ∨ P1_2_ k_) ∨ w.heap.size ≤ k_)) (.slice A1_0 l1_0.length c1_0) l1_0 from Kd.V_mono hs1_0 (fun k_ hk => .inl (.inl hk)))
 have HO1_1 := Xa.mk (show Kd.V k58 58 w w.heap.size (fun k_ => ((P1_0_ k_ ∨ P1_1_ k_ ∨ P1_2_ k_) ∨ w.heap.size ≤ k_)) (.slice A1_1 l1_1.length c1_1) l1_1 from Kd.V_mono hs1_1 (fun k_ hk => .inl (.inr (.inl hk))))
 have HO1_2 := Xa.mk (show Kd.V k58 58 w w.heap.size (fun k_ => ((P1_0_ k_ ∨ P1_1_ k_ ∨ P1_2_ k_) ∨ w.heap.size ≤ k_)) (.slice A1_2 l1_2.length c1_2) l1_2 from Kd.V_mono hs1_2 (fun k_ hk => .inl (.inr (.inr hk))))
 have HB := Xa.mk (Below.refl w.heap.size w)
 have H : ((Xv.f k l0 (([l1_0, l1_1, l1_2] : List (List (S58))))).bind fun t288 => (if t288 = true then (Xb.j0 k l0 true l1_0 l1_1 l1_2 a2_0 a2_1 a2_2) else ((Xt.f k l1_0).bind fun t289 => (if t289 = true then (Xb.j0 k l0 true l1_0 l1_1 l1_2 a2_0 a2_1 a2_2) else ((Xt.f k l1_1).bind fun t290 => (if t290 = true then (Xb.j0 k l0 true l1_0 l1_1 l1_2 a2_0 a2_1 a2_2) else ((Xt.f k l1_2).bind fun t291 => (Xb.j0 k l0 t291 l1_0 l1_1 l1_2 a2_0 a2_1 a2_2)))))))) = some r := h
 clear h
 have HC4 := Xa.mk H
 clear H
 go_enter Try.func8, Try.ntmps8
 go_upto_region 1 with (first | ((with_reducible refine Xz (N := 4) rfl ?_); (try (refine Yk (by rfl) ?_; dsimp only)); refine XH ?hg (N := 4) ?hd (cs := #[.slice A1_0 l1_0.length c1_0, .slice A1_1 l1_1.length c1_1, .slice A1_2 l1_2.length c1_2]) (t := 76) ?hr ?_; (case hd => rfl); (case hg => rfl); (case hr => first | (go_simp; done) | (go_simp; rfl)); intro gb283 hg w5 hbox hb; replace HO1_0 := Xa.mk (Kd.V_below (Kd.V_elderB (xo_ HO1_0) gb283 (Nat.le_of_eq hg.symm)) hb); replace HO1_1 := Xa.mk (Kd.V_below (Kd.V_elderB (xo_ HO1_1) gb283 (Nat.le_of_eq hg.symm)) hb); replace HO1_2 := Xa.mk (Kd.V_below (Kd.V_elderB (xo_ HO1_2) gb283 (Nat.le_of_eq hg.symm)) hb); have BK283 := Xa.mk (hbox); have GW283 := Xa.mk ((by rw [hg]; exact (Xg (hb_ HB)) : w.heap.size ≤ gb283)); have GE283 := GW283; replace HB := sb_ HB hb; clear hb hbox hg) | ((with_reducible refine Xz (N := 5) rfl ?_); (try (refine Yk (by rfl) ?_; dsimp only)); refine XH ?hg (N := 5) ?hd (cs := #[.int .i64 a2_0, .int .i64 a2_1, .int .i64 a2_2]) (t := 79) ?hr ?_; (case hd => rfl); (case hg => rfl); (case hr => first | (go_simp; done) | (go_simp; rfl)); intro gb284 hg w6 hbox hb; replace HO1_0 := Xa.mk (Kd.V_below (Kd.V_elderB (xo_ HO1_0) gb284 (Nat.le_of_eq hg.symm)) hb); replace HO1_1 := Xa.mk (Kd.V_below (Kd.V_elderB (xo_ HO1_1) gb284 (Nat.le_of_eq hg.symm)) hb); replace HO1_2 := Xa.mk (Kd.V_below (Kd.V_elderB (xo_ HO1_2) gb284 (Nat.le_of_eq hg.symm)) hb); have BK284 := Xa.mk (hbox); have GW284 := Xa.mk ((by rw [hg]; exact (Xg (hb_ HB)) : w.heap.size ≤ gb284)); have GE284 := GW284; replace HB := sb_ HB hb; have NB283_284 := Xa.mk ((by rw [hg]; exact Nat.ne_of_lt (YV BK283.out) : gb283 ≠ gb284)); have NB284_283 := Xa.mk ((by rw [hg]; exact Nat.ne_of_gt (YV BK283.out) : gb284 ≠ gb283)); replace BK283 := kb_ BK283 hb; clear hb hbox hg))
 (try simp only [Act.put, sa_, s0_, s1_])
 go_cut [52] (fun v52 wc => ∃ (kq : Nat) (x52_3 : Bool), v52 = .bool x52_3 ∧ Xa (Xb.j0 kq l0 x52_3 l1_0 l1_1 l1_2 a2_0 a2_1 a2_2 = some r) ∧ Xa (kq ≤ k) ∧ Xa (Kd.V k58 58 wc w.heap.size (fun k_ => ((P1_0_ k_ ∨ P1_1_ k_ ∨ P1_2_ k_) ∨ w.heap.size ≤ k_) ∧ k_ ≠ gb283 ∧ k_ ≠ gb284) (.slice A1_0 l1_0.length c1_0) l1_0) ∧ Xa (Kd.V k58 58 wc w.heap.size (fun k_ => ((P1_0_ k_ ∨ P1_1_ k_ ∨ P1_2_ k_) ∨ w.heap.size ≤ k_) ∧ k_ ≠ gb283 ∧ k_ ≠ gb284) (.slice A1_1 l1_1.length c1_1) l1_1) ∧ Xa (Kd.V k58 58 wc w.heap.size (fun k_ => ((P1_0_ k_ ∨ P1_1_ k_ ∨ P1_2_ k_) ∨ w.heap.size ≤ k_) ∧ k_ ≠ gb283 ∧ k_ ≠ gb284) (.slice A1_2 l1_2.length c1_2) l1_2) ∧ Xa (wc.heap[gb283]? = some (.cells #[(.slice A1_0 l1_0.length c1_0), (.slice A1_1 l1_1.length c1_1), (.slice A1_2 l1_2.length c1_2)] 76 (0, 0))) ∧ Xa (wc.heap[gb284]? = some (.cells #[.int .i64 a2_0, .int .i64 a2_1, .int .i64 a2_2] 79 (0, 0))) ∧ Xa (Below w.heap.size w wc))
 case first => as_aux_lemma =>
  have H := HC4.out
  clear HC4
  obtain ⟨y285, hy285⟩ : ∃ y_ : List (List (S58)), y_ = (([l1_0, l1_1, l1_2] : List (List (S58)))) := ⟨_, rfl⟩
  replace H : ((Xv.f k l0 y285).bind fun t288 => (if t288 = true then (Xb.j0 k l0 true l1_0 l1_1 l1_2 a2_0 a2_1 a2_2) else ((Xt.f k l1_0).bind fun t289 => (if t289 = true then (Xb.j0 k l0 true l1_0 l1_1 l1_2 a2_0 a2_1 a2_2) else ((Xt.f k l1_1).bind fun t290 => (if t290 = true then (Xb.j0 k l0 true l1_0 l1_1 l1_2 a2_0 a2_1 a2_2) else ((Xt.f k l1_2).bind fun t291 => (Xb.j0 k l0 t291 l1_0 l1_1 l1_2 a2_0 a2_1 a2_2)))))))) = some r := by first | (rw [hy285]; with_reducible exact H) | (have H2_ := (Option.bind_some _ _).symm.trans H; rw [hy285]; with_reducible exact H2_) | (have H2_ := (Option.bind_some _ _).symm.trans H; with_reducible exact H2_) | with_reducible exact H | (rw [hy285]; exact H) | exact H
  have Ny285 := Xa.mk hy285
  clear hy285
  replace H := Option.bind_eq_some_iff.mp H
  obtain ⟨t288, A70, H⟩ := H; (try dsimp only at H)
  have A7 := Xa.mk A70
  clear A70
  by_cases c8 : t288 = true
  ·subst c8
   have H1 : (Xb.j0 k l0 true l1_0 l1_1 l1_2 a2_0 a2_1 a2_2) = some r := by rw [if_pos rfl] at H; exact H
   clear H
   have H := H1
   clear H1
   have H' := Xa.mk H
   clear H
   have hnb9 := NB283_284.out
   have hnc9 := NB284_283.out
   obtain ⟨hcz10_0, hcz10_1, hcz10_2⟩ := bc3 BK283.out
   obtain ⟨hfz10_0, hfz10_1, hfz10_2⟩ := bf3 BK283.out
   go_wp2_with (first | ((with_reducible refine Xz (N := 36) rfl ?_); (try (refine Yk (by rfl) ?_; dsimp only)); refine Kd.N_lit (Kd.slice 58 k58) _ 68 ?hg (N' := 36) ?hd (xs := ([l1_0, l1_1, l1_2] : List (List (S58)))) (inner := [.slice A1_0 l1_0.length c1_0, .slice A1_1 l1_1.length c1_1, .slice A1_2 l1_2.length c1_2]) (ok := (fun k_ => ((P1_0_ k_ ∨ P1_1_ k_ ∨ P1_2_ k_) ∨ w.heap.size ≤ k_) ∧ k_ ≠ gb283 ∧ k_ ≠ gb284)) (okp := (fun k_ => ((P1_0_ k_ ∨ P1_1_ k_ ∨ P1_2_ k_) ∨ w.heap.size ≤ k_) ∧ k_ ≠ gb283 ∧ k_ ≠ gb284)) ?hr ?hp (fun _ hk => hk) ((show ∀ k_, w6.heap.size ≤ k_ → (fun k_ => ((P1_0_ k_ ∨ P1_1_ k_ ∨ P1_2_ k_) ∨ w.heap.size ≤ k_) ∧ k_ ≠ gb283 ∧ k_ ≠ gb284) k_ from fun k_ hk => ⟨(.inr (Nat.le_trans (Xg (hb_ HB)) hk)), Kd.freshB (g := gb283) (o := .cells #[.slice A1_0 l1_0.length c1_0, .slice A1_1 l1_1.length c1_1, .slice A1_2 l1_2.length c1_2] 76 (0, 0)) (bk_ BK283) k_ hk, Kd.freshB (g := gb284) (o := .cells #[.int .i64 a2_0, .int .i64 a2_1, .int .i64 a2_2] 79 (0, 0)) (bk_ BK284) k_ hk⟩) _ (Nat.le_refl _)) (Below.refl _ _) (Nat.le_refl _) (by simp) ?_; (case hd => rfl); (case hg => rfl); (case hr => first | (go_simp; done) | (go_simp; rfl)); (case hp => exact (Reps.one (show Kd.FK (Kd.slice 58 k58) _ _ l1_0 [.slice A1_0 l1_0.length c1_0] from (Kd.FK_slice_mk (Kd.V_reads' (Kd.V_mono (ok' := (fun k_ => ((P1_0_ k_ ∨ P1_1_ k_ ∨ P1_2_ k_) ∨ w.heap.size ≤ k_) ∧ k_ ≠ gb283 ∧ k_ ≠ gb284)) (HO1_0.out) (fun k_ hk => ⟨hk.1.1, ⟨hk.1.2, hk.2⟩⟩))).2.1 (Kd.V_F (Kd.V_mono (ok' := (fun k_ => ((P1_0_ k_ ∨ P1_1_ k_ ∨ P1_2_ k_) ∨ w.heap.size ≤ k_) ∧ k_ ≠ gb283 ∧ k_ ≠ gb284)) (HO1_0.out) (fun k_ hk => ⟨hk.1.1, ⟨hk.1.2, hk.2⟩⟩))))) (Reps.one (show Kd.FK (Kd.slice 58 k58) _ _ l1_1 [.slice A1_1 l1_1.length c1_1] from (Kd.FK_slice_mk (Kd.V_reads' (Kd.V_mono (ok' := (fun k_ => ((P1_0_ k_ ∨ P1_1_ k_ ∨ P1_2_ k_) ∨ w.heap.size ≤ k_) ∧ k_ ≠ gb283 ∧ k_ ≠ gb284)) (HO1_1.out) (fun k_ hk => ⟨hk.1.1, ⟨hk.1.2, hk.2⟩⟩))).2.1 (Kd.V_F (Kd.V_mono (ok' := (fun k_ => ((P1_0_ k_ ∨ P1_1_ k_ ∨ P1_2_ k_) ∨ w.heap.size ≤ k_) ∧ k_ ≠ gb283 ∧ k_ ≠ gb284)) (HO1_1.out) (fun k_ hk => ⟨hk.1.1, ⟨hk.1.2, hk.2⟩⟩))))) (Reps.one (show Kd.FK (Kd.slice 58 k58) _ _ l1_2 [.slice A1_2 l1_2.length c1_2] from (Kd.FK_slice_mk (Kd.V_reads' (Kd.V_mono (ok' := (fun k_ => ((P1_0_ k_ ∨ P1_1_ k_ ∨ P1_2_ k_) ∨ w.heap.size ≤ k_) ∧ k_ ≠ gb283 ∧ k_ ≠ gb284)) (HO1_2.out) (fun k_ hk => ⟨hk.1.1, ⟨hk.1.2, hk.2⟩⟩))).2.1 (Kd.V_F (Kd.V_mono (ok' := (fun k_ => ((P1_0_ k_ ∨ P1_1_ k_ ∨ P1_2_ k_) ∨ w.heap.size ≤ k_) ∧ k_ ≠ gb283 ∧ k_ ≠ gb284)) (HO1_2.out) (fun k_ hk => ⟨hk.1.1, ⟨hk.1.2, hk.2⟩⟩))))) (Reps.none _ _))))); intro v286 w11 ho12 hb hg_ hnew_; clear hg_ hnew_; (first | rw [← Ny285.out] at ho12 | (simp only [Int.reduceToNat] at ho12; rw [← Ny285.out] at ho12)); replace HO1_0 := Xa.mk (Kd.V_elder' (xo_ HO1_0) (Kd.N_base ho12) hb); replace HO1_1 := Xa.mk (Kd.V_elder' (xo_ HO1_1) (Kd.N_base ho12) hb); replace HO1_2 := Xa.mk (Kd.V_elder' (xo_ HO1_2) (Kd.N_base ho12) hb); have HO287 := Xa.mk (Kd.N_lower ho12 (Xg (hb_ HB))); replace BK283 := kb_ BK283 hb; replace BK284 := kb_ BK284 hb; replace HB := sb_ HB hb; clear hb ho12; obtain ⟨Ao13, co13, eo13⟩ := Kd.N_slice HO287.out; subst eo13) | ((with_reducible refine Xp (f := 30) rfl ?_); refine XL (some 37) rfl rfl Try.func30 (by kernel_rfl) rfl #[.slice A0 l0.length c0, .slice Ao13 y285.length co13] rfl (by (try simp only [List.map_toArray, List.map_cons, List.map_nil]); first | done | rfl | (simp only [List.length_drop, List.length_take]; rfl)) ?_; (with_reducible refine (Xv.calls k _ _ l0 _ _ y285 true _ ?side1 ?side2 ?side3 ?side4 A7.out).mono ?_); (case side1 => exact cA_ (Kd.C_below HR0.out HB.out)); (case side2 => exact HC0.out); (case side3 => exact cA_ (Kd.N_reads' HO287.out).2.2); (case side4 => exact (Kd.N_reads' HO287.out).2.1); rintro e w' ⟨rfl, ⟨nd, rfl⟩⟩; refine ⟨_, rfl, ?_⟩))
   go_meet
   case rel => exact ⟨_, (true), fx_, H', ⟨by first | omega | exact Nat.le_refl _⟩, ⟨by (with_reducible repeat (first | apply Kd.V_alloc | apply Kd.V_drewN | apply Kd.V_drew)); exact Kd.V_mono HO1_0.out (fun _ hk => ⟨hk.1.1.1, ⟨hk.1.1.2, hk.1.2⟩⟩)⟩, ⟨by (with_reducible repeat (first | apply Kd.V_alloc | apply Kd.V_drewN | apply Kd.V_drew)); exact Kd.V_mono HO1_1.out (fun _ hk => ⟨hk.1.1.1, ⟨hk.1.1.2, hk.1.2⟩⟩)⟩, ⟨by (with_reducible repeat (first | apply Kd.V_alloc | apply Kd.V_drewN | apply Kd.V_drew)); exact Kd.V_mono HO1_2.out (fun _ hk => ⟨hk.1.1.1, ⟨hk.1.1.2, hk.1.2⟩⟩)⟩, BK283, BK284, ⟨hb_ HB⟩⟩
  replace c8 := Bool.eq_false_iff.mpr c8
  subst c8
  have H1 : ((Xt.f k l1_0).bind fun t289 => (if t289 = true then (Xb.j0 k l0 true l1_0 l1_1 l1_2 a2_0 a2_1 a2_2) else ((Xt.f k l1_1).bind fun t290 => (if t290 = true then (Xb.j0 k l0 true l1_0 l1_1 l1_2 a2_0 a2_1 a2_2) else ((Xt.f k l1_2).bind fun t291 => (Xb.j0 k l0 t291 l1_0 l1_1 l1_2 a2_0 a2_1 a2_2)))))) = some r := by rw [if_neg (show ¬ (false = true) by decide)] at H; exact H
  clear H
  have H := H1
  clear H1
  replace H := Option.bind_eq_some_iff.mp H
  obtain ⟨t289, A140, H⟩ := H; (try dsimp only at H)
  have A14 := Xa.mk A140
  clear A140
  by_cases c15 : t289 = true
  ·subst c15
   have H1 : (Xb.j0 k l0 true l1_0 l1_1 l1_2 a2_0 a2_1 a2_2) = some r := by rw [if_pos rfl] at H; exact H
   clear H
   have H := H1
   clear H1
   have H' := Xa.mk H
   clear H
   have hnb16 := NB283_284.out
   have hnc16 := NB284_283.out
   obtain ⟨hcz17_0, hcz17_1, hcz17_2⟩ := bc3 BK283.out
   obtain ⟨hfz17_0, hfz17_1, hfz17_2⟩ := bf3 BK283.out
   go_wp2_with (first | ((with_reducible refine Xz (N := 36) rfl ?_); (try (refine Yk (by rfl) ?_; dsimp only)); refine Kd.N_lit (Kd.slice 58 k58) _ 68 ?hg (N' := 36) ?hd (xs := ([l1_0, l1_1, l1_2] : List (List (S58)))) (inner := [.slice A1_0 l1_0.length c1_0, .slice A1_1 l1_1.length c1_1, .slice A1_2 l1_2.length c1_2]) (ok := (fun k_ => ((P1_0_ k_ ∨ P1_1_ k_ ∨ P1_2_ k_) ∨ w.heap.size ≤ k_) ∧ k_ ≠ gb283 ∧ k_ ≠ gb284)) (okp := (fun k_ => ((P1_0_ k_ ∨ P1_1_ k_ ∨ P1_2_ k_) ∨ w.heap.size ≤ k_) ∧ k_ ≠ gb283 ∧ k_ ≠ gb284)) ?hr ?hp (fun _ hk => hk) ((show ∀ k_, w6.heap.size ≤ k_ → (fun k_ => ((P1_0_ k_ ∨ P1_1_ k_ ∨ P1_2_ k_) ∨ w.heap.size ≤ k_) ∧ k_ ≠ gb283 ∧ k_ ≠ gb284) k_ from fun k_ hk => ⟨(.inr (Nat.le_trans (Xg (hb_ HB)) hk)), Kd.freshB (g := gb283) (o := .cells #[.slice A1_0 l1_0.length c1_0, .slice A1_1 l1_1.length c1_1, .slice A1_2 l1_2.length c1_2] 76 (0, 0)) (bk_ BK283) k_ hk, Kd.freshB (g := gb284) (o := .cells #[.int .i64 a2_0, .int .i64 a2_1, .int .i64 a2_2] 79 (0, 0)) (bk_ BK284) k_ hk⟩) _ (Nat.le_refl _)) (Below.refl _ _) (Nat.le_refl _) (by simp) ?_; (case hd => rfl); (case hg => rfl); (case hr => first | (go_simp; done) | (go_simp; rfl)); (case hp => exact (Reps.one (show Kd.FK (Kd.slice 58 k58) _ _ l1_0 [.slice A1_0 l1_0.length c1_0] from (Kd.FK_slice_mk (Kd.V_reads' (Kd.V_mono (ok' := (fun k_ => ((P1_0_ k_ ∨ P1_1_ k_ ∨ P1_2_ k_) ∨ w.heap.size ≤ k_) ∧ k_ ≠ gb283 ∧ k_ ≠ gb284)) (HO1_0.out) (fun k_ hk => ⟨hk.1.1, ⟨hk.1.2, hk.2⟩⟩))).2.1 (Kd.V_F (Kd.V_mono (ok' := (fun k_ => ((P1_0_ k_ ∨ P1_1_ k_ ∨ P1_2_ k_) ∨ w.heap.size ≤ k_) ∧ k_ ≠ gb283 ∧ k_ ≠ gb284)) (HO1_0.out) (fun k_ hk => ⟨hk.1.1, ⟨hk.1.2, hk.2⟩⟩))))) (Reps.one (show Kd.FK (Kd.slice 58 k58) _ _ l1_1 [.slice A1_1 l1_1.length c1_1] from (Kd.FK_slice_mk (Kd.V_reads' (Kd.V_mono (ok' := (fun k_ => ((P1_0_ k_ ∨ P1_1_ k_ ∨ P1_2_ k_) ∨ w.heap.size ≤ k_) ∧ k_ ≠ gb283 ∧ k_ ≠ gb284)) (HO1_1.out) (fun k_ hk => ⟨hk.1.1, ⟨hk.1.2, hk.2⟩⟩))).2.1 (Kd.V_F (Kd.V_mono (ok' := (fun k_ => ((P1_0_ k_ ∨ P1_1_ k_ ∨ P1_2_ k_) ∨ w.heap.size ≤ k_) ∧ k_ ≠ gb283 ∧ k_ ≠ gb284)) (HO1_1.out) (fun k_ hk => ⟨hk.1.1, ⟨hk.1.2, hk.2⟩⟩))))) (Reps.one (show Kd.FK (Kd.slice 58 k58) _ _ l1_2 [.slice A1_2 l1_2.length c1_2] from (Kd.FK_slice_mk (Kd.V_reads' (Kd.V_mono (ok' := (fun k_ => ((P1_0_ k_ ∨ P1_1_ k_ ∨ P1_2_ k_) ∨ w.heap.size ≤ k_) ∧ k_ ≠ gb283 ∧ k_ ≠ gb284)) (HO1_2.out) (fun k_ hk => ⟨hk.1.1, ⟨hk.1.2, hk.2⟩⟩))).2.1 (Kd.V_F (Kd.V_mono (ok' := (fun k_ => ((P1_0_ k_ ∨ P1_1_ k_ ∨ P1_2_ k_) ∨ w.heap.size ≤ k_) ∧ k_ ≠ gb283 ∧ k_ ≠ gb284)) (HO1_2.out) (fun k_ hk => ⟨hk.1.1, ⟨hk.1.2, hk.2⟩⟩))))) (Reps.none _ _))))); intro v286 w18 ho19 hb hg_ hnew_; clear hg_ hnew_; (first | rw [← Ny285.out] at ho19 | (simp only [Int.reduceToNat] at ho19; rw [← Ny285.out] at ho19)); replace HO1_0 := Xa.mk (Kd.V_elder' (xo_ HO1_0) (Kd.N_base ho19) hb); replace HO1_1 := Xa.mk (Kd.V_elder' (xo_ HO1_1) (Kd.N_base ho19) hb); replace HO1_2 := Xa.mk (Kd.V_elder' (xo_ HO1_2) (Kd.N_base ho19) hb); have HO287 := Xa.mk (Kd.N_lower ho19 (Xg (hb_ HB))); replace BK283 := kb_ BK283 hb; replace BK284 := kb_ BK284 hb; replace HB := sb_ HB hb; clear hb ho19; obtain ⟨Ao20, co20, eo20⟩ := Kd.N_slice HO287.out; subst eo20) | ((with_reducible refine Xp (f := 30) rfl ?_); refine XL (some 37) rfl rfl Try.func30 (by kernel_rfl) rfl #[.slice A0 l0.length c0, .slice Ao20 y285.length co20] rfl (by (try simp only [List.map_toArray, List.map_cons, List.map_nil]); first | done | rfl | (simp only [List.length_drop, List.length_take]; rfl)) ?_; (with_reducible refine (Xv.calls k _ _ l0 _ _ y285 false _ ?side1 ?side2 ?side3 ?side4 A7.out).mono ?_); (case side1 => exact cA_ (Kd.C_below HR0.out HB.out)); (case side2 => exact HC0.out); (case side3 => exact cA_ (Kd.N_reads' HO287.out).2.2); (case side4 => exact (Kd.N_reads' HO287.out).2.1); rintro e w' ⟨rfl, ⟨nd, rfl⟩⟩; refine ⟨_, rfl, ?_⟩; obtain ⟨hcz21_0, hcz21_1, hcz21_2⟩ := bc3 BK283.out; obtain ⟨hfz21_0, hfz21_1, hfz21_2⟩ := bf3 BK283.out) | (go_at_call 38; (with_reducible refine (Xt.calls k _ _ l1_0 true _ ?side1 ?side2 A14.out).mono ?_); (case side1 => exact cA_ (Kd.V_reads' HO1_0.out).2.2); (case side2 => exact (Kd.V_reads' HO1_0.out).2.1); rintro e w' ⟨rfl, ⟨nd, rfl⟩⟩))
   go_meet
   case rel => exact ⟨_, (true), fx_, H', ⟨by first | omega | exact Nat.le_refl _⟩, ⟨by (with_reducible repeat (first | apply Kd.V_alloc | apply Kd.V_drewN | apply Kd.V_drew)); exact Kd.V_mono HO1_0.out (fun _ hk => ⟨hk.1.1.1, ⟨hk.1.1.2, hk.1.2⟩⟩)⟩, ⟨by (with_reducible repeat (first | apply Kd.V_alloc | apply Kd.V_drewN | apply Kd.V_drew)); exact Kd.V_mono HO1_1.out (fun _ hk => ⟨hk.1.1.1, ⟨hk.1.1.2, hk.1.2⟩⟩)⟩, ⟨by (with_reducible repeat (first | apply Kd.V_alloc | apply Kd.V_drewN | apply Kd.V_drew)); exact Kd.V_mono HO1_2.out (fun _ hk => ⟨hk.1.1.1, ⟨hk.1.1.2, hk.1.2⟩⟩)⟩, BK283, BK284, ⟨hb_ HB⟩⟩
  replace c15 := Bool.eq_false_iff.mpr c15
  subst c15
  have H1 : ((Xt.f k l1_1).bind fun t290 => (if t290 = true then (Xb.j0 k l0 true l1_0 l1_1 l1_2 a2_0 a2_1 a2_2) else ((Xt.f k l1_2).bind fun t291 => (Xb.j0 k l0 t291 l1_0 l1_1 l1_2 a2_0 a2_1 a2_2)))) = some r := by rw [if_neg (show ¬ (false = true) by decide)] at H; exact H
  clear H
  have H := H1
  clear H1
  replace H := Option.bind_eq_some_iff.mp H
  obtain ⟨t290, A220, H⟩ := H; (try dsimp only at H)
  have A22 := Xa.mk A220
  clear A220
  by_cases c23 : t290 = true
  ·subst c23
   have H1 : (Xb.j0 k l0 true l1_0 l1_1 l1_2 a2_0 a2_1 a2_2) = some r := by rw [if_pos rfl] at H; exact H
   clear H
   have H := H1
   clear H1
   have H' := Xa.mk H
   clear H
   have hnb24 := NB283_284.out
   have hnc24 := NB284_283.out
   obtain ⟨hcz25_0, hcz25_1, hcz25_2⟩ := bc3 BK283.out
   obtain ⟨hfz25_0, hfz25_1, hfz25_2⟩ := bf3 BK283.out
   go_wp2_with (first | ((with_reducible refine Xz (N := 36) rfl ?_); (try (refine Yk (by rfl) ?_; dsimp only)); refine Kd.N_lit (Kd.slice 58 k58) _ 68 ?hg (N' := 36) ?hd (xs := ([l1_0, l1_1, l1_2] : List (List (S58)))) (inner := [.slice A1_0 l1_0.length c1_0, .slice A1_1 l1_1.length c1_1, .slice A1_2 l1_2.length c1_2]) (ok := (fun k_ => ((P1_0_ k_ ∨ P1_1_ k_ ∨ P1_2_ k_) ∨ w.heap.size ≤ k_) ∧ k_ ≠ gb283 ∧ k_ ≠ gb284)) (okp := (fun k_ => ((P1_0_ k_ ∨ P1_1_ k_ ∨ P1_2_ k_) ∨ w.heap.size ≤ k_) ∧ k_ ≠ gb283 ∧ k_ ≠ gb284)) ?hr ?hp (fun _ hk => hk) ((show ∀ k_, w6.heap.size ≤ k_ → (fun k_ => ((P1_0_ k_ ∨ P1_1_ k_ ∨ P1_2_ k_) ∨ w.heap.size ≤ k_) ∧ k_ ≠ gb283 ∧ k_ ≠ gb284) k_ from fun k_ hk => ⟨(.inr (Nat.le_trans (Xg (hb_ HB)) hk)), Kd.freshB (g := gb283) (o := .cells #[.slice A1_0 l1_0.length c1_0, .slice A1_1 l1_1.length c1_1, .slice A1_2 l1_2.length c1_2] 76 (0, 0)) (bk_ BK283) k_ hk, Kd.freshB (g := gb284) (o := .cells #[.int .i64 a2_0, .int .i64 a2_1, .int .i64 a2_2] 79 (0, 0)) (bk_ BK284) k_ hk⟩) _ (Nat.le_refl _)) (Below.refl _ _) (Nat.le_refl _) (by simp) ?_; (case hd => rfl); (case hg => rfl); (case hr => first | (go_simp; done) | (go_simp; rfl)); (case hp => exact (Reps.one (show Kd.FK (Kd.slice 58 k58) _ _ l1_0 [.slice A1_0 l1_0.length c1_0] from (Kd.FK_slice_mk (Kd.V_reads' (Kd.V_mono (ok' := (fun k_ => ((P1_0_ k_ ∨ P1_1_ k_ ∨ P1_2_ k_) ∨ w.heap.size ≤ k_) ∧ k_ ≠ gb283 ∧ k_ ≠ gb284)) (HO1_0.out) (fun k_ hk => ⟨hk.1.1, ⟨hk.1.2, hk.2⟩⟩))).2.1 (Kd.V_F (Kd.V_mono (ok' := (fun k_ => ((P1_0_ k_ ∨ P1_1_ k_ ∨ P1_2_ k_) ∨ w.heap.size ≤ k_) ∧ k_ ≠ gb283 ∧ k_ ≠ gb284)) (HO1_0.out) (fun k_ hk => ⟨hk.1.1, ⟨hk.1.2, hk.2⟩⟩))))) (Reps.one (show Kd.FK (Kd.slice 58 k58) _ _ l1_1 [.slice A1_1 l1_1.length c1_1] from (Kd.FK_slice_mk (Kd.V_reads' (Kd.V_mono (ok' := (fun k_ => ((P1_0_ k_ ∨ P1_1_ k_ ∨ P1_2_ k_) ∨ w.heap.size ≤ k_) ∧ k_ ≠ gb283 ∧ k_ ≠ gb284)) (HO1_1.out) (fun k_ hk => ⟨hk.1.1, ⟨hk.1.2, hk.2⟩⟩))).2.1 (Kd.V_F (Kd.V_mono (ok' := (fun k_ => ((P1_0_ k_ ∨ P1_1_ k_ ∨ P1_2_ k_) ∨ w.heap.size ≤ k_) ∧ k_ ≠ gb283 ∧ k_ ≠ gb284)) (HO1_1.out) (fun k_ hk => ⟨hk.1.1, ⟨hk.1.2, hk.2⟩⟩))))) (Reps.one (show Kd.FK (Kd.slice 58 k58) _ _ l1_2 [.slice A1_2 l1_2.length c1_2] from (Kd.FK_slice_mk (Kd.V_reads' (Kd.V_mono (ok' := (fun k_ => ((P1_0_ k_ ∨ P1_1_ k_ ∨ P1_2_ k_) ∨ w.heap.size ≤ k_) ∧ k_ ≠ gb283 ∧ k_ ≠ gb284)) (HO1_2.out) (fun k_ hk => ⟨hk.1.1, ⟨hk.1.2, hk.2⟩⟩))).2.1 (Kd.V_F (Kd.V_mono (ok' := (fun k_ => ((P1_0_ k_ ∨ P1_1_ k_ ∨ P1_2_ k_) ∨ w.heap.size ≤ k_) ∧ k_ ≠ gb283 ∧ k_ ≠ gb284)) (HO1_2.out) (fun k_ hk => ⟨hk.1.1, ⟨hk.1.2, hk.2⟩⟩))))) (Reps.none _ _))))); intro v286 w26 ho27 hb hg_ hnew_; clear hg_ hnew_; (first | rw [← Ny285.out] at ho27 | (simp only [Int.reduceToNat] at ho27; rw [← Ny285.out] at ho27)); replace HO1_0 := Xa.mk (Kd.V_elder' (xo_ HO1_0) (Kd.N_base ho27) hb); replace HO1_1 := Xa.mk (Kd.V_elder' (xo_ HO1_1) (Kd.N_base ho27) hb); replace HO1_2 := Xa.mk (Kd.V_elder' (xo_ HO1_2) (Kd.N_base ho27) hb); have HO287 := Xa.mk (Kd.N_lower ho27 (Xg (hb_ HB))); replace BK283 := kb_ BK283 hb; replace BK284 := kb_ BK284 hb; replace HB := sb_ HB hb; clear hb ho27; obtain ⟨Ao28, co28, eo28⟩ := Kd.N_slice HO287.out; subst eo28) | ((with_reducible refine Xp (f := 30) rfl ?_); refine XL (some 37) rfl rfl Try.func30 (by kernel_rfl) rfl #[.slice A0 l0.length c0, .slice Ao28 y285.length co28] rfl (by (try simp only [List.map_toArray, List.map_cons, List.map_nil]); first | done | rfl | (simp only [List.length_drop, List.length_take]; rfl)) ?_; (with_reducible refine (Xv.calls k _ _ l0 _ _ y285 false _ ?side1 ?side2 ?side3 ?side4 A7.out).mono ?_); (case side1 => exact cA_ (Kd.C_below HR0.out HB.out)); (case side2 => exact HC0.out); (case side3 => exact cA_ (Kd.N_reads' HO287.out).2.2); (case side4 => exact (Kd.N_reads' HO287.out).2.1); rintro e w' ⟨rfl, ⟨nd, rfl⟩⟩; refine ⟨_, rfl, ?_⟩; obtain ⟨hcz29_0, hcz29_1, hcz29_2⟩ := bc3 BK283.out; obtain ⟨hfz29_0, hfz29_1, hfz29_2⟩ := bf3 BK283.out) | (go_at_call 38; (with_reducible refine (Xt.calls k _ _ l1_0 false _ ?side1 ?side2 A14.out).mono ?_); (case side1 => exact cA_ (Kd.V_reads' HO1_0.out).2.2); (case side2 => exact (Kd.V_reads' HO1_0.out).2.1); rintro e w' ⟨rfl, ⟨nd, rfl⟩⟩) | (go_at_call 38; (with_reducible refine (Xt.calls k _ _ l1_1 true _ ?side1 ?side2 A22.out).mono ?_); (case side1 => exact cA_ (Kd.V_reads' HO1_1.out).2.2); (case side2 => exact (Kd.V_reads' HO1_1.out).2.1); rintro e w' ⟨rfl, ⟨nd, rfl⟩⟩))
   go_meet
   case rel => exact ⟨_, (true), fx_, H', ⟨by first | omega | exact Nat.le_refl _⟩, ⟨by (with_reducible repeat (first | apply Kd.V_alloc | apply Kd.V_drewN | apply Kd.V_drew)); exact Kd.V_mono HO1_0.out (fun _ hk => ⟨hk.1.1.1, ⟨hk.1.1.2, hk.1.2⟩⟩)⟩, ⟨by (with_reducible repeat (first | apply Kd.V_alloc | apply Kd.V_drewN | apply Kd.V_drew)); exact Kd.V_mono HO1_1.out (fun _ hk => ⟨hk.1.1.1, ⟨hk.1.1.2, hk.1.2⟩⟩)⟩, ⟨by (with_reducible repeat (first | apply Kd.V_alloc | apply Kd.V_drewN | apply Kd.V_drew)); exact Kd.V_mono HO1_2.out (fun _ hk => ⟨hk.1.1.1, ⟨hk.1.1.2, hk.1.2⟩⟩)⟩, BK283, BK284, ⟨hb_ HB⟩⟩
  replace c23 := Bool.eq_false_iff.mpr c23
  subst c23
  have H1 : ((Xt.f k l1_2).bind fun t291 => (Xb.j0 k l0 t291 l1_0 l1_1 l1_2 a2_0 a2_1 a2_2)) = some r := by rw [if_neg (show ¬ (false = true) by decide)] at H; exact H
  clear H
  have H := H1
  clear H1
  replace H := Option.bind_eq_some_iff.mp H
  obtain ⟨t291, A300, H⟩ := H; (try dsimp only at H)
  have A30 := Xa.mk A300
  clear A300
  have H' := Xa.mk H
  clear H
  have hnb31 := NB283_284.out
  have hnc31 := NB284_283.out
  obtain ⟨hcz32_0, hcz32_1, hcz32_2⟩ := bc3 BK283.out
  obtain ⟨hfz32_0, hfz32_1, hfz32_2⟩ := bf3 BK283.out
  go_wp2_with (first | ((with_reducible refine Xz (N := 36) rfl ?_); (try (refine Yk (by rfl) ?_; dsimp only)); refine Kd.N_lit (Kd.slice 58 k58) _ 68 ?hg (N' := 36) ?hd (xs := ([l1_0, l1_1, l1_2] : List (List (S58)))) (inner := [.slice A1_0 l1_0.length c1_0, .slice A1_1 l1_1.length c1_1, .slice A1_2 l1_2.length c1_2]) (ok := (fun k_ => ((P1_0_ k_ ∨ P1_1_ k_ ∨ P1_2_ k_) ∨ w.heap.size ≤ k_) ∧ k_ ≠ gb283 ∧ k_ ≠ gb284)) (okp := (fun k_ => ((P1_0_ k_ ∨ P1_1_ k_ ∨ P1_2_ k_) ∨ w.heap.size ≤ k_) ∧ k_ ≠ gb283 ∧ k_ ≠ gb284)) ?hr ?hp (fun _ hk => hk) ((show ∀ k_, w6.heap.size ≤ k_ → (fun k_ => ((P1_0_ k_ ∨ P1_1_ k_ ∨ P1_2_ k_) ∨ w.heap.size ≤ k_) ∧ k_ ≠ gb283 ∧ k_ ≠ gb284) k_ from fun k_ hk => ⟨(.inr (Nat.le_trans (Xg (hb_ HB)) hk)), Kd.freshB (g := gb283) (o := .cells #[.slice A1_0 l1_0.length c1_0, .slice A1_1 l1_1.length c1_1, .slice A1_2 l1_2.length c1_2] 76 (0, 0)) (bk_ BK283) k_ hk, Kd.freshB (g := gb284) (o := .cells #[.int .i64 a2_0, .int .i64 a2_1, .int .i64 a2_2] 79 (0, 0)) (bk_ BK284) k_ hk⟩) _ (Nat.le_refl _)) (Below.refl _ _) (Nat.le_refl _) (by simp) ?_; (case hd => rfl); (case hg => rfl); (case hr => first | (go_simp; done) | (go_simp; rfl)); (case hp => exact (Reps.one (show Kd.FK (Kd.slice 58 k58) _ _ l1_0 [.slice A1_0 l1_0.length c1_0] from (Kd.FK_slice_mk (Kd.V_reads' (Kd.V_mono (ok' := (fun k_ => ((P1_0_ k_ ∨ P1_1_ k_ ∨ P1_2_ k_) ∨ w.heap.size ≤ k_) ∧ k_ ≠ gb283 ∧ k_ ≠ gb284)) (HO1_0.out) (fun k_ hk => ⟨hk.1.1, ⟨hk.1.2, hk.2⟩⟩))).2.1 (Kd.V_F (Kd.V_mono (ok' := (fun k_ => ((P1_0_ k_ ∨ P1_1_ k_ ∨ P1_2_ k_) ∨ w.heap.size ≤ k_) ∧ k_ ≠ gb283 ∧ k_ ≠ gb284)) (HO1_0.out) (fun k_ hk => ⟨hk.1.1, ⟨hk.1.2, hk.2⟩⟩))))) (Reps.one (show Kd.FK (Kd.slice 58 k58) _ _ l1_1 [.slice A1_1 l1_1.length c1_1] from (Kd.FK_slice_mk (Kd.V_reads' (Kd.V_mono (ok' := (fun k_ => ((P1_0_ k_ ∨ P1_1_ k_ ∨ P1_2_ k_) ∨ w.heap.size ≤ k_) ∧ k_ ≠ gb283 ∧ k_ ≠ gb284)) (HO1_1.out) (fun k_ hk => ⟨hk.1.1, ⟨hk.1.2, hk.2⟩⟩))).2.1 (Kd.V_F (Kd.V_mono (ok' := (fun k_ => ((P1_0_ k_ ∨ P1_1_ k_ ∨ P1_2_ k_) ∨ w.heap.size ≤ k_) ∧ k_ ≠ gb283 ∧ k_ ≠ gb284)) (HO1_1.out) (fun k_ hk => ⟨hk.1.1, ⟨hk.1.2, hk.2⟩⟩))))) (Reps.one (show Kd.FK (Kd.slice 58 k58) _ _ l1_2 [.slice A1_2 l1_2.length c1_2] from (Kd.FK_slice_mk (Kd.V_reads' (Kd.V_mono (ok' := (fun k_ => ((P1_0_ k_ ∨ P1_1_ k_ ∨ P1_2_ k_) ∨ w.heap.size ≤ k_) ∧ k_ ≠ gb283 ∧ k_ ≠ gb284)) (HO1_2.out) (fun k_ hk => ⟨hk.1.1, ⟨hk.1.2, hk.2⟩⟩))).2.1 (Kd.V_F (Kd.V_mono (ok' := (fun k_ => ((P1_0_ k_ ∨ P1_1_ k_ ∨ P1_2_ k_) ∨ w.heap.size ≤ k_) ∧ k_ ≠ gb283 ∧ k_ ≠ gb284)) (HO1_2.out) (fun k_ hk => ⟨hk.1.1, ⟨hk.1.2, hk.2⟩⟩))))) (Reps.none _ _))))); intro v286 w33 ho34 hb hg_ hnew_; clear hg_ hnew_; (first | rw [← Ny285.out] at ho34 | (simp only [Int.reduceToNat] at ho34; rw [← Ny285.out] at ho34)); replace HO1_0 := Xa.mk (Kd.V_elder' (xo_ HO1_0) (Kd.N_base ho34) hb); replace HO1_1 := Xa.mk (Kd.V_elder' (xo_ HO1_1) (Kd.N_base ho34) hb); replace HO1_2 := Xa.mk (Kd.V_elder' (xo_ HO1_2) (Kd.N_base ho34) hb); have HO287 := Xa.mk (Kd.N_lower ho34 (Xg (hb_ HB))); replace BK283 := kb_ BK283 hb; replace BK284 := kb_ BK284 hb; replace HB := sb_ HB hb; clear hb ho34; obtain ⟨Ao35, co35, eo35⟩ := Kd.N_slice HO287.out; subst eo35) | ((with_reducible refine Xp (f := 30) rfl ?_); refine XL (some 37) rfl rfl Try.func30 (by kernel_rfl) rfl #[.slice A0 l0.length c0, .slice Ao35 y285.length co35] rfl (by (try simp only [List.map_toArray, List.map_cons, List.map_nil]); first | done | rfl | (simp only [List.length_drop, List.length_take]; rfl)) ?_; (with_reducible refine (Xv.calls k _ _ l0 _ _ y285 false _ ?side1 ?side2 ?side3 ?side4 A7.out).mono ?_); (case side1 => exact cA_ (Kd.C_below HR0.out HB.out)); (case side2 => exact HC0.out); (case side3 => exact cA_ (Kd.N_reads' HO287.out).2.2); (case side4 => exact (Kd.N_reads' HO287.out).2.1); rintro e w' ⟨rfl, ⟨nd, rfl⟩⟩; refine ⟨_, rfl, ?_⟩; obtain ⟨hcz36_0, hcz36_1, hcz36_2⟩ := bc3 BK283.out; obtain ⟨hfz36_0, hfz36_1, hfz36_2⟩ := bf3 BK283.out) | (go_at_call 38; (with_reducible refine (Xt.calls k _ _ l1_0 false _ ?side1 ?side2 A14.out).mono ?_); (case side1 => exact cA_ (Kd.V_reads' HO1_0.out).2.2); (case side2 => exact (Kd.V_reads' HO1_0.out).2.1); rintro e w' ⟨rfl, ⟨nd, rfl⟩⟩) | (go_at_call 38; (with_reducible refine (Xt.calls k _ _ l1_1 false _ ?side1 ?side2 A22.out).mono ?_); (case side1 => exact cA_ (Kd.V_reads' HO1_1.out).2.2); (case side2 => exact (Kd.V_reads' HO1_1.out).2.1); rintro e w' ⟨rfl, ⟨nd, rfl⟩⟩) | (go_at_call 38; (with_reducible refine (Xt.calls k _ _ l1_2 t291 _ ?side1 ?side2 A30.out).mono ?_); (case side1 => exact cA_ (Kd.V_reads' HO1_2.out).2.2); (case side2 => exact (Kd.V_reads' HO1_2.out).2.1); rintro e w' ⟨rfl, ⟨nd, rfl⟩⟩))
  go_meet
  case rel => exact ⟨_, (t291), fx_, H', ⟨by first | omega | exact Nat.le_refl _⟩, ⟨by (with_reducible repeat (first | apply Kd.V_alloc | apply Kd.V_drewN | apply Kd.V_drew)); exact Kd.V_mono HO1_0.out (fun _ hk => ⟨hk.1.1.1, ⟨hk.1.1.2, hk.1.2⟩⟩)⟩, ⟨by (with_reducible repeat (first | apply Kd.V_alloc | apply Kd.V_drewN | apply Kd.V_drew)); exact Kd.V_mono HO1_1.out (fun _ hk => ⟨hk.1.1.1, ⟨hk.1.1.2, hk.1.2⟩⟩)⟩, ⟨by (with_reducible repeat (first | apply Kd.V_alloc | apply Kd.V_drewN | apply Kd.V_drew)); exact Kd.V_mono HO1_2.out (fun _ hk => ⟨hk.1.1.1, ⟨hk.1.1.2, hk.1.2⟩⟩)⟩, BK283, BK284, ⟨hb_ HB⟩⟩
 case rest => as_aux_lemma =>
  clear HC4
  obtain ⟨kq, x52_3, rfl, HA, HJ3, HO_284000, HO_284001, HO_284002, BK283, BK284, HB⟩ := hcut
  obtain _ | kj3 := kq
  ·exact absurd HA.out (by simp [Xb.j0])
  have H := HA.out
  clear HA
  simp only [Xb.j0] at H
  by_cases c37 : x52_3 = true
  ·subst c37
   have H1 : ((X2.f).bind fun t292 => (some t292)) = some r := by rw [if_pos rfl] at H; exact H
   clear H
   have H := H1
   clear H1
   replace H := Option.bind_eq_some_iff.mp H
   obtain ⟨t292, A380, H⟩ := H; (try dsimp only at H)
   have A38 := Xa.mk A380
   clear A380
   obtain rfl := Option.some.inj H
   go_wp2_with (first | ((with_reducible refine Xp (f := 15) rfl ?_); refine XL (some 53) rfl rfl Try.func15 (by kernel_rfl) rfl #[] rfl (by (try simp only [List.map_toArray, List.map_cons, List.map_nil]); first | done | rfl | (simp only [List.length_drop, List.length_take]; rfl)) ?_; (with_reducible refine (X2.calls  t292 _ A38.out).mono ?_); rintro e w39 ⟨rfl, hb⟩; refine ⟨_, rfl, ?_⟩; replace HO_284000 := Xa.mk (Kd.V_below (xo_ HO_284000) hb); replace HO_284001 := Xa.mk (Kd.V_below (xo_ HO_284001) hb); replace HO_284002 := Xa.mk (Kd.V_below (xo_ HO_284002) hb); replace BK283 := kb_ BK283 hb; replace BK284 := kb_ BK284 hb; replace HB := sb_ HB hb; (try clear hb); (try clear hb2); (try clear hk); (try clear hi)))
   go_ret
   exact ⟨by first | rfl | (simp [errW_none, errW_some] <;> rfl) | (simp [*, errW_none, errW_some] <;> rfl), by repeat (first | (with_reducible first | exact HB.out | apply Xs | apply Xo | apply Xl | refine XC ?_ (Xa.out (by assumption))) | exact HB.out)⟩
  replace c37 := Bool.eq_false_iff.mpr c37
  subst c37
  have H1 : ((YE.f l0).bind fun t293 => ((Ya.f l1_0).bind fun t296 => ((Ya.f l1_1).bind fun t299 => ((Ya.f l1_2).bind fun t302 => ((Yh.f t293 t302 a2_0 a2_1 a2_2).bind fun bt305 => ((Yw.f t293 t296 t299 t302).bind fun bt309 => ((XN.f kj3 t293 l0).bind fun t312 => (if t312 = true then ((Xw.f kj3 t296 l1_0).bind fun t313 => (if t313 = true then ((Xw.f kj3 t299 l1_1).bind fun t314 => (if t314 = true then ((Xw.f kj3 t302 l1_2).bind fun t315 => (Xb.j1 kj3 l0 bt305.1 bt305.2 bt309.1 bt309.2.1 bt309.2.2 (!t315) l1_0 l1_1 l1_2 a2_0 a2_1 a2_2)) else (Xb.j1 kj3 l0 bt305.1 bt305.2 bt309.1 bt309.2.1 bt309.2.2 true l1_0 l1_1 l1_2 a2_0 a2_1 a2_2))) else (Xb.j1 kj3 l0 bt305.1 bt305.2 bt309.1 bt309.2.1 bt309.2.2 true l1_0 l1_1 l1_2 a2_0 a2_1 a2_2))) else (Xb.j1 kj3 l0 bt305.1 bt305.2 bt309.1 bt309.2.1 bt309.2.2 true l1_0 l1_1 l1_2 a2_0 a2_1 a2_2))))))))) = some r := by rw [if_neg (show ¬ (false = true) by decide)] at H; exact H
  clear H
  have H := H1
  clear H1
  replace H := Option.bind_eq_some_iff.mp H
  obtain ⟨t293, A400, H⟩ := H; (try dsimp only at H)
  have A40 := Xa.mk A400
  clear A400
  replace H := Option.bind_eq_some_iff.mp H
  obtain ⟨t296, A410, H⟩ := H; (try dsimp only at H)
  have A41 := Xa.mk A410
  clear A410
  replace H := Option.bind_eq_some_iff.mp H
  obtain ⟨t299, A420, H⟩ := H; (try dsimp only at H)
  have A42 := Xa.mk A420
  clear A420
  replace H := Option.bind_eq_some_iff.mp H
  obtain ⟨t302, A430, H⟩ := H; (try dsimp only at H)
  have A43 := Xa.mk A430
  clear A430
  replace H := Option.bind_eq_some_iff.mp H
  obtain ⟨⟨t305, t308⟩, A440, H⟩ := H; (try dsimp only at H)
  have A44 := Xa.mk A440
  clear A440
  replace H := Option.bind_eq_some_iff.mp H
  obtain ⟨⟨t309, t310, t311⟩, A450, H⟩ := H; (try dsimp only at H)
  have A45 := Xa.mk A450
  clear A450
  have HC46 := Xa.mk H
  clear H
  try go_wp2
  replace HO_284000 := Xa.mk (Kd.V_drew HO_284000.out)
  replace HO_284001 := Xa.mk (Kd.V_drew HO_284001.out)
  replace HO_284002 := Xa.mk (Kd.V_drew HO_284002.out)
  replace BK283 := Xa.mk (X3 BK283.out)
  replace BK284 := Xa.mk (X3 BK284.out)
  replace HB := Xa.mk (Xl HB.out)
  refine Yy (n := 15) (S := fun w' => w'.cell? ⟨gb283, 0, none⟩ = some (.slice A1_0 l1_0.length c1_0) ∧ w'.cell? ⟨gb283, 1, none⟩ = some (.slice A1_1 l1_1.length c1_1) ∧ w'.cell? ⟨gb283, 2, none⟩ = some (.slice A1_2 l1_2.length c1_2)) (ds := []) #[ff, ff, ff, ff, ff, ff, ff, ff, ff, ff, ff, ff, ff, ff, ff] (by kernel_rfl) rfl rfl ⟨(Xe BK283.out 0).trans rfl, (Xe BK283.out 1).trans rfl, (Xe BK283.out 2).trans rfl⟩ (fun hHeld => ?_); refine X9 Xb.tab3 Xb.bits3 (fun HT_ HW_ => ?_)
  generalize wc.drew = w47 at HO_284000 HO_284001 HO_284002 BK283 BK284 HB hHeld ⊢
  refine pu_ 0 54 HT_ ?_
  refine pu_ 2 56 HT_ ?_
  refine pu_ 5 59 HT_ ?_
  refine pu_ 8 62 HT_ ?_
  refine tw_ 3 57 HT_ HW_ hHeld ?_
  refine tw_ 6 60 HT_ HW_ hHeld ?_
  refine tw_ 9 63 HT_ HW_ hHeld ?_
  refine one_ (i := 1) (N := some 55) #[tt, tt, tt, tt, ff, tt, tt, ff, tt, tt, ff, ff, ff, ff, ff] rfl rfl (Ys HT_.out (by kernel_rfl)) (by decide) (fun K hK => ?_)
  refine Y8 Try.func31 (by kernel_rfl) rfl #[.slice A0 l0.length c0] (by rfl) rfl rfl (by (try simp only [List.map_toArray, List.map_cons, List.map_nil]); first | done | rfl | (simp only [List.length_drop, List.length_take]; rfl)) ?_
  with_reducible refine (YE.calls _ _ l0 t293 _ ?side1 ?side2 A40.out).mono ?_
  (case side1 => exact cA_ (Kd.C_below HR0.out HB.out))
  (case side2 => exact HC0.out)
  rintro e w48 ⟨v294, rfl, ho0, hb⟩
  refine ⟨_, rfl, ?_⟩
  replace HO_284000 := Xa.mk (Kd.V_elder' (xo_ HO_284000) (Kd.R_base ho0) hb)
  replace HO_284001 := Xa.mk (Kd.V_elder' (xo_ HO_284001) (Kd.R_base ho0) hb)
  replace HO_284002 := Xa.mk (Kd.V_elder' (xo_ HO_284002) (Kd.R_base ho0) hb)
  have HO295 := Xa.mk (Kd.R_lower (Kd.R_newM (M := fun k_ => (w.heap.size ≤ k_)) ho0 (Xg (hb_ HB)) (fun k_ h_ => h_)) (Xg (hb_ HB)))
  replace BK283 := kb_ BK283 hb
  replace BK284 := kb_ BK284 hb
  replace HB := sb_ HB hb
  (try clear hb)
  (try clear hb2)
  (try clear hk)
  (try clear hi)
  (try clear ho0)
  refine hK.out _ _ ⟨(Xe BK283.out 0).trans rfl, (Xe BK283.out 1).trans rfl, (Xe BK283.out 2).trans rfl⟩ (fun hHeld => ?_)
  clear hK K
  refine Yr (a' := ?_) ?_ ?_
  rotate_left
  ·show Act.put _ (some 55) _ = _
   simp only [Act.put, sa_, s0_, s1_, XR, XS]
   rfl
  refine one_ (i := 4) (N := some 58) #[tt, tt, tt, tt, tt, tt, tt, ff, tt, tt, ff, ff, ff, ff, ff] rfl rfl (Ys HT_.out (by kernel_rfl)) (by decide) (fun K hK => ?_)
  refine Y8 Try.func39 (by kernel_rfl) rfl #[.slice A1_0 l1_0.length c1_0] (by rfl) rfl rfl (by (try simp only [List.map_toArray, List.map_cons, List.map_nil]); first | done | rfl | (simp only [List.length_drop, List.length_take]; rfl)) ?_
  with_reducible refine (Ya.calls _ _ l1_0 t296 _ ?side1 ?side2 A41.out).mono ?_
  (case side1 => exact cA_ (Kd.V_reads' HO_284000.out).2.2)
  (case side2 => exact (Kd.V_reads' HO_284000.out).2.1)
  rintro e w49 ⟨v297, rfl, ho0, hb⟩
  refine ⟨_, rfl, ?_⟩
  replace HO_284000 := Xa.mk (Kd.V_elder' (xo_ HO_284000) (Kd.R_base ho0) hb)
  replace HO_284001 := Xa.mk (Kd.V_elder' (xo_ HO_284001) (Kd.R_base ho0) hb)
  replace HO_284002 := Xa.mk (Kd.V_elder' (xo_ HO_284002) (Kd.R_base ho0) hb)
  replace HO295 := rb_ HO295 hb
  have HO298 := Xa.mk (Kd.R_lower (Kd.R_newM (M := fun k_ => (w.heap.size ≤ k_)) ho0 (Xg (hb_ HB)) (fun k_ h_ => h_)) (Xg (hb_ HB)))
  replace BK283 := kb_ BK283 hb
  replace BK284 := kb_ BK284 hb
  replace HB := sb_ HB hb
  (try clear hb)
  (try clear hb2)
  (try clear hk)
  (try clear hi)
  (try clear ho0)
  refine hK.out _ _ ⟨(Xe BK283.out 0).trans rfl, (Xe BK283.out 1).trans rfl, (Xe BK283.out 2).trans rfl⟩ (fun hHeld => ?_)
  clear hK K
  refine Yr (a' := ?_) ?_ ?_
  rotate_left
  ·show Act.put _ (some 58) _ = _
   simp only [Act.put, sa_, s0_, s1_, XR, XS]
   rfl
  refine one_ (i := 7) (N := some 61) #[tt, tt, tt, tt, tt, tt, tt, tt, tt, tt, ff, ff, ff, ff, ff] rfl rfl (Ys HT_.out (by kernel_rfl)) (by decide) (fun K hK => ?_)
  refine Y8 Try.func39 (by kernel_rfl) rfl #[.slice A1_1 l1_1.length c1_1] (by rfl) rfl rfl (by (try simp only [List.map_toArray, List.map_cons, List.map_nil]); first | done | rfl | (simp only [List.length_drop, List.length_take]; rfl)) ?_
  with_reducible refine (Ya.calls _ _ l1_1 t299 _ ?side1 ?side2 A42.out).mono ?_
  (case side1 => exact cA_ (Kd.V_reads' HO_284001.out).2.2)
  (case side2 => exact (Kd.V_reads' HO_284001.out).2.1)
  rintro e w50 ⟨v300, rfl, ho0, hb⟩
  refine ⟨_, rfl, ?_⟩
  replace HO_284000 := Xa.mk (Kd.V_elder' (xo_ HO_284000) (Kd.R_base ho0) hb)
  replace HO_284001 := Xa.mk (Kd.V_elder' (xo_ HO_284001) (Kd.R_base ho0) hb)
  replace HO_284002 := Xa.mk (Kd.V_elder' (xo_ HO_284002) (Kd.R_base ho0) hb)
  replace HO295 := rb_ HO295 hb
  have HO301 := Xa.mk (Kd.R_lower (Kd.R_new' (Kd.R_newM (M := fun k_ => (w.heap.size ≤ k_)) ho0 (Xg (hb_ HB)) (fun k_ h_ => h_)) (Kd.R_lt (ro_ HO298))) (Xg (hb_ HB)))
  replace HO298 := Xa.mk (Kd.R_elder' (ro_ HO298) (Kd.R_base ho0) hb)
  replace BK283 := kb_ BK283 hb
  replace BK284 := kb_ BK284 hb
  replace HB := sb_ HB hb
  (try clear hb)
  (try clear hb2)
  (try clear hk)
  (try clear hi)
  (try clear ho0)
  refine hK.out _ _ ⟨(Xe BK283.out 0).trans rfl, (Xe BK283.out 1).trans rfl, (Xe BK283.out 2).trans rfl⟩ (fun hHeld => ?_)
  clear hK K
  refine Yr (a' := ?_) ?_ ?_
  rotate_left
  ·show Act.put _ (some 61) _ = _
   simp only [Act.put, sa_, s0_, s1_, XR, XS]
   rfl
  refine one_ (i := 10) (N := some 64) #[tt, tt, tt, tt, tt, tt, tt, tt, tt, tt, tt, ff, ff, ff, ff] rfl rfl (Ys HT_.out (by kernel_rfl)) (by decide) (fun K hK => ?_)
  refine Y8 Try.func39 (by kernel_rfl) rfl #[.slice A1_2 l1_2.length c1_2] (by rfl) rfl rfl (by (try simp only [List.map_toArray, List.map_cons, List.map_nil]); first | done | rfl | (simp only [List.length_drop, List.length_take]; rfl)) ?_
  with_reducible refine (Ya.calls _ _ l1_2 t302 _ ?side1 ?side2 A43.out).mono ?_
  (case side1 => exact cA_ (Kd.V_reads' HO_284002.out).2.2)
  (case side2 => exact (Kd.V_reads' HO_284002.out).2.1)
  rintro e w51 ⟨v303, rfl, ho0, hb⟩
  refine ⟨_, rfl, ?_⟩
  replace HO_284000 := Xa.mk (Kd.V_elder' (xo_ HO_284000) (Kd.R_base ho0) hb)
  replace HO_284001 := Xa.mk (Kd.V_elder' (xo_ HO_284001) (Kd.R_base ho0) hb)
  replace HO_284002 := Xa.mk (Kd.V_elder' (xo_ HO_284002) (Kd.R_base ho0) hb)
  replace HO295 := rb_ HO295 hb
  have HO304 := Xa.mk (Kd.R_lower (Kd.R_new' (Kd.R_new' (Kd.R_newM (M := fun k_ => (w.heap.size ≤ k_)) ho0 (Xg (hb_ HB)) (fun k_ h_ => h_)) (Kd.R_lt (ro_ HO298))) (Kd.R_lt (ro_ HO301))) (Xg (hb_ HB)))
  replace HO298 := Xa.mk (Kd.R_elder' (ro_ HO298) (Kd.R_base ho0) hb)
  replace HO301 := Xa.mk (Kd.R_elder' (ro_ HO301) (Kd.R_base ho0) hb)
  replace BK283 := kb_ BK283 hb
  replace BK284 := kb_ BK284 hb
  replace HB := sb_ HB hb
  (try clear hb)
  (try clear hb2)
  (try clear hk)
  (try clear hi)
  (try clear ho0)
  refine hK.out _ _ ⟨(Xe BK283.out 0).trans rfl, (Xe BK283.out 1).trans rfl, (Xe BK283.out 2).trans rfl⟩ (fun hHeld => ?_)
  clear hK K
  refine Yr (a' := ?_) ?_ ?_
  rotate_left
  ·show Act.put _ (some 64) _ = _
   simp only [Act.put, sa_, s0_, s1_, XR, XS]
   rfl
  refine pu_ 11 7 HT_ ?_
  refine pu_ 12 8 HT_ ?_
  refine pu_ 13 9 HT_ ?_
  refine pu_ 14 10 HT_ ?_
  refine YS (Yo HT_.out (by kernel_rfl)) ?_
  have hnb52 := NB284_283.out
  have hnc52 := NB283_284.out
  obtain ⟨hcz53_0, hcz53_1, hcz53_2⟩ := bc3 BK284.out
  obtain ⟨hfz53_0, hfz53_1, hfz53_2⟩ := bf3 BK284.out
  obtain ⟨Ao54, co54, eo54⟩ := Kd.R_slice HO295.out
  subst eo54
  obtain ⟨Ao55, co55, eo55⟩ := Kd.R_slice HO304.out
  subst eo55
  go_upto_region 6 with (first | ((with_reducible refine Xp (f := 43) rfl ?_); refine XL (some 69) rfl rfl Try.func43 (by kernel_rfl) rfl #[.slice Ao54 t293.length co54, .slice Ao55 t302.length co55, .agg #[.int .i64 a2_0, .int .i64 a2_1, .int .i64 a2_2]] rfl (by (try simp only [List.map_toArray, List.map_cons, List.map_nil]); first | done | rfl | (simp only [List.length_drop, List.length_take]; rfl)) ?_; (with_reducible refine (Yh.calls _ _ t293 _ _ t302 a2_0 a2_1 a2_2 t305 t308 _ ?side1 ?side2 ?side3 ?side4 A44.out).mono ?_); (case side1 => exact cA_ (Kd.R_reads' HO295.out).2.2); (case side2 => exact (Kd.R_reads' HO295.out).2.1); (case side3 => exact cA_ (Kd.R_reads' HO304.out).2.2); (case side4 => exact (Kd.R_reads' HO304.out).2.1); rintro e w56 ⟨v306, rfl, ho0, hb⟩; refine ⟨_, rfl, ?_⟩; replace HO_284000 := Xa.mk (Kd.V_elder' (xo_ HO_284000) (Kd.R_base ho0) hb); replace HO_284001 := Xa.mk (Kd.V_elder' (xo_ HO_284001) (Kd.R_base ho0) hb); replace HO_284002 := Xa.mk (Kd.V_elder' (xo_ HO_284002) (Kd.R_base ho0) hb); replace HO295 := rb_ HO295 hb; replace HO298 := rb_ HO298 hb; replace HO301 := rb_ HO301 hb; replace HO304 := rb_ HO304 hb; have HO307 := Xa.mk (Kd.R_lower (Kd.R_newM (M := fun k_ => (w.heap.size ≤ k_)) ho0 (Xg (hb_ HB)) (fun k_ h_ => h_)) (Xg (hb_ HB))); replace BK283 := kb_ BK283 hb; replace BK284 := kb_ BK284 hb; replace HB := sb_ HB hb; (try clear hb); (try clear hb2); (try clear hk); (try clear hi); (try clear ho0); obtain ⟨Ao57, co57, eo57⟩ := Kd.R_slice HO298.out; subst eo57; obtain ⟨Ao58, co58, eo58⟩ := Kd.R_slice HO301.out; subst eo58) | ((with_reducible refine Xp (f := 44) rfl ?_); refine XL (some 77) rfl rfl Try.func44 (by kernel_rfl) rfl #[.slice Ao54 t293.length co54, .slice Ao57 t296.length co57, .slice Ao58 t299.length co58, .slice Ao55 t302.length co55] rfl (by (try simp only [List.map_toArray, List.map_cons, List.map_nil]); first | done | rfl | (simp only [List.length_drop, List.length_take]; rfl)) ?_; (with_reducible refine (Yw.calls _ _ t293 _ _ t296 _ _ t299 _ _ t302 t309 t310 t311 _ ?side1 ?side2 ?side3 ?side4 ?side5 ?side6 ?side7 ?side8 A45.out).mono ?_); (case side1 => exact cA_ (Kd.R_reads' HO295.out).2.2); (case side2 => exact (Kd.R_reads' HO295.out).2.1); (case side3 => exact cA_ (Kd.R_reads' HO298.out).2.2); (case side4 => exact (Kd.R_reads' HO298.out).2.1); (case side5 => exact cA_ (Kd.R_reads' HO301.out).2.2); (case side6 => exact (Kd.R_reads' HO301.out).2.1); (case side7 => exact cA_ (Kd.R_reads' HO304.out).2.2); (case side8 => exact (Kd.R_reads' HO304.out).2.1); rintro e w59 ⟨rfl, hb⟩; refine ⟨_, rfl, ?_⟩; replace HO_284000 := Xa.mk (Kd.V_below (xo_ HO_284000) hb); replace HO_284001 := Xa.mk (Kd.V_below (xo_ HO_284001) hb); replace HO_284002 := Xa.mk (Kd.V_below (xo_ HO_284002) hb); replace HO295 := rb_ HO295 hb; replace HO298 := rb_ HO298 hb; replace HO301 := rb_ HO301 hb; replace HO304 := rb_ HO304 hb; replace HO307 := rb_ HO307 hb; replace BK283 := kb_ BK283 hb; replace BK284 := kb_ BK284 hb; replace HB := sb_ HB hb; (try clear hb); (try clear hb2); (try clear hk); (try clear hi)))
  (try simp only [Act.put, sa_, s0_, s1_])
  go_cut [105] (fun v105 wc => ∃ (kq : Nat) (x105_45 : Bool), v105 = .bool x105_45 ∧ Xa (Xb.j1 kq l0 t305 t308 t309 t310 t311 x105_45 l1_0 l1_1 l1_2 a2_0 a2_1 a2_2 = some r) ∧ Xa (kq ≤ kj3) ∧ Xa (Kd.R (Kd.int .i64) 3 wc w.heap.size (fun k_ => (w.heap.size ≤ k_)) v306 t305) ∧ Xa (Kd.V k58 58 wc w.heap.size (fun k_ => ((P1_0_ k_ ∨ P1_1_ k_ ∨ P1_2_ k_) ∨ w.heap.size ≤ k_) ∧ some k_ ≠ (v306 : Value).ownBlock ∧ k_ ≠ gb283 ∧ k_ ≠ gb284) (.slice A1_0 l1_0.length c1_0) l1_0) ∧ Xa (Kd.V k58 58 wc w.heap.size (fun k_ => ((P1_0_ k_ ∨ P1_1_ k_ ∨ P1_2_ k_) ∨ w.heap.size ≤ k_) ∧ some k_ ≠ (v306 : Value).ownBlock ∧ k_ ≠ gb283 ∧ k_ ≠ gb284) (.slice A1_1 l1_1.length c1_1) l1_1) ∧ Xa (Kd.V k58 58 wc w.heap.size (fun k_ => ((P1_0_ k_ ∨ P1_1_ k_ ∨ P1_2_ k_) ∨ w.heap.size ≤ k_) ∧ some k_ ≠ (v306 : Value).ownBlock ∧ k_ ≠ gb283 ∧ k_ ≠ gb284) (.slice A1_2 l1_2.length c1_2) l1_2) ∧ Xa (wc.heap[gb283]? = some (.cells #[(.slice A1_0 l1_0.length c1_0), (.slice A1_1 l1_1.length c1_1), (.slice A1_2 l1_2.length c1_2)] 76 (0, 0))) ∧ Xa (wc.heap[gb284]? = some (.cells #[.int .i64 a2_0, .int .i64 a2_1, .int .i64 a2_2] 79 (0, 0))) ∧ Xa (Below w.heap.size w wc))
  case first => as_aux_lemma =>
   have H := HC46.out
   clear HC46
   replace H := Option.bind_eq_some_iff.mp H
   obtain ⟨t312, A600, H⟩ := H; (try dsimp only at H)
   have A60 := Xa.mk A600
   clear A600
   by_cases c61 : t312 = true
   ·subst c61
    have H1 : ((Xw.f kj3 t296 l1_0).bind fun t313 => (if t313 = true then ((Xw.f kj3 t299 l1_1).bind fun t314 => (if t314 = true then ((Xw.f kj3 t302 l1_2).bind fun t315 => (Xb.j1 kj3 l0 t305 t308 t309 t310 t311 (!t315) l1_0 l1_1 l1_2 a2_0 a2_1 a2_2)) else (Xb.j1 kj3 l0 t305 t308 t309 t310 t311 true l1_0 l1_1 l1_2 a2_0 a2_1 a2_2))) else (Xb.j1 kj3 l0 t305 t308 t309 t310 t311 true l1_0 l1_1 l1_2 a2_0 a2_1 a2_2))) = some r := by rw [if_pos rfl] at H; exact H
    clear H
    have H := H1
    clear H1
    replace H := Option.bind_eq_some_iff.mp H
    obtain ⟨t313, A620, H⟩ := H; (try dsimp only at H)
    have A62 := Xa.mk A620
    clear A620
    by_cases c63 : t313 = true
    ·subst c63
     have H1 : ((Xw.f kj3 t299 l1_1).bind fun t314 => (if t314 = true then ((Xw.f kj3 t302 l1_2).bind fun t315 => (Xb.j1 kj3 l0 t305 t308 t309 t310 t311 (!t315) l1_0 l1_1 l1_2 a2_0 a2_1 a2_2)) else (Xb.j1 kj3 l0 t305 t308 t309 t310 t311 true l1_0 l1_1 l1_2 a2_0 a2_1 a2_2))) = some r := by rw [if_pos rfl] at H; exact H
     clear H
     have H := H1
     clear H1
     replace H := Option.bind_eq_some_iff.mp H
     obtain ⟨t314, A640, H⟩ := H; (try dsimp only at H)
     have A64 := Xa.mk A640
     clear A640
     by_cases c65 : t314 = true
     ·subst c65
      have H1 : ((Xw.f kj3 t302 l1_2).bind fun t315 => (Xb.j1 kj3 l0 t305 t308 t309 t310 t311 (!t315) l1_0 l1_1 l1_2 a2_0 a2_1 a2_2)) = some r := by rw [if_pos rfl] at H; exact H
      clear H
      have H := H1
      clear H1
      replace H := Option.bind_eq_some_iff.mp H
      obtain ⟨t315, A660, H⟩ := H; (try dsimp only at H)
      have A66 := Xa.mk A660
      clear A660
      have H' := Xa.mk H
      clear H
      go_wp2_with (first | ((with_reducible refine Xp (f := 35) rfl ?_); refine XL (some 83) rfl rfl Try.func35 (by kernel_rfl) rfl #[.slice Ao54 t293.length co54, .slice A0 l0.length c0] rfl (by (try simp only [List.map_toArray, List.map_cons, List.map_nil]); first | done | rfl | (simp only [List.length_drop, List.length_take]; rfl)) ?_; (with_reducible refine (XN.calls kj3 _ _ t293 _ _ l0 true _ ?side1 ?side2 ?side3 ?side4 A60.out).mono ?_); (case side1 => exact cA_ (Kd.R_reads' HO295.out).2.2); (case side2 => exact (Kd.R_reads' HO295.out).2.1); (case side3 => exact cA_ (Kd.C_below HR0.out HB.out)); (case side4 => exact HC0.out); rintro e w' ⟨rfl, ⟨nd, rfl⟩⟩; refine ⟨_, rfl, ?_⟩; have hnb67 := NB283_284.out; have hnc67 := NB284_283.out; obtain ⟨hcz68_0, hcz68_1, hcz68_2⟩ := bc3 BK283.out; obtain ⟨hfz68_0, hfz68_1, hfz68_2⟩ := bf3 BK283.out) | (go_at_call 42; (with_reducible refine (Xw.calls kj3 _ _ t296 _ _ l1_0 true _ ?side1 ?side2 ?side3 ?side4 A62.out).mono ?_); (case side1 => exact cA_ (Kd.R_reads' HO298.out).2.2); (case side2 => exact (Kd.R_reads' HO298.out).2.1); (case side3 => exact cA_ (Kd.V_reads' HO_284000.out).2.2); (case side4 => exact (Kd.V_reads' HO_284000.out).2.1); rintro e w' ⟨rfl, ⟨nd, rfl⟩⟩) | (go_at_call 42; (with_reducible refine (Xw.calls kj3 _ _ t299 _ _ l1_1 true _ ?side1 ?side2 ?side3 ?side4 A64.out).mono ?_); (case side1 => exact cA_ (Kd.R_reads' HO301.out).2.2); (case side2 => exact (Kd.R_reads' HO301.out).2.1); (case side3 => exact cA_ (Kd.V_reads' HO_284001.out).2.2); (case side4 => exact (Kd.V_reads' HO_284001.out).2.1); rintro e w' ⟨rfl, ⟨nd, rfl⟩⟩) | (go_at_call 42; (with_reducible refine (Xw.calls kj3 _ _ t302 _ _ l1_2 t315 _ ?side1 ?side2 ?side3 ?side4 A66.out).mono ?_); (case side1 => exact cA_ (Kd.R_reads' HO304.out).2.2); (case side2 => exact (Kd.R_reads' HO304.out).2.1); (case side3 => exact cA_ (Kd.V_reads' HO_284002.out).2.2); (case side4 => exact (Kd.V_reads' HO_284002.out).2.1); rintro e w' ⟨rfl, ⟨nd, rfl⟩⟩))
      go_meet
      case rel => exact ⟨_, (!t315), fx_, H', ⟨by have := HJ3.out; first | omega | exact Nat.le_refl _⟩, ⟨by (with_reducible repeat (first | apply Kd.R_alloc | apply Kd.R_drewN | apply Kd.R_drew)); exact Kd.R_mono HO307.out (fun _ hk => hk.1)⟩, ⟨by (with_reducible repeat (first | apply Kd.V_alloc | apply Kd.V_drewN | apply Kd.V_drew)); exact Kd.V_mono HO_284000.out (fun _ hk => ⟨hk.1.1.1.1.1.1, ⟨hk.2, ⟨hk.1.1.1.1.1.2.1, hk.1.1.1.1.1.2.2⟩⟩⟩)⟩, ⟨by (with_reducible repeat (first | apply Kd.V_alloc | apply Kd.V_drewN | apply Kd.V_drew)); exact Kd.V_mono HO_284001.out (fun _ hk => ⟨hk.1.1.1.1.1.1, ⟨hk.2, ⟨hk.1.1.1.1.1.2.1, hk.1.1.1.1.1.2.2⟩⟩⟩)⟩, ⟨by (with_reducible repeat (first | apply Kd.V_alloc | apply Kd.V_drewN | apply Kd.V_drew)); exact Kd.V_mono HO_284002.out (fun _ hk => ⟨hk.1.1.1.1.1.1, ⟨hk.2, ⟨hk.1.1.1.1.1.2.1, hk.1.1.1.1.1.2.2⟩⟩⟩)⟩, BK283, BK284, ⟨hb_ HB⟩⟩
     replace c65 := Bool.eq_false_iff.mpr c65
     subst c65
     have H1 : (Xb.j1 kj3 l0 t305 t308 t309 t310 t311 true l1_0 l1_1 l1_2 a2_0 a2_1 a2_2) = some r := by rw [if_neg (show ¬ (false = true) by decide)] at H; exact H
     clear H
     have H := H1
     clear H1
     have H' := Xa.mk H
     clear H
     go_wp2_with (first | ((with_reducible refine Xp (f := 35) rfl ?_); refine XL (some 83) rfl rfl Try.func35 (by kernel_rfl) rfl #[.slice Ao54 t293.length co54, .slice A0 l0.length c0] rfl (by (try simp only [List.map_toArray, List.map_cons, List.map_nil]); first | done | rfl | (simp only [List.length_drop, List.length_take]; rfl)) ?_; (with_reducible refine (XN.calls kj3 _ _ t293 _ _ l0 true _ ?side1 ?side2 ?side3 ?side4 A60.out).mono ?_); (case side1 => exact cA_ (Kd.R_reads' HO295.out).2.2); (case side2 => exact (Kd.R_reads' HO295.out).2.1); (case side3 => exact cA_ (Kd.C_below HR0.out HB.out)); (case side4 => exact HC0.out); rintro e w' ⟨rfl, ⟨nd, rfl⟩⟩; refine ⟨_, rfl, ?_⟩; have hnb69 := NB283_284.out; have hnc69 := NB284_283.out; obtain ⟨hcz70_0, hcz70_1, hcz70_2⟩ := bc3 BK283.out; obtain ⟨hfz70_0, hfz70_1, hfz70_2⟩ := bf3 BK283.out) | (go_at_call 42; (with_reducible refine (Xw.calls kj3 _ _ t296 _ _ l1_0 true _ ?side1 ?side2 ?side3 ?side4 A62.out).mono ?_); (case side1 => exact cA_ (Kd.R_reads' HO298.out).2.2); (case side2 => exact (Kd.R_reads' HO298.out).2.1); (case side3 => exact cA_ (Kd.V_reads' HO_284000.out).2.2); (case side4 => exact (Kd.V_reads' HO_284000.out).2.1); rintro e w' ⟨rfl, ⟨nd, rfl⟩⟩) | (go_at_call 42; (with_reducible refine (Xw.calls kj3 _ _ t299 _ _ l1_1 false _ ?side1 ?side2 ?side3 ?side4 A64.out).mono ?_); (case side1 => exact cA_ (Kd.R_reads' HO301.out).2.2); (case side2 => exact (Kd.R_reads' HO301.out).2.1); (case side3 => exact cA_ (Kd.V_reads' HO_284001.out).2.2); (case side4 => exact (Kd.V_reads' HO_284001.out).2.1); rintro e w' ⟨rfl, ⟨nd, rfl⟩⟩))
     go_meet
     case rel => exact ⟨_, (true), fx_, H', ⟨by have := HJ3.out; first | omega | exact Nat.le_refl _⟩, ⟨by (with_reducible repeat (first | apply Kd.R_alloc | apply Kd.R_drewN | apply Kd.R_drew)); exact Kd.R_mono HO307.out (fun _ hk => hk.1)⟩, ⟨by (with_reducible repeat (first | apply Kd.V_alloc | apply Kd.V_drewN | apply Kd.V_drew)); exact Kd.V_mono HO_284000.out (fun _ hk => ⟨hk.1.1.1.1.1.1, ⟨hk.2, ⟨hk.1.1.1.1.1.2.1, hk.1.1.1.1.1.2.2⟩⟩⟩)⟩, ⟨by (with_reducible repeat (first | apply Kd.V_alloc | apply Kd.V_drewN | apply Kd.V_drew)); exact Kd.V_mono HO_284001.out (fun _ hk => ⟨hk.1.1.1.1.1.1, ⟨hk.2, ⟨hk.1.1.1.1.1.2.1, hk.1.1.1.1.1.2.2⟩⟩⟩)⟩, ⟨by (with_reducible repeat (first | apply Kd.V_alloc | apply Kd.V_drewN | apply Kd.V_drew)); exact Kd.V_mono HO_284002.out (fun _ hk => ⟨hk.1.1.1.1.1.1, ⟨hk.2, ⟨hk.1.1.1.1.1.2.1, hk.1.1.1.1.1.2.2⟩⟩⟩)⟩, BK283, BK284, ⟨hb_ HB⟩⟩
    replace c63 := Bool.eq_false_iff.mpr c63
    subst c63
    have H1 : (Xb.j1 kj3 l0 t305 t308 t309 t310 t311 true l1_0 l1_1 l1_2 a2_0 a2_1 a2_2) = some r := by rw [if_neg (show ¬ (false = true) by decide)] at H; exact H
    clear H
    have H := H1
    clear H1
    have H' := Xa.mk H
    clear H
    go_wp2_with (first | ((with_reducible refine Xp (f := 35) rfl ?_); refine XL (some 83) rfl rfl Try.func35 (by kernel_rfl) rfl #[.slice Ao54 t293.length co54, .slice A0 l0.length c0] rfl (by (try simp only [List.map_toArray, List.map_cons, List.map_nil]); first | done | rfl | (simp only [List.length_drop, List.length_take]; rfl)) ?_; (with_reducible refine (XN.calls kj3 _ _ t293 _ _ l0 true _ ?side1 ?side2 ?side3 ?side4 A60.out).mono ?_); (case side1 => exact cA_ (Kd.R_reads' HO295.out).2.2); (case side2 => exact (Kd.R_reads' HO295.out).2.1); (case side3 => exact cA_ (Kd.C_below HR0.out HB.out)); (case side4 => exact HC0.out); rintro e w' ⟨rfl, ⟨nd, rfl⟩⟩; refine ⟨_, rfl, ?_⟩; have hnb71 := NB283_284.out; have hnc71 := NB284_283.out; obtain ⟨hcz72_0, hcz72_1, hcz72_2⟩ := bc3 BK283.out; obtain ⟨hfz72_0, hfz72_1, hfz72_2⟩ := bf3 BK283.out) | (go_at_call 42; (with_reducible refine (Xw.calls kj3 _ _ t296 _ _ l1_0 false _ ?side1 ?side2 ?side3 ?side4 A62.out).mono ?_); (case side1 => exact cA_ (Kd.R_reads' HO298.out).2.2); (case side2 => exact (Kd.R_reads' HO298.out).2.1); (case side3 => exact cA_ (Kd.V_reads' HO_284000.out).2.2); (case side4 => exact (Kd.V_reads' HO_284000.out).2.1); rintro e w' ⟨rfl, ⟨nd, rfl⟩⟩))
    go_meet
    case rel => exact ⟨_, (true), fx_, H', ⟨by have := HJ3.out; first | omega | exact Nat.le_refl _⟩, ⟨by (with_reducible repeat (first | apply Kd.R_alloc | apply Kd.R_drewN | apply Kd.R_drew)); exact Kd.R_mono HO307.out (fun _ hk => hk.1)⟩, ⟨by (with_reducible repeat (first | apply Kd.V_alloc | apply Kd.V_drewN | apply Kd.V_drew)); exact Kd.V_mono HO_284000.out (fun _ hk => ⟨hk.1.1.1.1.1.1, ⟨hk.2, ⟨hk.1.1.1.1.1.2.1, hk.1.1.1.1.1.2.2⟩⟩⟩)⟩, ⟨by (with_reducible repeat (first | apply Kd.V_alloc | apply Kd.V_drewN | apply Kd.V_drew)); exact Kd.V_mono HO_284001.out (fun _ hk => ⟨hk.1.1.1.1.1.1, ⟨hk.2, ⟨hk.1.1.1.1.1.2.1, hk.1.1.1.1.1.2.2⟩⟩⟩)⟩, ⟨by (with_reducible repeat (first | apply Kd.V_alloc | apply Kd.V_drewN | apply Kd.V_drew)); exact Kd.V_mono HO_284002.out (fun _ hk => ⟨hk.1.1.1.1.1.1, ⟨hk.2, ⟨hk.1.1.1.1.1.2.1, hk.1.1.1.1.1.2.2⟩⟩⟩)⟩, BK283, BK284, ⟨hb_ HB⟩⟩
   replace c61 := Bool.eq_false_iff.mpr c61
   subst c61
   have H1 : (Xb.j1 kj3 l0 t305 t308 t309 t310 t311 true l1_0 l1_1 l1_2 a2_0 a2_1 a2_2) = some r := by rw [if_neg (show ¬ (false = true) by decide)] at H; exact H
   clear H
   have H := H1
   clear H1
   have H' := Xa.mk H
   clear H
   go_wp2_with (first | ((with_reducible refine Xp (f := 35) rfl ?_); refine XL (some 83) rfl rfl Try.func35 (by kernel_rfl) rfl #[.slice Ao54 t293.length co54, .slice A0 l0.length c0] rfl (by (try simp only [List.map_toArray, List.map_cons, List.map_nil]); first | done | rfl | (simp only [List.length_drop, List.length_take]; rfl)) ?_; (with_reducible refine (XN.calls kj3 _ _ t293 _ _ l0 false _ ?side1 ?side2 ?side3 ?side4 A60.out).mono ?_); (case side1 => exact cA_ (Kd.R_reads' HO295.out).2.2); (case side2 => exact (Kd.R_reads' HO295.out).2.1); (case side3 => exact cA_ (Kd.C_below HR0.out HB.out)); (case side4 => exact HC0.out); rintro e w' ⟨rfl, ⟨nd, rfl⟩⟩; refine ⟨_, rfl, ?_⟩))
   go_meet
   case rel => exact ⟨_, (true), fx_, H', ⟨by have := HJ3.out; first | omega | exact Nat.le_refl _⟩, ⟨by (with_reducible repeat (first | apply Kd.R_alloc | apply Kd.R_drewN | apply Kd.R_drew)); exact Kd.R_mono HO307.out (fun _ hk => hk.1)⟩, ⟨by (with_reducible repeat (first | apply Kd.V_alloc | apply Kd.V_drewN | apply Kd.V_drew)); exact Kd.V_mono HO_284000.out (fun _ hk => ⟨hk.1.1.1.1.1.1, ⟨hk.2, ⟨hk.1.1.1.1.1.2.1, hk.1.1.1.1.1.2.2⟩⟩⟩)⟩, ⟨by (with_reducible repeat (first | apply Kd.V_alloc | apply Kd.V_drewN | apply Kd.V_drew)); exact Kd.V_mono HO_284001.out (fun _ hk => ⟨hk.1.1.1.1.1.1, ⟨hk.2, ⟨hk.1.1.1.1.1.2.1, hk.1.1.1.1.1.2.2⟩⟩⟩)⟩, ⟨by (with_reducible repeat (first | apply Kd.V_alloc | apply Kd.V_drewN | apply Kd.V_drew)); exact Kd.V_mono HO_284002.out (fun _ hk => ⟨hk.1.1.1.1.1.1, ⟨hk.2, ⟨hk.1.1.1.1.1.2.1, hk.1.1.1.1.1.2.2⟩⟩⟩)⟩, BK283, BK284, ⟨hb_ HB⟩⟩
  case rest => as_aux_lemma =>
   clear HC46
   clear hcz53_0 hcz53_1 hcz53_2 hfz53_0 hfz53_1 hfz53_2
   obtain ⟨kq, x105_45, rfl, HA, HJ45, HO_11, HO_284000, HO_284001, HO_284002, BK283, BK284, HB⟩ := hcut
   obtain _ | kj45 := kq
   ·exact absurd HA.out (by simp [Xb.j1])
   have H := HA.out
   clear HA
   simp only [Xb.j1] at H
   by_cases c73 : x105_45 = true
   ·subst c73
    have H1 : (none) = some r := by rw [if_pos rfl] at H; exact H
    clear H
    have H := H1
    clear H1
    exact absurd H (by simp)
   replace c73 := Bool.eq_false_iff.mpr c73
   subst c73
   have H1 : ((Xf.f kj45 l0 l1_0 l1_1).bind fun bt316 => ((Xk.f kj45 l0).bind fun t320 => (if (l1_2.length : Int) > 40 then (if t320 = 0 then (if bt316.2 = 0 then (Xb.j2 kj45 l0 t305 t308 t309 t310 t311 bt316.1 5 5 l1_0 l1_1 l1_2 a2_0 a2_1 a2_2) else (Xb.j2 kj45 l0 t305 t308 t309 t310 t311 bt316.1 bt316.2 5 l1_0 l1_1 l1_2 a2_0 a2_1 a2_2)) else (if bt316.2 = 0 then (Xb.j2 kj45 l0 t305 t308 t309 t310 t311 bt316.1 5 t320 l1_0 l1_1 l1_2 a2_0 a2_1 a2_2) else (Xb.j2 kj45 l0 t305 t308 t309 t310 t311 bt316.1 bt316.2 t320 l1_0 l1_1 l1_2 a2_0 a2_1 a2_2))) else (Xb.j2 kj45 l0 t305 t308 t309 t310 t311 bt316.1 bt316.2 t320 l1_0 l1_1 l1_2 a2_0 a2_1 a2_2)))) = some r := by rw [if_neg (show ¬ (false = true) by decide)] at H; exact H
   clear H
   have H := H1
   clear H1
   replace H := Option.bind_eq_some_iff.mp H
   obtain ⟨⟨t316, t317⟩, A740, H⟩ := H; (try dsimp only at H)
   have A74 := Xa.mk A740
   clear A740
   replace H := Option.bind_eq_some_iff.mp H
   obtain ⟨t320, A750, H⟩ := H; (try dsimp only at H)
   have A75 := Xa.mk A750
   clear A750
   have HC76 := Xa.mk H
   clear H
   have hnb77 := NB283_284.out
   have hnc77 := NB284_283.out
   obtain ⟨hcz78_0, hcz78_1, hcz78_2⟩ := bc3 BK283.out
   obtain ⟨hfz78_0, hfz78_1, hfz78_2⟩ := bf3 BK283.out
   go_upto_if 120 with (first | ((with_reducible refine Xp (f := 41) rfl ?_); refine XL (some 112) rfl rfl Try.func41 (by kernel_rfl) rfl #[.slice A0 l0.length c0, .slice A1_0 l1_0.length c1_0, .slice A1_1 l1_1.length c1_1] rfl (by (try simp only [List.map_toArray, List.map_cons, List.map_nil]); first | done | rfl | (simp only [List.length_drop, List.length_take]; rfl)) ?_; (with_reducible refine (Xf.calls kj45 _ _ l0 _ _ l1_0 _ _ l1_1 t316 t317 _ ?side1 ?side2 ?side3 ?side4 ?side5 ?side6 A74.out).mono ?_); (case side1 => exact cA_ (Kd.C_below HR0.out HB.out)); (case side2 => exact HC0.out); (case side3 => exact cA_ (Kd.V_reads' HO_284000.out).2.2); (case side4 => exact (Kd.V_reads' HO_284000.out).2.1); (case side5 => exact cA_ (Kd.V_reads' HO_284001.out).2.2); (case side6 => exact (Kd.V_reads' HO_284001.out).2.1); rintro e w79 ⟨v318, rfl, ho0, hb⟩; refine ⟨_, rfl, ?_⟩; replace HO_11 := rb_ HO_11 hb; replace HO_284000 := Xa.mk (Kd.V_elder' (xo_ HO_284000) (Kd.R_base ho0) hb); replace HO_284001 := Xa.mk (Kd.V_elder' (xo_ HO_284001) (Kd.R_base ho0) hb); replace HO_284002 := Xa.mk (Kd.V_elder' (xo_ HO_284002) (Kd.R_base ho0) hb); have HO319 := Xa.mk (Kd.R_lower (Kd.R_newB (Kd.R_newM (M := fun k_ => (w.heap.size ≤ k_)) ho0 (Xg (hb_ HB)) (fun k_ h_ => h_)) (g := gb284) (o := .cells #[.int .i64 a2_0, .int .i64 a2_1, .int .i64 a2_2] 79 (0, 0)) (bk_ BK284)) (Xg (hb_ HB))); replace BK283 := kb_ BK283 hb; replace BK284 := kb_ BK284 hb; replace HB := sb_ HB hb; (try clear hb); (try clear hb2); (try clear hk); (try clear hi); (try clear ho0)) | ((with_reducible refine Xp (f := 34) rfl ?_); refine XL (some 116) rfl rfl Try.func34 (by kernel_rfl) rfl #[.slice A0 l0.length c0] rfl (by (try simp only [List.map_toArray, List.map_cons, List.map_nil]); first | done | rfl | (simp only [List.length_drop, List.length_take]; rfl)) ?_; (with_reducible refine (Xk.calls kj45 _ _ l0 t320 _ ?side1 ?side2 A75.out).mono ?_); (case side1 => exact cA_ (Kd.C_below HR0.out HB.out)); (case side2 => exact HC0.out); rintro e w80 ⟨rfl, hb⟩; refine ⟨_, rfl, ?_⟩; replace HO_11 := rb_ HO_11 hb; replace HO_284000 := Xa.mk (Kd.V_below (xo_ HO_284000) hb); replace HO_284001 := Xa.mk (Kd.V_below (xo_ HO_284001) hb); replace HO_284002 := Xa.mk (Kd.V_below (xo_ HO_284002) hb); replace HO319 := rb_ HO319 hb; replace BK283 := kb_ BK283 hb; replace BK284 := kb_ BK284 hb; replace HB := sb_ HB hb; (try clear hb); (try clear hb2); (try clear hk); (try clear hi); obtain ⟨hcz81_0, hcz81_1, hcz81_2⟩ := bc3 BK283.out; obtain ⟨hfz81_0, hfz81_1, hfz81_2⟩ := bf3 BK283.out))
   (try simp only [Act.put, sa_, s0_, s1_])
   go_cut [17, 18] (fun v17 v18 wc => ∃ (kq : Nat) (x17_75 : Int) (x18_75 : Int), v17 = .int .i64 x17_75 ∧ v18 = .int .i64 x18_75 ∧ Xa (Xb.j2 kq l0 t305 t308 t309 t310 t311 t316 x17_75 x18_75 l1_0 l1_1 l1_2 a2_0 a2_1 a2_2 = some r) ∧ Xa (kq ≤ kj45) ∧ Xa (Kd.R (Kd.int .i64) 3 wc w.heap.size (fun k_ => (w.heap.size ≤ k_)) v306 t305) ∧ Xa (Kd.R k79 79 wc w.heap.size (fun k_ => (w.heap.size ≤ k_) ∧ k_ ≠ gb284) v318 t316) ∧ Xa (Kd.V k58 58 wc w.heap.size (fun k_ => ((P1_0_ k_ ∨ P1_1_ k_ ∨ P1_2_ k_) ∨ w.heap.size ≤ k_) ∧ some k_ ≠ (v306 : Value).ownBlock ∧ some k_ ≠ (v318 : Value).ownBlock ∧ k_ ≠ gb283 ∧ k_ ≠ gb284) (.slice A1_0 l1_0.length c1_0) l1_0) ∧ Xa (Kd.V k58 58 wc w.heap.size (fun k_ => ((P1_0_ k_ ∨ P1_1_ k_ ∨ P1_2_ k_) ∨ w.heap.size ≤ k_) ∧ some k_ ≠ (v306 : Value).ownBlock ∧ some k_ ≠ (v318 : Value).ownBlock ∧ k_ ≠ gb283 ∧ k_ ≠ gb284) (.slice A1_1 l1_1.length c1_1) l1_1) ∧ Xa (Kd.V k58 58 wc w.heap.size (fun k_ => ((P1_0_ k_ ∨ P1_1_ k_ ∨ P1_2_ k_) ∨ w.heap.size ≤ k_) ∧ some k_ ≠ (v306 : Value).ownBlock ∧ some k_ ≠ (v318 : Value).ownBlock ∧ k_ ≠ gb283 ∧ k_ ≠ gb284) (.slice A1_2 l1_2.length c1_2) l1_2) ∧ Xa (wc.heap[gb283]? = some (.cells #[(.slice A1_0 l1_0.length c1_0), (.slice A1_1 l1_1.length c1_1), (.slice A1_2 l1_2.length c1_2)] 76 (0, 0))) ∧ Xa (wc.heap[gb284]? = some (.cells #[.int .i64 a2_0, .int .i64 a2_1, .int .i64 a2_2] 79 (0, 0))) ∧ Xa (Below w.heap.size w wc))
   case first => as_aux_lemma =>
    have H := HC76.out
    clear HC76
    by_cases c82 : (l1_2.length : Int) > 40
    ·rw [if_pos c82] at H
     have c82b0 : decide (40 < (l1_2.length : Int)) = true := decide_eq_true c82
     have c82b1 : decide (40 < l1_2.length) = true := decide_eq_true (by omega)
     clear c82
     (first | rw [c82b0] | (simp only [XR, XS]; rw [c82b0]) | skip)
     by_cases c83 : t320 = 0
     ·rw [if_pos c83] at H
      have c83b0 : (t320 == 0) = true := beq_iff_eq.mpr c83
      have c83b1 : (t320 != 0) = false := bne_eq_false_iff_eq.mpr c83
      clear c83
      by_cases c84 : t317 = 0
      ·rw [if_pos c84] at H
       have c84b0 : (t317 == 0) = true := beq_iff_eq.mpr c84
       have c84b1 : (t317 != 0) = false := bne_eq_false_iff_eq.mpr c84
       clear c84
       have H' := Xa.mk H
       clear H
       go_wp2
       go_meet
       case rel => exact ⟨_, (5), (5), fx_, fx_, H', ⟨by have := HJ3.out; have := HJ45.out; first | omega | exact Nat.le_refl _⟩, ⟨ro_ HO_11⟩, ⟨by (with_reducible repeat (first | apply Kd.R_alloc | apply Kd.R_drewN | apply Kd.R_drew)); exact Kd.R_mono HO319.out (fun _ hk => ⟨hk.1.1, hk.2⟩)⟩, ⟨by (with_reducible repeat (first | apply Kd.V_alloc | apply Kd.V_drewN | apply Kd.V_drew)); exact Kd.V_mono HO_284000.out (fun _ hk => ⟨hk.1.1, ⟨hk.1.2.1, ⟨hk.2, ⟨hk.1.2.2.1, hk.1.2.2.2⟩⟩⟩⟩)⟩, ⟨by (with_reducible repeat (first | apply Kd.V_alloc | apply Kd.V_drewN | apply Kd.V_drew)); exact Kd.V_mono HO_284001.out (fun _ hk => ⟨hk.1.1, ⟨hk.1.2.1, ⟨hk.2, ⟨hk.1.2.2.1, hk.1.2.2.2⟩⟩⟩⟩)⟩, ⟨by (with_reducible repeat (first | apply Kd.V_alloc | apply Kd.V_drewN | apply Kd.V_drew)); exact Kd.V_mono HO_284002.out (fun _ hk => ⟨hk.1.1, ⟨hk.1.2.1, ⟨hk.2, ⟨hk.1.2.2.1, hk.1.2.2.2⟩⟩⟩⟩)⟩, BK283, BK284, ⟨hb_ HB⟩⟩
      rw [if_neg c84] at H
      have c84b0 : (t317 == 0) = false := beq_eq_false_iff_ne.mpr c84
      have c84b1 : (t317 != 0) = true := bne_iff_ne.mpr c84
      have H' := Xa.mk H
      clear H
      go_wp2
      go_meet
      case rel => exact ⟨_, (t317), (5), fx_, fx_, H', ⟨by have := HJ3.out; have := HJ45.out; first | omega | exact Nat.le_refl _⟩, ⟨ro_ HO_11⟩, ⟨by (with_reducible repeat (first | apply Kd.R_alloc | apply Kd.R_drewN | apply Kd.R_drew)); exact Kd.R_mono HO319.out (fun _ hk => ⟨hk.1.1, hk.2⟩)⟩, ⟨by (with_reducible repeat (first | apply Kd.V_alloc | apply Kd.V_drewN | apply Kd.V_drew)); exact Kd.V_mono HO_284000.out (fun _ hk => ⟨hk.1.1, ⟨hk.1.2.1, ⟨hk.2, ⟨hk.1.2.2.1, hk.1.2.2.2⟩⟩⟩⟩)⟩, ⟨by (with_reducible repeat (first | apply Kd.V_alloc | apply Kd.V_drewN | apply Kd.V_drew)); exact Kd.V_mono HO_284001.out (fun _ hk => ⟨hk.1.1, ⟨hk.1.2.1, ⟨hk.2, ⟨hk.1.2.2.1, hk.1.2.2.2⟩⟩⟩⟩)⟩, ⟨by (with_reducible repeat (first | apply Kd.V_alloc | apply Kd.V_drewN | apply Kd.V_drew)); exact Kd.V_mono HO_284002.out (fun _ hk => ⟨hk.1.1, ⟨hk.1.2.1, ⟨hk.2, ⟨hk.1.2.2.1, hk.1.2.2.2⟩⟩⟩⟩)⟩, BK283, BK284, ⟨hb_ HB⟩⟩
     rw [if_neg c83] at H
     have c83b0 : (t320 == 0) = false := beq_eq_false_iff_ne.mpr c83
     have c83b1 : (t320 != 0) = true := bne_iff_ne.mpr c83
     by_cases c85 : t317 = 0
     ·rw [if_pos c85] at H
      have c85b0 : (t317 == 0) = true := beq_iff_eq.mpr c85
      have c85b1 : (t317 != 0) = false := bne_eq_false_iff_eq.mpr c85
      clear c85
      have H' := Xa.mk H
      clear H
      go_wp2
      go_meet
      case rel => exact ⟨_, (5), (t320), fx_, fx_, H', ⟨by have := HJ3.out; have := HJ45.out; first | omega | exact Nat.le_refl _⟩, ⟨ro_ HO_11⟩, ⟨by (with_reducible repeat (first | apply Kd.R_alloc | apply Kd.R_drewN | apply Kd.R_drew)); exact Kd.R_mono HO319.out (fun _ hk => ⟨hk.1.1, hk.2⟩)⟩, ⟨by (with_reducible repeat (first | apply Kd.V_alloc | apply Kd.V_drewN | apply Kd.V_drew)); exact Kd.V_mono HO_284000.out (fun _ hk => ⟨hk.1.1, ⟨hk.1.2.1, ⟨hk.2, ⟨hk.1.2.2.1, hk.1.2.2.2⟩⟩⟩⟩)⟩, ⟨by (with_reducible repeat (first | apply Kd.V_alloc | apply Kd.V_drewN | apply Kd.V_drew)); exact Kd.V_mono HO_284001.out (fun _ hk => ⟨hk.1.1, ⟨hk.1.2.1, ⟨hk.2, ⟨hk.1.2.2.1, hk.1.2.2.2⟩⟩⟩⟩)⟩, ⟨by (with_reducible repeat (first | apply Kd.V_alloc | apply Kd.V_drewN | apply Kd.V_drew)); exact Kd.V_mono HO_284002.out (fun _ hk => ⟨hk.1.1, ⟨hk.1.2.1, ⟨hk.2, ⟨hk.1.2.2.1, hk.1.2.2.2⟩⟩⟩⟩)⟩, BK283, BK284, ⟨hb_ HB⟩⟩
     rw [if_neg c85] at H
     have c85b0 : (t317 == 0) = false := beq_eq_false_iff_ne.mpr c85
     have c85b1 : (t317 != 0) = true := bne_iff_ne.mpr c85
     have H' := Xa.mk H
     clear H
     go_wp2
     go_meet
     case rel => exact ⟨_, (t317), (t320), fx_, fx_, H', ⟨by have := HJ3.out; have := HJ45.out; first | omega | exact Nat.le_refl _⟩, ⟨ro_ HO_11⟩, ⟨by (with_reducible repeat (first | apply Kd.R_alloc | apply Kd.R_drewN | apply Kd.R_drew)); exact Kd.R_mono HO319.out (fun _ hk => ⟨hk.1.1, hk.2⟩)⟩, ⟨by (with_reducible repeat (first | apply Kd.V_alloc | apply Kd.V_drewN | apply Kd.V_drew)); exact Kd.V_mono HO_284000.out (fun _ hk => ⟨hk.1.1, ⟨hk.1.2.1, ⟨hk.2, ⟨hk.1.2.2.1, hk.1.2.2.2⟩⟩⟩⟩)⟩, ⟨by (with_reducible repeat (first | apply Kd.V_alloc | apply Kd.V_drewN | apply Kd.V_drew)); exact Kd.V_mono HO_284001.out (fun _ hk => ⟨hk.1.1, ⟨hk.1.2.1, ⟨hk.2, ⟨hk.1.2.2.1, hk.1.2.2.2⟩⟩⟩⟩)⟩, ⟨by (with_reducible repeat (first | apply Kd.V_alloc | apply Kd.V_drewN | apply Kd.V_drew)); exact Kd.V_mono HO_284002.out (fun _ hk => ⟨hk.1.1, ⟨hk.1.2.1, ⟨hk.2, ⟨hk.1.2.2.1, hk.1.2.2.2⟩⟩⟩⟩)⟩, BK283, BK284, ⟨hb_ HB⟩⟩
    rw [if_neg c82] at H
    have c82b0 : decide (40 < (l1_2.length : Int)) = false := decide_eq_false c82
    have c82b1 : decide (40 < l1_2.length) = false := decide_eq_false (by omega)
    clear c82
    (first | rw [c82b0] | (simp only [XR, XS]; rw [c82b0]) | skip)
    have H' := Xa.mk H
    clear H
    go_wp2
    go_meet
    case rel => exact ⟨_, (t317), (t320), fx_, fx_, H', ⟨by have := HJ3.out; have := HJ45.out; first | omega | exact Nat.le_refl _⟩, ⟨ro_ HO_11⟩, ⟨by (with_reducible repeat (first | apply Kd.R_alloc | apply Kd.R_drewN | apply Kd.R_drew)); exact Kd.R_mono HO319.out (fun _ hk => ⟨hk.1.1, hk.2⟩)⟩, ⟨by (with_reducible repeat (first | apply Kd.V_alloc | apply Kd.V_drewN | apply Kd.V_drew)); exact Kd.V_mono HO_284000.out (fun _ hk => ⟨hk.1.1, ⟨hk.1.2.1, ⟨hk.2, ⟨hk.1.2.2.1, hk.1.2.2.2⟩⟩⟩⟩)⟩, ⟨by (with_reducible repeat (first | apply Kd.V_alloc | apply Kd.V_drewN | apply Kd.V_drew)); exact Kd.V_mono HO_284001.out (fun _ hk => ⟨hk.1.1, ⟨hk.1.2.1, ⟨hk.2, ⟨hk.1.2.2.1, hk.1.2.2.2⟩⟩⟩⟩)⟩, ⟨by (with_reducible repeat (first | apply Kd.V_alloc | apply Kd.V_drewN | apply Kd.V_drew)); exact Kd.V_mono HO_284002.out (fun _ hk => ⟨hk.1.1, ⟨hk.1.2.1, ⟨hk.2, ⟨hk.1.2.2.1, hk.1.2.2.2⟩⟩⟩⟩)⟩, BK283, BK284, ⟨hb_ HB⟩⟩
   case rest => as_aux_lemma =>
    clear HC76
    clear hcz78_0 hcz78_1 hcz78_2 hcz81_0 hcz81_1 hcz81_2 hfz78_0 hfz78_1 hfz78_2 hfz81_0 hfz81_1 hfz81_2
    obtain ⟨kq, x17_75, x18_75, rfl, rfl, HA, HJ75, HO_11, HO_16, HO_284000, HO_284001, HO_284002, BK283, BK284, HB⟩ := hcut
    obtain _ | kj75 := kq
    ·exact absurd HA.out (by simp [Xb.j2])
    have H := HA.out
    clear HA
    simp only [Xb.j2] at H
    have HC86 := Xa.mk H
    clear H
    go_upto_region 15 with (fail)
    go_cut [131] (fun v131 wc => ∃ (kq : Nat) (x131_85 : Bool), v131 = .bool x131_85 ∧ Xa (Xb.j3 kq l0 t305 t308 t309 t310 t311 t316 x17_75 x18_75 x131_85 l1_0 l1_1 l1_2 a2_0 a2_1 a2_2 = some r) ∧ Xa (kq ≤ kj75) ∧ Xa (Kd.R (Kd.int .i64) 3 wc w.heap.size (fun k_ => (w.heap.size ≤ k_)) v306 t305) ∧ Xa (Kd.R k79 79 wc w.heap.size (fun k_ => (w.heap.size ≤ k_) ∧ k_ ≠ gb284) v318 t316) ∧ Xa (Kd.V k58 58 wc w.heap.size (fun k_ => ((P1_0_ k_ ∨ P1_1_ k_ ∨ P1_2_ k_) ∨ w.heap.size ≤ k_) ∧ some k_ ≠ (v306 : Value).ownBlock ∧ some k_ ≠ (v318 : Value).ownBlock ∧ k_ ≠ gb283 ∧ k_ ≠ gb284) (.slice A1_0 l1_0.length c1_0) l1_0) ∧ Xa (Kd.V k58 58 wc w.heap.size (fun k_ => ((P1_0_ k_ ∨ P1_1_ k_ ∨ P1_2_ k_) ∨ w.heap.size ≤ k_) ∧ some k_ ≠ (v306 : Value).ownBlock ∧ some k_ ≠ (v318 : Value).ownBlock ∧ k_ ≠ gb283 ∧ k_ ≠ gb284) (.slice A1_1 l1_1.length c1_1) l1_1) ∧ Xa (Kd.V k58 58 wc w.heap.size (fun k_ => ((P1_0_ k_ ∨ P1_1_ k_ ∨ P1_2_ k_) ∨ w.heap.size ≤ k_) ∧ some k_ ≠ (v306 : Value).ownBlock ∧ some k_ ≠ (v318 : Value).ownBlock ∧ k_ ≠ gb283 ∧ k_ ≠ gb284) (.slice A1_2 l1_2.length c1_2) l1_2) ∧ Xa (wc.heap[gb283]? = some (.cells #[(.slice A1_0 l1_0.length c1_0), (.slice A1_1 l1_1.length c1_1), (.slice A1_2 l1_2.length c1_2)] 76 (0, 0))) ∧ Xa (wc.heap[gb284]? = some (.cells #[.int .i64 a2_0, .int .i64 a2_1, .int .i64 a2_2] 79 (0, 0))) ∧ Xa (Below w.heap.size w wc))
    case first => as_aux_lemma =>
     have H := HC86.out
     clear HC86
     by_cases c87 : x18_75 = 0
     ·rw [if_pos c87] at H
      have c87b0 : (x18_75 == 0) = true := beq_iff_eq.mpr c87
      have c87b1 : (x18_75 != 0) = false := bne_eq_false_iff_eq.mpr c87
      clear c87
      (first | rw [c87b0] | (simp only [XR, XS]; rw [c87b0]) | skip)
      replace H := Option.bind_eq_some_iff.mp H
      obtain ⟨t321, A880, H⟩ := H; (try dsimp only at H)
      have A88 := Xa.mk A880
      clear A880
      have H' := Xa.mk H
      clear H
      have hnb89 := NB284_283.out
      have hnc89 := NB283_284.out
      obtain ⟨hcz90_0, hcz90_1, hcz90_2⟩ := bc3 BK284.out
      obtain ⟨hfz90_0, hfz90_1, hfz90_2⟩ := bf3 BK284.out
      go_wp2_with (first | (go_at_call 45; (with_reducible refine (XU.calls kj75 a2_0 a2_1 a2_2 t321 _ A88.out).mono ?_); rintro e w91 ⟨rfl, hb⟩; replace HO_11 := rb_ HO_11 hb; replace HO_16 := rb_ HO_16 hb; replace HO_284000 := Xa.mk (Kd.V_below (xo_ HO_284000) hb); replace HO_284001 := Xa.mk (Kd.V_below (xo_ HO_284001) hb); replace HO_284002 := Xa.mk (Kd.V_below (xo_ HO_284002) hb); replace BK283 := kb_ BK283 hb; replace BK284 := kb_ BK284 hb; replace HB := sb_ HB hb; (try clear hb); (try clear hb2); (try clear hk); (try clear hi)))
      go_meet
      case rel => exact ⟨_, (!t321), fx_, H', ⟨by have := HJ3.out; have := HJ45.out; have := HJ75.out; first | omega | exact Nat.le_refl _⟩, ⟨ro_ HO_11⟩, ⟨ro_ HO_16⟩, ⟨xo_ HO_284000⟩, ⟨xo_ HO_284001⟩, ⟨xo_ HO_284002⟩, BK283, BK284, ⟨hb_ HB⟩⟩
     rw [if_neg c87] at H
     have c87b0 : (x18_75 == 0) = false := beq_eq_false_iff_ne.mpr c87
     have c87b1 : (x18_75 != 0) = true := bne_iff_ne.mpr c87
     (first | rw [c87b0] | (simp only [XR, XS]; rw [c87b0]) | skip)
     have H' := Xa.mk H
     clear H
     go_wp2
     go_meet
     case rel => exact ⟨_, (false), fx_, H', ⟨by have := HJ3.out; have := HJ45.out; have := HJ75.out; first | omega | exact Nat.le_refl _⟩, ⟨ro_ HO_11⟩, ⟨ro_ HO_16⟩, ⟨xo_ HO_284000⟩, ⟨xo_ HO_284001⟩, ⟨xo_ HO_284002⟩, BK283, BK284, ⟨hb_ HB⟩⟩
    case rest => as_aux_lemma =>
     clear HC86
     obtain ⟨kq, x131_85, rfl, HA, HJ85, HO_11, HO_16, HO_284000, HO_284001, HO_284002, BK283, BK284, HB⟩ := hcut
     obtain _ | kj85 := kq
     ·exact absurd HA.out (by simp [Xb.j3])
     have H := HA.out
     clear HA
     simp only [Xb.j3] at H
     have HC92 := Xa.mk H
     clear H
     go_upto_if 131 with (fail)
     go_cut [18] (fun v18 wc => ∃ (kq : Nat) (x18_91 : Int), v18 = .int .i64 x18_91 ∧ Xa (Xb.j4 kq l0 t305 t308 t309 t310 t311 t316 x17_75 x18_91 l1_0 l1_1 l1_2 a2_0 a2_1 a2_2 = some r) ∧ Xa (kq ≤ kj85) ∧ Xa (Kd.R (Kd.int .i64) 3 wc w.heap.size (fun k_ => (w.heap.size ≤ k_)) v306 t305) ∧ Xa (Kd.R k79 79 wc w.heap.size (fun k_ => (w.heap.size ≤ k_) ∧ k_ ≠ gb284) v318 t316) ∧ Xa (Kd.V k58 58 wc w.heap.size (fun k_ => ((P1_0_ k_ ∨ P1_1_ k_ ∨ P1_2_ k_) ∨ w.heap.size ≤ k_) ∧ some k_ ≠ (v306 : Value).ownBlock ∧ some k_ ≠ (v318 : Value).ownBlock ∧ k_ ≠ gb283 ∧ k_ ≠ gb284) (.slice A1_0 l1_0.length c1_0) l1_0) ∧ Xa (Kd.V k58 58 wc w.heap.size (fun k_ => ((P1_0_ k_ ∨ P1_1_ k_ ∨ P1_2_ k_) ∨ w.heap.size ≤ k_) ∧ some k_ ≠ (v306 : Value).ownBlock ∧ some k_ ≠ (v318 : Value).ownBlock ∧ k_ ≠ gb283 ∧ k_ ≠ gb284) (.slice A1_1 l1_1.length c1_1) l1_1) ∧ Xa (Kd.V k58 58 wc w.heap.size (fun k_ => ((P1_0_ k_ ∨ P1_1_ k_ ∨ P1_2_ k_) ∨ w.heap.size ≤ k_) ∧ some k_ ≠ (v306 : Value).ownBlock ∧ some k_ ≠ (v318 : Value).ownBlock ∧ k_ ≠ gb283 ∧ k_ ≠ gb284) (.slice A1_2 l1_2.length c1_2) l1_2) ∧ Xa (wc.heap[gb283]? = some (.cells #[(.slice A1_0 l1_0.length c1_0), (.slice A1_1 l1_1.length c1_1), (.slice A1_2 l1_2.length c1_2)] 76 (0, 0))) ∧ Xa (wc.heap[gb284]? = some (.cells #[.int .i64 a2_0, .int .i64 a2_1, .int .i64 a2_2] 79 (0, 0))) ∧ Xa (Below w.heap.size w wc))
     case first => as_aux_lemma =>
      have H := HC92.out
      clear HC92
      by_cases c93 : x131_85 = true
      ·subst c93
       have H1 : (Xb.j4 kj85 l0 t305 t308 t309 t310 t311 t316 x17_75 2 l1_0 l1_1 l1_2 a2_0 a2_1 a2_2) = some r := by rw [if_pos rfl] at H; exact H
       clear H
       have H := H1
       clear H1
       have H' := Xa.mk H
       clear H
       go_wp2
       go_meet
       case rel => exact ⟨_, (2), fx_, H', ⟨by have := HJ3.out; have := HJ45.out; have := HJ75.out; have := HJ85.out; first | omega | exact Nat.le_refl _⟩, ⟨ro_ HO_11⟩, ⟨ro_ HO_16⟩, ⟨xo_ HO_284000⟩, ⟨xo_ HO_284001⟩, ⟨xo_ HO_284002⟩, BK283, BK284, ⟨hb_ HB⟩⟩
      replace c93 := Bool.eq_false_iff.mpr c93
      subst c93
      have H1 : (Xb.j4 kj85 l0 t305 t308 t309 t310 t311 t316 x17_75 x18_75 l1_0 l1_1 l1_2 a2_0 a2_1 a2_2) = some r := by rw [if_neg (show ¬ (false = true) by decide)] at H; exact H
      clear H
      have H := H1
      clear H1
      have H' := Xa.mk H
      clear H
      go_wp2
      go_meet
      case rel => exact ⟨_, (x18_75), fx_, H', ⟨by have := HJ3.out; have := HJ45.out; have := HJ75.out; have := HJ85.out; first | omega | exact Nat.le_refl _⟩, ⟨ro_ HO_11⟩, ⟨ro_ HO_16⟩, ⟨xo_ HO_284000⟩, ⟨xo_ HO_284001⟩, ⟨xo_ HO_284002⟩, BK283, BK284, ⟨hb_ HB⟩⟩
     case rest => as_aux_lemma =>
      clear HC92
      obtain ⟨kq, x18_91, rfl, HA, HJ91, HO_11, HO_16, HO_284000, HO_284001, HO_284002, BK283, BK284, HB⟩ := hcut
      obtain _ | kj91 := kq
      ·exact absurd HA.out (by simp [Xb.j4])
      have H := HA.out
      clear HA
      simp only [Xb.j4] at H
      obtain ⟨y322, hy322⟩ : ∃ y_ : List (List (S79)), y_ = (([] : List (List (S79)))) := ⟨_, rfl⟩
      replace H : (if x18_91 = 0 then (Xb.j5 kj91 l0 t305 t308 t309 t310 t311 t316 x17_75 x18_91 y322 true l1_0 l1_1 l1_2 a2_0 a2_1 a2_2) else (Xb.j5 kj91 l0 t305 t308 t309 t310 t311 t316 x17_75 x18_91 y322 (x17_75 == 0) l1_0 l1_1 l1_2 a2_0 a2_1 a2_2)) = some r := by first | (rw [hy322]; with_reducible exact H) | (have H2_ := (Option.bind_some _ _).symm.trans H; rw [hy322]; with_reducible exact H2_) | (have H2_ := (Option.bind_some _ _).symm.trans H; with_reducible exact H2_) | with_reducible exact H | (rw [hy322]; exact H) | exact H
      have Ny322 := Xa.mk hy322
      clear hy322
      have HC94 := Xa.mk H
      clear H
      go_upto_region 18 with (first | ((with_reducible refine Xz (N := 132) rfl ?_); (try (refine Yk (by rfl) ?_; dsimp only)); refine Kd.N_lit (Kd.slice 79 k79) _ 62 ?hg (N' := 132) ?hd (xs := ([] : List (List (S79)))) (inner := []) (ok := (fun k_ => ((P1_0_ k_ ∨ P1_1_ k_ ∨ P1_2_ k_) ∨ w.heap.size ≤ k_) ∧ some k_ ≠ (v306 : Value).ownBlock ∧ some k_ ≠ (v318 : Value).ownBlock ∧ k_ ≠ gb283 ∧ k_ ≠ gb284)) (okp := (fun k_ => ((P1_0_ k_ ∨ P1_1_ k_ ∨ P1_2_ k_) ∨ w.heap.size ≤ k_) ∧ some k_ ≠ (v306 : Value).ownBlock ∧ some k_ ≠ (v318 : Value).ownBlock ∧ k_ ≠ gb283 ∧ k_ ≠ gb284)) ?hr ?hp (fun _ hk => hk) ((show ∀ k_, wc.heap.size ≤ k_ → (fun k_ => ((P1_0_ k_ ∨ P1_1_ k_ ∨ P1_2_ k_) ∨ w.heap.size ≤ k_) ∧ some k_ ≠ (v306 : Value).ownBlock ∧ some k_ ≠ (v318 : Value).ownBlock ∧ k_ ≠ gb283 ∧ k_ ≠ gb284) k_ from fun k_ hk => ⟨(.inr (Nat.le_trans (Xg (hb_ HB)) hk)), Kd.fresh' (Kd.R_lt (ro_ HO_11)) k_ hk, Kd.fresh' (Kd.R_lt (ro_ HO_16)) k_ hk, Kd.freshB (g := gb283) (o := .cells #[.slice A1_0 l1_0.length c1_0, .slice A1_1 l1_1.length c1_1, .slice A1_2 l1_2.length c1_2] 76 (0, 0)) (bk_ BK283) k_ hk, Kd.freshB (g := gb284) (o := .cells #[.int .i64 a2_0, .int .i64 a2_1, .int .i64 a2_2] 79 (0, 0)) (bk_ BK284) k_ hk⟩) _ (Nat.le_refl _)) (Below.refl _ _) (Nat.le_refl _) (by simp) ?_; (case hd => rfl); (case hg => rfl); (case hr => first | (go_simp; done) | (go_simp; rfl)); (case hp => exact (Reps.none _ _)); intro v323 w95 ho96 hb hg_ hnew_; clear hg_ hnew_; (first | rw [← Ny322.out] at ho96 | (simp only [Int.reduceToNat] at ho96; rw [← Ny322.out] at ho96)); replace HO_11 := rb_ HO_11 hb; replace HO_16 := rb_ HO_16 hb; replace HO_284000 := Xa.mk (Kd.V_elder' (xo_ HO_284000) (Kd.N_base ho96) hb); replace HO_284001 := Xa.mk (Kd.V_elder' (xo_ HO_284001) (Kd.N_base ho96) hb); replace HO_284002 := Xa.mk (Kd.V_elder' (xo_ HO_284002) (Kd.N_base ho96) hb); have HO324 := Xa.mk (Kd.N_lower ho96 (Xg (hb_ HB))); replace BK283 := kb_ BK283 hb; replace BK284 := kb_ BK284 hb; replace HB := sb_ HB hb; clear hb ho96))
      (try simp only [Act.put, sa_, s0_, s1_])
      go_cut [138] (fun v138 wc => ∃ (kq : Nat) (x138_93 : Bool), v138 = .bool x138_93 ∧ Xa (Xb.j5 kq l0 t305 t308 t309 t310 t311 t316 x17_75 x18_91 y322 x138_93 l1_0 l1_1 l1_2 a2_0 a2_1 a2_2 = some r) ∧ Xa (kq ≤ kj91) ∧ Xa (Kd.R (Kd.int .i64) 3 wc w.heap.size (fun k_ => (w.heap.size ≤ k_)) v306 t305) ∧ Xa (Kd.R k79 79 wc w.heap.size (fun k_ => (w.heap.size ≤ k_) ∧ k_ ≠ gb284) v318 t316) ∧ Xa (Kd.N (Kd.slice 79 k79) 62 wc w.heap.size (fun k_ => ((P1_0_ k_ ∨ P1_1_ k_ ∨ P1_2_ k_) ∨ w.heap.size ≤ k_) ∧ some k_ ≠ (v306 : Value).ownBlock ∧ some k_ ≠ (v318 : Value).ownBlock ∧ k_ ≠ gb283 ∧ k_ ≠ gb284) v323 y322) ∧ Xa (Kd.V k58 58 wc w.heap.size (fun k_ => ((P1_0_ k_ ∨ P1_1_ k_ ∨ P1_2_ k_) ∨ w.heap.size ≤ k_) ∧ some k_ ≠ (v306 : Value).ownBlock ∧ some k_ ≠ (v318 : Value).ownBlock ∧ some k_ ≠ (v323 : Value).ownBlock ∧ k_ ≠ gb283 ∧ k_ ≠ gb284) (.slice A1_0 l1_0.length c1_0) l1_0) ∧ Xa (Kd.V k58 58 wc w.heap.size (fun k_ => ((P1_0_ k_ ∨ P1_1_ k_ ∨ P1_2_ k_) ∨ w.heap.size ≤ k_) ∧ some k_ ≠ (v306 : Value).ownBlock ∧ some k_ ≠ (v318 : Value).ownBlock ∧ some k_ ≠ (v323 : Value).ownBlock ∧ k_ ≠ gb283 ∧ k_ ≠ gb284) (.slice A1_1 l1_1.length c1_1) l1_1) ∧ Xa (Kd.V k58 58 wc w.heap.size (fun k_ => ((P1_0_ k_ ∨ P1_1_ k_ ∨ P1_2_ k_) ∨ w.heap.size ≤ k_) ∧ some k_ ≠ (v306 : Value).ownBlock ∧ some k_ ≠ (v318 : Value).ownBlock ∧ some k_ ≠ (v323 : Value).ownBlock ∧ k_ ≠ gb283 ∧ k_ ≠ gb284) (.slice A1_2 l1_2.length c1_2) l1_2) ∧ Xa (wc.heap[gb283]? = some (.cells #[(.slice A1_0 l1_0.length c1_0), (.slice A1_1 l1_1.length c1_1), (.slice A1_2 l1_2.length c1_2)] 76 (0, 0))) ∧ Xa (wc.heap[gb284]? = some (.cells #[.int .i64 a2_0, .int .i64 a2_1, .int .i64 a2_2] 79 (0, 0))) ∧ Xa (Below w.heap.size w wc))
      case first => as_aux_lemma =>
       have H := HC94.out
       clear HC94
       by_cases c97 : x18_91 = 0
       ·rw [if_pos c97] at H
        have c97b0 : (x18_91 == 0) = true := beq_iff_eq.mpr c97
        have c97b1 : (x18_91 != 0) = false := bne_eq_false_iff_eq.mpr c97
        clear c97
        (first | rw [c97b0] | (simp only [XR, XS]; rw [c97b0]) | skip)
        have H' := Xa.mk H
        clear H
        go_wp2
        go_meet
        case rel => exact ⟨_, (true), fx_, H', ⟨by have := HJ3.out; have := HJ45.out; have := HJ75.out; have := HJ85.out; have := HJ91.out; first | omega | exact Nat.le_refl _⟩, ⟨ro_ HO_11⟩, ⟨ro_ HO_16⟩, ⟨xo_ HO324⟩, ⟨by (with_reducible repeat (first | apply Kd.V_alloc | apply Kd.V_drewN | apply Kd.V_drew)); exact Kd.V_mono HO_284000.out (fun _ hk => ⟨hk.1.1, ⟨hk.1.2.1, ⟨hk.1.2.2.1, ⟨hk.2, ⟨hk.1.2.2.2.1, hk.1.2.2.2.2⟩⟩⟩⟩⟩)⟩, ⟨by (with_reducible repeat (first | apply Kd.V_alloc | apply Kd.V_drewN | apply Kd.V_drew)); exact Kd.V_mono HO_284001.out (fun _ hk => ⟨hk.1.1, ⟨hk.1.2.1, ⟨hk.1.2.2.1, ⟨hk.2, ⟨hk.1.2.2.2.1, hk.1.2.2.2.2⟩⟩⟩⟩⟩)⟩, ⟨by (with_reducible repeat (first | apply Kd.V_alloc | apply Kd.V_drewN | apply Kd.V_drew)); exact Kd.V_mono HO_284002.out (fun _ hk => ⟨hk.1.1, ⟨hk.1.2.1, ⟨hk.1.2.2.1, ⟨hk.2, ⟨hk.1.2.2.2.1, hk.1.2.2.2.2⟩⟩⟩⟩⟩)⟩, BK283, BK284, ⟨hb_ HB⟩⟩
       rw [if_neg c97] at H
       have c97b0 : (x18_91 == 0) = false := beq_eq_false_iff_ne.mpr c97
       have c97b1 : (x18_91 != 0) = true := bne_iff_ne.mpr c97
       (first | rw [c97b0] | (simp only [XR, XS]; rw [c97b0]) | skip)
       have H' := Xa.mk H
       clear H
       go_wp2
       go_meet
       case rel => exact ⟨_, ((x17_75 == 0)), fx_, H', ⟨by have := HJ3.out; have := HJ45.out; have := HJ75.out; have := HJ85.out; have := HJ91.out; first | omega | exact Nat.le_refl _⟩, ⟨ro_ HO_11⟩, ⟨ro_ HO_16⟩, ⟨xo_ HO324⟩, ⟨by (with_reducible repeat (first | apply Kd.V_alloc | apply Kd.V_drewN | apply Kd.V_drew)); exact Kd.V_mono HO_284000.out (fun _ hk => ⟨hk.1.1, ⟨hk.1.2.1, ⟨hk.1.2.2.1, ⟨hk.2, ⟨hk.1.2.2.2.1, hk.1.2.2.2.2⟩⟩⟩⟩⟩)⟩, ⟨by (with_reducible repeat (first | apply Kd.V_alloc | apply Kd.V_drewN | apply Kd.V_drew)); exact Kd.V_mono HO_284001.out (fun _ hk => ⟨hk.1.1, ⟨hk.1.2.1, ⟨hk.1.2.2.1, ⟨hk.2, ⟨hk.1.2.2.2.1, hk.1.2.2.2.2⟩⟩⟩⟩⟩)⟩, ⟨by (with_reducible repeat (first | apply Kd.V_alloc | apply Kd.V_drewN | apply Kd.V_drew)); exact Kd.V_mono HO_284002.out (fun _ hk => ⟨hk.1.1, ⟨hk.1.2.1, ⟨hk.1.2.2.1, ⟨hk.2, ⟨hk.1.2.2.2.1, hk.1.2.2.2.2⟩⟩⟩⟩⟩)⟩, BK283, BK284, ⟨hb_ HB⟩⟩
      case rest => as_aux_lemma =>
       clear HC94
       obtain ⟨kq, x138_93, rfl, HA, HJ93, HO_11, HO_16, HO_19, HO_284000, HO_284001, HO_284002, BK283, BK284, HB⟩ := hcut
       obtain _ | kj93 := kq
       ·exact absurd HA.out (by simp [Xb.j5])
       have H := HA.out
       clear HA
       simp only [Xb.j5] at H
       have HC98 := Xa.mk H
       clear H
       go_upto_if 138 with (fail)
       go_cut [17, 18, 19] (fun v17 v18 v19 wc => ∃ (kq : Nat) (x17_97 : Int) (x18_97 : Int) (x19_97 : List (List (S79))), v17 = .int .i64 x17_97 ∧ v18 = .int .i64 x18_97 ∧ Xa (Xb.j6 kq t305 t308 t309 t310 t311 t316 x17_97 x18_97 x19_97 l1_0 l1_1 l1_2 a2_0 a2_1 a2_2 = some r) ∧ Xa (kq ≤ kj93) ∧ Xa (Kd.R (Kd.int .i64) 3 wc w.heap.size (fun k_ => (w.heap.size ≤ k_)) v306 t305) ∧ Xa (Kd.R k79 79 wc w.heap.size (fun k_ => (w.heap.size ≤ k_) ∧ k_ ≠ gb284) v318 t316) ∧ Xa (Kd.N (Kd.slice 79 k79) 62 wc w.heap.size (fun k_ => ((P1_0_ k_ ∨ P1_1_ k_ ∨ P1_2_ k_) ∨ w.heap.size ≤ k_) ∧ some k_ ≠ (v306 : Value).ownBlock ∧ some k_ ≠ (v318 : Value).ownBlock ∧ k_ ≠ gb283 ∧ k_ ≠ gb284) v19 x19_97) ∧ Xa (Kd.V k58 58 wc w.heap.size (fun k_ => ((P1_0_ k_ ∨ P1_1_ k_ ∨ P1_2_ k_) ∨ w.heap.size ≤ k_) ∧ some k_ ≠ (v306 : Value).ownBlock ∧ some k_ ≠ (v318 : Value).ownBlock ∧ some k_ ≠ (v19 : Value).ownBlock ∧ k_ ≠ gb283 ∧ k_ ≠ gb284) (.slice A1_0 l1_0.length c1_0) l1_0) ∧ Xa (Kd.V k58 58 wc w.heap.size (fun k_ => ((P1_0_ k_ ∨ P1_1_ k_ ∨ P1_2_ k_) ∨ w.heap.size ≤ k_) ∧ some k_ ≠ (v306 : Value).ownBlock ∧ some k_ ≠ (v318 : Value).ownBlock ∧ some k_ ≠ (v19 : Value).ownBlock ∧ k_ ≠ gb283 ∧ k_ ≠ gb284) (.slice A1_1 l1_1.length c1_1) l1_1) ∧ Xa (Kd.V k58 58 wc w.heap.size (fun k_ => ((P1_0_ k_ ∨ P1_1_ k_ ∨ P1_2_ k_) ∨ w.heap.size ≤ k_) ∧ some k_ ≠ (v306 : Value).ownBlock ∧ some k_ ≠ (v318 : Value).ownBlock ∧ some k_ ≠ (v19 : Value).ownBlock ∧ k_ ≠ gb283 ∧ k_ ≠ gb284) (.slice A1_2 l1_2.length c1_2) l1_2) ∧ Xa (wc.heap[gb283]? = some (.cells #[(.slice A1_0 l1_0.length c1_0), (.slice A1_1 l1_1.length c1_1), (.slice A1_2 l1_2.length c1_2)] 76 (0, 0))) ∧ Xa (wc.heap[gb284]? = some (.cells #[.int .i64 a2_0, .int .i64 a2_1, .int .i64 a2_2] 79 (0, 0))) ∧ Xa (Below w.heap.size w wc))
       case first => as_aux_lemma =>
        have H := HC98.out
        clear HC98
        by_cases c99 : x138_93 = true
        ·subst c99
         have H1 : ((Xx.f kj93 l0 l1_2).bind fun bt325 => (if x18_91 = 0 then (if x17_75 = 0 then (Xb.j6 kj93 t305 t308 t309 t310 t311 t316 bt325.2 bt325.2 bt325.1 l1_0 l1_1 l1_2 a2_0 a2_1 a2_2) else (Xb.j6 kj93 t305 t308 t309 t310 t311 t316 x17_75 bt325.2 bt325.1 l1_0 l1_1 l1_2 a2_0 a2_1 a2_2)) else (if x17_75 = 0 then (Xb.j6 kj93 t305 t308 t309 t310 t311 t316 bt325.2 x18_91 bt325.1 l1_0 l1_1 l1_2 a2_0 a2_1 a2_2) else (Xb.j6 kj93 t305 t308 t309 t310 t311 t316 x17_75 x18_91 bt325.1 l1_0 l1_1 l1_2 a2_0 a2_1 a2_2)))) = some r := by rw [if_pos rfl] at H; exact H
         clear H
         have H := H1
         clear H1
         replace H := Option.bind_eq_some_iff.mp H
         obtain ⟨⟨t325, t326⟩, A1000, H⟩ := H; (try dsimp only at H)
         have A100 := Xa.mk A1000
         clear A1000
         by_cases c101 : x18_91 = 0
         ·rw [if_pos c101] at H
          have c101b0 : (x18_91 == 0) = true := beq_iff_eq.mpr c101
          have c101b1 : (x18_91 != 0) = false := bne_eq_false_iff_eq.mpr c101
          clear c101
          (first | rw [c101b0] | (simp only [XR, XS]; rw [c101b0]) | skip)
          by_cases c102 : x17_75 = 0
          ·rw [if_pos c102] at H
           have c102b0 : (x17_75 == 0) = true := beq_iff_eq.mpr c102
           have c102b1 : (x17_75 != 0) = false := bne_eq_false_iff_eq.mpr c102
           clear c102
           have H' := Xa.mk H
           clear H
           have hnb103 := NB283_284.out
           have hnc103 := NB284_283.out
           obtain ⟨hcz104_0, hcz104_1, hcz104_2⟩ := bc3 BK283.out
           obtain ⟨hfz104_0, hfz104_1, hfz104_2⟩ := bf3 BK283.out
           go_wp2_with (first | ((with_reducible refine Xp (f := 46) rfl ?_); refine XL (some 143) rfl rfl Try.func46 (by kernel_rfl) rfl #[.slice A0 l0.length c0, .slice A1_2 l1_2.length c1_2] rfl (by (try simp only [List.map_toArray, List.map_cons, List.map_nil]); first | done | rfl | (simp only [List.length_drop, List.length_take]; rfl)) ?_; (with_reducible refine (Xx.calls kj93 _ _ l0 _ _ l1_2 t325 t326 _ ?side1 ?side2 ?side3 ?side4 A100.out).mono ?_); (case side1 => exact cA_ (Kd.C_below HR0.out HB.out)); (case side2 => exact HC0.out); (case side3 => exact cA_ (Kd.V_reads' HO_284002.out).2.2); (case side4 => exact (Kd.V_reads' HO_284002.out).2.1); rintro e w105 ⟨v327, rfl, ho0, hb⟩; refine ⟨_, rfl, ?_⟩; replace HO_284000 := Xa.mk (Kd.V_elder' (xo_ HO_284000) (Kd.N_base (Kd.S_N (Kd.S_bound ho0))) hb); replace HO_284001 := Xa.mk (Kd.V_elder' (xo_ HO_284001) (Kd.N_base (Kd.S_N (Kd.S_bound ho0))) hb); replace HO_284002 := Xa.mk (Kd.V_elder' (xo_ HO_284002) (Kd.N_base (Kd.S_N (Kd.S_bound ho0))) hb); have HO328 := Xa.mk (Kd.N_lower (Kd.N_mono (ok' := fun k_ => ((P1_0_ k_ ∨ P1_1_ k_ ∨ P1_2_ k_) ∨ w.heap.size ≤ k_) ∧ some k_ ≠ (v306 : Value).ownBlock ∧ some k_ ≠ (v318 : Value).ownBlock ∧ some k_ ≠ (v323 : Value).ownBlock ∧ k_ ≠ gb283 ∧ k_ ≠ gb284) (Kd.S_N (Kd.S_bound ho0)) (fun k_ hk_ => ⟨(.inr (Nat.le_trans (Xg (hb_ HB)) hk_.2.1)), (Kd.fresh' (Kd.R_lt (ro_ HO_11)) k_ hk_.2.1), (Kd.fresh' (Kd.R_lt (ro_ HO_16)) k_ hk_.2.1), (Kd.fresh' (Kd.N_lt (xo_ HO_19)) k_ hk_.2.1), (Kd.freshB (g := gb283) (o := .cells #[.slice A1_0 l1_0.length c1_0, .slice A1_1 l1_1.length c1_1, .slice A1_2 l1_2.length c1_2] 76 (0, 0)) (bk_ BK283) k_ hk_.2.1), (Kd.freshB (g := gb284) (o := .cells #[.int .i64 a2_0, .int .i64 a2_1, .int .i64 a2_2] 79 (0, 0)) (bk_ BK284) k_ hk_.2.1)⟩)) (Xg (hb_ HB))); replace HO_11 := rb_ HO_11 hb; replace HO_16 := rb_ HO_16 hb; replace HO_19 := Xa.mk (Kd.N_elder' (xo_ HO_19) (Kd.N_base (Kd.S_N (Kd.S_bound ho0))) hb); replace BK283 := kb_ BK283 hb; replace BK284 := kb_ BK284 hb; replace HB := sb_ HB hb; (try clear hb); (try clear hb2); (try clear hk); (try clear hi); (try clear ho0)))
           go_meet
           case rel => exact ⟨_, (t326), (t326), (t325), fx_, fx_, H', ⟨by have := HJ3.out; have := HJ45.out; have := HJ75.out; have := HJ85.out; have := HJ91.out; have := HJ93.out; first | omega | exact Nat.le_refl _⟩, ⟨ro_ HO_11⟩, ⟨ro_ HO_16⟩, ⟨by (with_reducible repeat (first | apply Kd.N_alloc | apply Kd.N_drewN | apply Kd.N_drew)); exact Kd.N_mono HO328.out (fun _ hk => ⟨hk.1, ⟨hk.2.1, ⟨hk.2.2.1, ⟨hk.2.2.2.2.1, hk.2.2.2.2.2⟩⟩⟩⟩)⟩, ⟨by (with_reducible repeat (first | apply Kd.V_alloc | apply Kd.V_drewN | apply Kd.V_drew)); exact Kd.V_mono HO_284000.out (fun _ hk => ⟨hk.1.1, ⟨hk.1.2.1, ⟨hk.1.2.2.1, ⟨hk.2, ⟨hk.1.2.2.2.2.1, hk.1.2.2.2.2.2⟩⟩⟩⟩⟩)⟩, ⟨by (with_reducible repeat (first | apply Kd.V_alloc | apply Kd.V_drewN | apply Kd.V_drew)); exact Kd.V_mono HO_284001.out (fun _ hk => ⟨hk.1.1, ⟨hk.1.2.1, ⟨hk.1.2.2.1, ⟨hk.2, ⟨hk.1.2.2.2.2.1, hk.1.2.2.2.2.2⟩⟩⟩⟩⟩)⟩, ⟨by (with_reducible repeat (first | apply Kd.V_alloc | apply Kd.V_drewN | apply Kd.V_drew)); exact Kd.V_mono HO_284002.out (fun _ hk => ⟨hk.1.1, ⟨hk.1.2.1, ⟨hk.1.2.2.1, ⟨hk.2, ⟨hk.1.2.2.2.2.1, hk.1.2.2.2.2.2⟩⟩⟩⟩⟩)⟩, BK283, BK284, ⟨hb_ HB⟩⟩
          rw [if_neg c102] at H
          have c102b0 : (x17_75 == 0) = false := beq_eq_false_iff_ne.mpr c102
          have c102b1 : (x17_75 != 0) = true := bne_iff_ne.mpr c102
          have H' := Xa.mk H
          clear H
          have hnb106 := NB283_284.out
          have hnc106 := NB284_283.out
          obtain ⟨hcz107_0, hcz107_1, hcz107_2⟩ := bc3 BK283.out
          obtain ⟨hfz107_0, hfz107_1, hfz107_2⟩ := bf3 BK283.out
          go_wp2_with (first | ((with_reducible refine Xp (f := 46) rfl ?_); refine XL (some 143) rfl rfl Try.func46 (by kernel_rfl) rfl #[.slice A0 l0.length c0, .slice A1_2 l1_2.length c1_2] rfl (by (try simp only [List.map_toArray, List.map_cons, List.map_nil]); first | done | rfl | (simp only [List.length_drop, List.length_take]; rfl)) ?_; (with_reducible refine (Xx.calls kj93 _ _ l0 _ _ l1_2 t325 t326 _ ?side1 ?side2 ?side3 ?side4 A100.out).mono ?_); (case side1 => exact cA_ (Kd.C_below HR0.out HB.out)); (case side2 => exact HC0.out); (case side3 => exact cA_ (Kd.V_reads' HO_284002.out).2.2); (case side4 => exact (Kd.V_reads' HO_284002.out).2.1); rintro e w108 ⟨v327, rfl, ho0, hb⟩; refine ⟨_, rfl, ?_⟩; replace HO_284000 := Xa.mk (Kd.V_elder' (xo_ HO_284000) (Kd.N_base (Kd.S_N (Kd.S_bound ho0))) hb); replace HO_284001 := Xa.mk (Kd.V_elder' (xo_ HO_284001) (Kd.N_base (Kd.S_N (Kd.S_bound ho0))) hb); replace HO_284002 := Xa.mk (Kd.V_elder' (xo_ HO_284002) (Kd.N_base (Kd.S_N (Kd.S_bound ho0))) hb); have HO328 := Xa.mk (Kd.N_lower (Kd.N_mono (ok' := fun k_ => ((P1_0_ k_ ∨ P1_1_ k_ ∨ P1_2_ k_) ∨ w.heap.size ≤ k_) ∧ some k_ ≠ (v306 : Value).ownBlock ∧ some k_ ≠ (v318 : Value).ownBlock ∧ some k_ ≠ (v323 : Value).ownBlock ∧ k_ ≠ gb283 ∧ k_ ≠ gb284) (Kd.S_N (Kd.S_bound ho0)) (fun k_ hk_ => ⟨(.inr (Nat.le_trans (Xg (hb_ HB)) hk_.2.1)), (Kd.fresh' (Kd.R_lt (ro_ HO_11)) k_ hk_.2.1), (Kd.fresh' (Kd.R_lt (ro_ HO_16)) k_ hk_.2.1), (Kd.fresh' (Kd.N_lt (xo_ HO_19)) k_ hk_.2.1), (Kd.freshB (g := gb283) (o := .cells #[.slice A1_0 l1_0.length c1_0, .slice A1_1 l1_1.length c1_1, .slice A1_2 l1_2.length c1_2] 76 (0, 0)) (bk_ BK283) k_ hk_.2.1), (Kd.freshB (g := gb284) (o := .cells #[.int .i64 a2_0, .int .i64 a2_1, .int .i64 a2_2] 79 (0, 0)) (bk_ BK284) k_ hk_.2.1)⟩)) (Xg (hb_ HB))); replace HO_11 := rb_ HO_11 hb; replace HO_16 := rb_ HO_16 hb; replace HO_19 := Xa.mk (Kd.N_elder' (xo_ HO_19) (Kd.N_base (Kd.S_N (Kd.S_bound ho0))) hb); replace BK283 := kb_ BK283 hb; replace BK284 := kb_ BK284 hb; replace HB := sb_ HB hb; (try clear hb); (try clear hb2); (try clear hk); (try clear hi); (try clear ho0)))
          go_meet
          case rel => exact ⟨_, (x17_75), (t326), (t325), fx_, fx_, H', ⟨by have := HJ3.out; have := HJ45.out; have := HJ75.out; have := HJ85.out; have := HJ91.out; have := HJ93.out; first | omega | exact Nat.le_refl _⟩, ⟨ro_ HO_11⟩, ⟨ro_ HO_16⟩, ⟨by (with_reducible repeat (first | apply Kd.N_alloc | apply Kd.N_drewN | apply Kd.N_drew)); exact Kd.N_mono HO328.out (fun _ hk => ⟨hk.1, ⟨hk.2.1, ⟨hk.2.2.1, ⟨hk.2.2.2.2.1, hk.2.2.2.2.2⟩⟩⟩⟩)⟩, ⟨by (with_reducible repeat (first | apply Kd.V_alloc | apply Kd.V_drewN | apply Kd.V_drew)); exact Kd.V_mono HO_284000.out (fun _ hk => ⟨hk.1.1, ⟨hk.1.2.1, ⟨hk.1.2.2.1, ⟨hk.2, ⟨hk.1.2.2.2.2.1, hk.1.2.2.2.2.2⟩⟩⟩⟩⟩)⟩, ⟨by (with_reducible repeat (first | apply Kd.V_alloc | apply Kd.V_drewN | apply Kd.V_drew)); exact Kd.V_mono HO_284001.out (fun _ hk => ⟨hk.1.1, ⟨hk.1.2.1, ⟨hk.1.2.2.1, ⟨hk.2, ⟨hk.1.2.2.2.2.1, hk.1.2.2.2.2.2⟩⟩⟩⟩⟩)⟩, ⟨by (with_reducible repeat (first | apply Kd.V_alloc | apply Kd.V_drewN | apply Kd.V_drew)); exact Kd.V_mono HO_284002.out (fun _ hk => ⟨hk.1.1, ⟨hk.1.2.1, ⟨hk.1.2.2.1, ⟨hk.2, ⟨hk.1.2.2.2.2.1, hk.1.2.2.2.2.2⟩⟩⟩⟩⟩)⟩, BK283, BK284, ⟨hb_ HB⟩⟩
         rw [if_neg c101] at H
         have c101b0 : (x18_91 == 0) = false := beq_eq_false_iff_ne.mpr c101
         have c101b1 : (x18_91 != 0) = true := bne_iff_ne.mpr c101
         (first | rw [c101b0] | (simp only [XR, XS]; rw [c101b0]) | skip)
         by_cases c109 : x17_75 = 0
         ·rw [if_pos c109] at H
          have c109b0 : (x17_75 == 0) = true := beq_iff_eq.mpr c109
          have c109b1 : (x17_75 != 0) = false := bne_eq_false_iff_eq.mpr c109
          clear c109
          have H' := Xa.mk H
          clear H
          have hnb110 := NB283_284.out
          have hnc110 := NB284_283.out
          obtain ⟨hcz111_0, hcz111_1, hcz111_2⟩ := bc3 BK283.out
          obtain ⟨hfz111_0, hfz111_1, hfz111_2⟩ := bf3 BK283.out
          go_wp2_with (first | ((with_reducible refine Xp (f := 46) rfl ?_); refine XL (some 143) rfl rfl Try.func46 (by kernel_rfl) rfl #[.slice A0 l0.length c0, .slice A1_2 l1_2.length c1_2] rfl (by (try simp only [List.map_toArray, List.map_cons, List.map_nil]); first | done | rfl | (simp only [List.length_drop, List.length_take]; rfl)) ?_; (with_reducible refine (Xx.calls kj93 _ _ l0 _ _ l1_2 t325 t326 _ ?side1 ?side2 ?side3 ?side4 A100.out).mono ?_); (case side1 => exact cA_ (Kd.C_below HR0.out HB.out)); (case side2 => exact HC0.out); (case side3 => exact cA_ (Kd.V_reads' HO_284002.out).2.2); (case side4 => exact (Kd.V_reads' HO_284002.out).2.1); rintro e w112 ⟨v327, rfl, ho0, hb⟩; refine ⟨_, rfl, ?_⟩; replace HO_284000 := Xa.mk (Kd.V_elder' (xo_ HO_284000) (Kd.N_base (Kd.S_N (Kd.S_bound ho0))) hb); replace HO_284001 := Xa.mk (Kd.V_elder' (xo_ HO_284001) (Kd.N_base (Kd.S_N (Kd.S_bound ho0))) hb); replace HO_284002 := Xa.mk (Kd.V_elder' (xo_ HO_284002) (Kd.N_base (Kd.S_N (Kd.S_bound ho0))) hb); have HO328 := Xa.mk (Kd.N_lower (Kd.N_mono (ok' := fun k_ => ((P1_0_ k_ ∨ P1_1_ k_ ∨ P1_2_ k_) ∨ w.heap.size ≤ k_) ∧ some k_ ≠ (v306 : Value).ownBlock ∧ some k_ ≠ (v318 : Value).ownBlock ∧ some k_ ≠ (v323 : Value).ownBlock ∧ k_ ≠ gb283 ∧ k_ ≠ gb284) (Kd.S_N (Kd.S_bound ho0)) (fun k_ hk_ => ⟨(.inr (Nat.le_trans (Xg (hb_ HB)) hk_.2.1)), (Kd.fresh' (Kd.R_lt (ro_ HO_11)) k_ hk_.2.1), (Kd.fresh' (Kd.R_lt (ro_ HO_16)) k_ hk_.2.1), (Kd.fresh' (Kd.N_lt (xo_ HO_19)) k_ hk_.2.1), (Kd.freshB (g := gb283) (o := .cells #[.slice A1_0 l1_0.length c1_0, .slice A1_1 l1_1.length c1_1, .slice A1_2 l1_2.length c1_2] 76 (0, 0)) (bk_ BK283) k_ hk_.2.1), (Kd.freshB (g := gb284) (o := .cells #[.int .i64 a2_0, .int .i64 a2_1, .int .i64 a2_2] 79 (0, 0)) (bk_ BK284) k_ hk_.2.1)⟩)) (Xg (hb_ HB))); replace HO_11 := rb_ HO_11 hb; replace HO_16 := rb_ HO_16 hb; replace HO_19 := Xa.mk (Kd.N_elder' (xo_ HO_19) (Kd.N_base (Kd.S_N (Kd.S_bound ho0))) hb); replace BK283 := kb_ BK283 hb; replace BK284 := kb_ BK284 hb; replace HB := sb_ HB hb; (try clear hb); (try clear hb2); (try clear hk); (try clear hi); (try clear ho0)))
          go_meet
          case rel => exact ⟨_, (t326), (x18_91), (t325), fx_, fx_, H', ⟨by have := HJ3.out; have := HJ45.out; have := HJ75.out; have := HJ85.out; have := HJ91.out; have := HJ93.out; first | omega | exact Nat.le_refl _⟩, ⟨ro_ HO_11⟩, ⟨ro_ HO_16⟩, ⟨by (with_reducible repeat (first | apply Kd.N_alloc | apply Kd.N_drewN | apply Kd.N_drew)); exact Kd.N_mono HO328.out (fun _ hk => ⟨hk.1, ⟨hk.2.1, ⟨hk.2.2.1, ⟨hk.2.2.2.2.1, hk.2.2.2.2.2⟩⟩⟩⟩)⟩, ⟨by (with_reducible repeat (first | apply Kd.V_alloc | apply Kd.V_drewN | apply Kd.V_drew)); exact Kd.V_mono HO_284000.out (fun _ hk => ⟨hk.1.1, ⟨hk.1.2.1, ⟨hk.1.2.2.1, ⟨hk.2, ⟨hk.1.2.2.2.2.1, hk.1.2.2.2.2.2⟩⟩⟩⟩⟩)⟩, ⟨by (with_reducible repeat (first | apply Kd.V_alloc | apply Kd.V_drewN | apply Kd.V_drew)); exact Kd.V_mono HO_284001.out (fun _ hk => ⟨hk.1.1, ⟨hk.1.2.1, ⟨hk.1.2.2.1, ⟨hk.2, ⟨hk.1.2.2.2.2.1, hk.1.2.2.2.2.2⟩⟩⟩⟩⟩)⟩, ⟨by (with_reducible repeat (first | apply Kd.V_alloc | apply Kd.V_drewN | apply Kd.V_drew)); exact Kd.V_mono HO_284002.out (fun _ hk => ⟨hk.1.1, ⟨hk.1.2.1, ⟨hk.1.2.2.1, ⟨hk.2, ⟨hk.1.2.2.2.2.1, hk.1.2.2.2.2.2⟩⟩⟩⟩⟩)⟩, BK283, BK284, ⟨hb_ HB⟩⟩
         rw [if_neg c109] at H
         have c109b0 : (x17_75 == 0) = false := beq_eq_false_iff_ne.mpr c109
         have c109b1 : (x17_75 != 0) = true := bne_iff_ne.mpr c109
         have H' := Xa.mk H
         clear H
         have hnb113 := NB283_284.out
         have hnc113 := NB284_283.out
         obtain ⟨hcz114_0, hcz114_1, hcz114_2⟩ := bc3 BK283.out
         obtain ⟨hfz114_0, hfz114_1, hfz114_2⟩ := bf3 BK283.out
         go_wp2_with (first | ((with_reducible refine Xp (f := 46) rfl ?_); refine XL (some 143) rfl rfl Try.func46 (by kernel_rfl) rfl #[.slice A0 l0.length c0, .slice A1_2 l1_2.length c1_2] rfl (by (try simp only [List.map_toArray, List.map_cons, List.map_nil]); first | done | rfl | (simp only [List.length_drop, List.length_take]; rfl)) ?_; (with_reducible refine (Xx.calls kj93 _ _ l0 _ _ l1_2 t325 t326 _ ?side1 ?side2 ?side3 ?side4 A100.out).mono ?_); (case side1 => exact cA_ (Kd.C_below HR0.out HB.out)); (case side2 => exact HC0.out); (case side3 => exact cA_ (Kd.V_reads' HO_284002.out).2.2); (case side4 => exact (Kd.V_reads' HO_284002.out).2.1); rintro e w115 ⟨v327, rfl, ho0, hb⟩; refine ⟨_, rfl, ?_⟩; replace HO_284000 := Xa.mk (Kd.V_elder' (xo_ HO_284000) (Kd.N_base (Kd.S_N (Kd.S_bound ho0))) hb); replace HO_284001 := Xa.mk (Kd.V_elder' (xo_ HO_284001) (Kd.N_base (Kd.S_N (Kd.S_bound ho0))) hb); replace HO_284002 := Xa.mk (Kd.V_elder' (xo_ HO_284002) (Kd.N_base (Kd.S_N (Kd.S_bound ho0))) hb); have HO328 := Xa.mk (Kd.N_lower (Kd.N_mono (ok' := fun k_ => ((P1_0_ k_ ∨ P1_1_ k_ ∨ P1_2_ k_) ∨ w.heap.size ≤ k_) ∧ some k_ ≠ (v306 : Value).ownBlock ∧ some k_ ≠ (v318 : Value).ownBlock ∧ some k_ ≠ (v323 : Value).ownBlock ∧ k_ ≠ gb283 ∧ k_ ≠ gb284) (Kd.S_N (Kd.S_bound ho0)) (fun k_ hk_ => ⟨(.inr (Nat.le_trans (Xg (hb_ HB)) hk_.2.1)), (Kd.fresh' (Kd.R_lt (ro_ HO_11)) k_ hk_.2.1), (Kd.fresh' (Kd.R_lt (ro_ HO_16)) k_ hk_.2.1), (Kd.fresh' (Kd.N_lt (xo_ HO_19)) k_ hk_.2.1), (Kd.freshB (g := gb283) (o := .cells #[.slice A1_0 l1_0.length c1_0, .slice A1_1 l1_1.length c1_1, .slice A1_2 l1_2.length c1_2] 76 (0, 0)) (bk_ BK283) k_ hk_.2.1), (Kd.freshB (g := gb284) (o := .cells #[.int .i64 a2_0, .int .i64 a2_1, .int .i64 a2_2] 79 (0, 0)) (bk_ BK284) k_ hk_.2.1)⟩)) (Xg (hb_ HB))); replace HO_11 := rb_ HO_11 hb; replace HO_16 := rb_ HO_16 hb; replace HO_19 := Xa.mk (Kd.N_elder' (xo_ HO_19) (Kd.N_base (Kd.S_N (Kd.S_bound ho0))) hb); replace BK283 := kb_ BK283 hb; replace BK284 := kb_ BK284 hb; replace HB := sb_ HB hb; (try clear hb); (try clear hb2); (try clear hk); (try clear hi); (try clear ho0)))
         go_meet
         case rel => exact ⟨_, (x17_75), (x18_91), (t325), fx_, fx_, H', ⟨by have := HJ3.out; have := HJ45.out; have := HJ75.out; have := HJ85.out; have := HJ91.out; have := HJ93.out; first | omega | exact Nat.le_refl _⟩, ⟨ro_ HO_11⟩, ⟨ro_ HO_16⟩, ⟨by (with_reducible repeat (first | apply Kd.N_alloc | apply Kd.N_drewN | apply Kd.N_drew)); exact Kd.N_mono HO328.out (fun _ hk => ⟨hk.1, ⟨hk.2.1, ⟨hk.2.2.1, ⟨hk.2.2.2.2.1, hk.2.2.2.2.2⟩⟩⟩⟩)⟩, ⟨by (with_reducible repeat (first | apply Kd.V_alloc | apply Kd.V_drewN | apply Kd.V_drew)); exact Kd.V_mono HO_284000.out (fun _ hk => ⟨hk.1.1, ⟨hk.1.2.1, ⟨hk.1.2.2.1, ⟨hk.2, ⟨hk.1.2.2.2.2.1, hk.1.2.2.2.2.2⟩⟩⟩⟩⟩)⟩, ⟨by (with_reducible repeat (first | apply Kd.V_alloc | apply Kd.V_drewN | apply Kd.V_drew)); exact Kd.V_mono HO_284001.out (fun _ hk => ⟨hk.1.1, ⟨hk.1.2.1, ⟨hk.1.2.2.1, ⟨hk.2, ⟨hk.1.2.2.2.2.1, hk.1.2.2.2.2.2⟩⟩⟩⟩⟩)⟩, ⟨by (with_reducible repeat (first | apply Kd.V_alloc | apply Kd.V_drewN | apply Kd.V_drew)); exact Kd.V_mono HO_284002.out (fun _ hk => ⟨hk.1.1, ⟨hk.1.2.1, ⟨hk.1.2.2.1, ⟨hk.2, ⟨hk.1.2.2.2.2.1, hk.1.2.2.2.2.2⟩⟩⟩⟩⟩)⟩, BK283, BK284, ⟨hb_ HB⟩⟩
        replace c99 := Bool.eq_false_iff.mpr c99
        subst c99
        have H1 : (Xb.j6 kj93 t305 t308 t309 t310 t311 t316 x17_75 x18_91 y322 l1_0 l1_1 l1_2 a2_0 a2_1 a2_2) = some r := by rw [if_neg (show ¬ (false = true) by decide)] at H; exact H
        clear H
        have H := H1
        clear H1
        have H' := Xa.mk H
        clear H
        go_wp2
        go_meet
        case rel => exact ⟨_, (x17_75), (x18_91), (y322), fx_, fx_, H', ⟨by have := HJ3.out; have := HJ45.out; have := HJ75.out; have := HJ85.out; have := HJ91.out; have := HJ93.out; first | omega | exact Nat.le_refl _⟩, ⟨ro_ HO_11⟩, ⟨ro_ HO_16⟩, ⟨xo_ HO_19⟩, ⟨xo_ HO_284000⟩, ⟨xo_ HO_284001⟩, ⟨xo_ HO_284002⟩, BK283, BK284, ⟨hb_ HB⟩⟩
       case rest => as_aux_lemma =>
        clear HC98
        obtain ⟨kq, x17_97, x18_97, x19_97, rfl, rfl, HA, HJ97, HO_11, HO_16, HO_19, HO_284000, HO_284001, HO_284002, BK283, BK284, HB⟩ := hcut
        obtain _ | kj97 := kq
        ·exact absurd HA.out (by simp [Xb.j6])
        have H := HA.out
        clear HA
        simp only [Xb.j6] at H
        have HC116 := Xa.mk H
        clear H
        go_upto_region 25 with (fail)
        go_cut [160] (fun v160 wc => ∃ (kq : Nat) (x160_115 : Bool), v160 = .bool x160_115 ∧ Xa (Xb.j7 kq t305 t308 t309 t310 t311 t316 x17_97 x18_97 x19_97 x160_115 a2_0 a2_1 a2_2 = some r) ∧ Xa (kq ≤ kj97) ∧ Xa (Kd.R (Kd.int .i64) 3 wc w.heap.size (fun k_ => (w.heap.size ≤ k_)) v306 t305) ∧ Xa (Kd.R k79 79 wc w.heap.size (fun k_ => (w.heap.size ≤ k_) ∧ k_ ≠ gb284) v318 t316) ∧ Xa (Kd.N (Kd.slice 79 k79) 62 wc w.heap.size (fun k_ => ((P1_0_ k_ ∨ P1_1_ k_ ∨ P1_2_ k_) ∨ w.heap.size ≤ k_) ∧ some k_ ≠ (v306 : Value).ownBlock ∧ some k_ ≠ (v318 : Value).ownBlock ∧ k_ ≠ gb283 ∧ k_ ≠ gb284) u19 x19_97) ∧ Xa (Kd.V k58 58 wc w.heap.size (fun k_ => ((P1_0_ k_ ∨ P1_1_ k_ ∨ P1_2_ k_) ∨ w.heap.size ≤ k_) ∧ some k_ ≠ (v306 : Value).ownBlock ∧ some k_ ≠ (v318 : Value).ownBlock ∧ some k_ ≠ (u19 : Value).ownBlock ∧ k_ ≠ gb283 ∧ k_ ≠ gb284) (.slice A1_0 l1_0.length c1_0) l1_0) ∧ Xa (Kd.V k58 58 wc w.heap.size (fun k_ => ((P1_0_ k_ ∨ P1_1_ k_ ∨ P1_2_ k_) ∨ w.heap.size ≤ k_) ∧ some k_ ≠ (v306 : Value).ownBlock ∧ some k_ ≠ (v318 : Value).ownBlock ∧ some k_ ≠ (u19 : Value).ownBlock ∧ k_ ≠ gb283 ∧ k_ ≠ gb284) (.slice A1_1 l1_1.length c1_1) l1_1) ∧ Xa (Kd.V k58 58 wc w.heap.size (fun k_ => ((P1_0_ k_ ∨ P1_1_ k_ ∨ P1_2_ k_) ∨ w.heap.size ≤ k_) ∧ some k_ ≠ (v306 : Value).ownBlock ∧ some k_ ≠ (v318 : Value).ownBlock ∧ some k_ ≠ (u19 : Value).ownBlock ∧ k_ ≠ gb283 ∧ k_ ≠ gb284) (.slice A1_2 l1_2.length c1_2) l1_2) ∧ Xa (wc.heap[gb283]? = some (.cells #[(.slice A1_0 l1_0.length c1_0), (.slice A1_1 l1_1.length c1_1), (.slice A1_2 l1_2.length c1_2)] 76 (0, 0))) ∧ Xa (wc.heap[gb284]? = some (.cells #[.int .i64 a2_0, .int .i64 a2_1, .int .i64 a2_2] 79 (0, 0))) ∧ Xa (Below w.heap.size w wc))
        case first => as_aux_lemma =>
         have H := HC116.out
         clear HC116
         by_cases c117 : x17_97 = 0
         ·rw [if_pos c117] at H
          have c117b0 : (x17_97 == 0) = true := beq_iff_eq.mpr c117
          have c117b1 : (x17_97 != 0) = false := bne_eq_false_iff_eq.mpr c117
          clear c117
          (first | rw [c117b0] | (simp only [XR, XS]; rw [c117b0]) | skip)
          have H' := Xa.mk H
          clear H
          have hnb118 := NB283_284.out
          have hnc118 := NB284_283.out
          obtain ⟨hcz119_0, hcz119_1, hcz119_2⟩ := bc3 BK283.out
          obtain ⟨hfz119_0, hfz119_1, hfz119_2⟩ := bf3 BK283.out
          go_wp2
          go_meet
          case rel => exact ⟨_, (((l1_2.length : Int) == 0)), fx_, H', ⟨by have := HJ3.out; have := HJ45.out; have := HJ75.out; have := HJ85.out; have := HJ91.out; have := HJ93.out; have := HJ97.out; first | omega | exact Nat.le_refl _⟩, ⟨ro_ HO_11⟩, ⟨ro_ HO_16⟩, ⟨xo_ HO_19⟩, ⟨xo_ HO_284000⟩, ⟨xo_ HO_284001⟩, ⟨xo_ HO_284002⟩, BK283, BK284, ⟨hb_ HB⟩⟩
         rw [if_neg c117] at H
         have c117b0 : (x17_97 == 0) = false := beq_eq_false_iff_ne.mpr c117
         have c117b1 : (x17_97 != 0) = true := bne_iff_ne.mpr c117
         (first | rw [c117b0] | (simp only [XR, XS]; rw [c117b0]) | skip)
         have H' := Xa.mk H
         clear H
         go_wp2
         go_meet
         case rel => exact ⟨_, (false), fx_, H', ⟨by have := HJ3.out; have := HJ45.out; have := HJ75.out; have := HJ85.out; have := HJ91.out; have := HJ93.out; have := HJ97.out; first | omega | exact Nat.le_refl _⟩, ⟨ro_ HO_11⟩, ⟨ro_ HO_16⟩, ⟨xo_ HO_19⟩, ⟨xo_ HO_284000⟩, ⟨xo_ HO_284001⟩, ⟨xo_ HO_284002⟩, BK283, BK284, ⟨hb_ HB⟩⟩
        case rest => as_aux_lemma =>
         clear HC116
         obtain ⟨kq, x160_115, rfl, HA, HJ115, HO_11, HO_16, HO_19, HO_284000, HO_284001, HO_284002, BK283, BK284, HB⟩ := hcut
         obtain _ | kj115 := kq
         ·exact absurd HA.out (by simp [Xb.j7])
         have H := HA.out
         clear HA
         simp only [Xb.j7] at H
         have HC120 := Xa.mk H
         clear H
         go_upto_if 160 with (fail)
         go_cut [17] (fun v17 wc => ∃ (kq : Nat) (x17_119 : Int), v17 = .int .i64 x17_119 ∧ Xa (Xb.j8 kq t305 t308 t309 t310 t311 t316 x17_119 x18_97 x19_97 a2_0 a2_1 a2_2 = some r) ∧ Xa (kq ≤ kj115) ∧ Xa (Kd.R (Kd.int .i64) 3 wc w.heap.size (fun k_ => (w.heap.size ≤ k_)) v306 t305) ∧ Xa (Kd.R k79 79 wc w.heap.size (fun k_ => (w.heap.size ≤ k_) ∧ k_ ≠ gb284) v318 t316) ∧ Xa (Kd.N (Kd.slice 79 k79) 62 wc w.heap.size (fun k_ => ((P1_0_ k_ ∨ P1_1_ k_ ∨ P1_2_ k_) ∨ w.heap.size ≤ k_) ∧ some k_ ≠ (v306 : Value).ownBlock ∧ some k_ ≠ (v318 : Value).ownBlock ∧ k_ ≠ gb283 ∧ k_ ≠ gb284) u19 x19_97) ∧ Xa (Kd.V k58 58 wc w.heap.size (fun k_ => ((P1_0_ k_ ∨ P1_1_ k_ ∨ P1_2_ k_) ∨ w.heap.size ≤ k_) ∧ some k_ ≠ (v306 : Value).ownBlock ∧ some k_ ≠ (v318 : Value).ownBlock ∧ some k_ ≠ (u19 : Value).ownBlock ∧ k_ ≠ gb283 ∧ k_ ≠ gb284) (.slice A1_0 l1_0.length c1_0) l1_0) ∧ Xa (Kd.V k58 58 wc w.heap.size (fun k_ => ((P1_0_ k_ ∨ P1_1_ k_ ∨ P1_2_ k_) ∨ w.heap.size ≤ k_) ∧ some k_ ≠ (v306 : Value).ownBlock ∧ some k_ ≠ (v318 : Value).ownBlock ∧ some k_ ≠ (u19 : Value).ownBlock ∧ k_ ≠ gb283 ∧ k_ ≠ gb284) (.slice A1_1 l1_1.length c1_1) l1_1) ∧ Xa (Kd.V k58 58 wc w.heap.size (fun k_ => ((P1_0_ k_ ∨ P1_1_ k_ ∨ P1_2_ k_) ∨ w.heap.size ≤ k_) ∧ some k_ ≠ (v306 : Value).ownBlock ∧ some k_ ≠ (v318 : Value).ownBlock ∧ some k_ ≠ (u19 : Value).ownBlock ∧ k_ ≠ gb283 ∧ k_ ≠ gb284) (.slice A1_2 l1_2.length c1_2) l1_2) ∧ Xa (wc.heap[gb283]? = some (.cells #[(.slice A1_0 l1_0.length c1_0), (.slice A1_1 l1_1.length c1_1), (.slice A1_2 l1_2.length c1_2)] 76 (0, 0))) ∧ Xa (wc.heap[gb284]? = some (.cells #[.int .i64 a2_0, .int .i64 a2_1, .int .i64 a2_2] 79 (0, 0))) ∧ Xa (Below w.heap.size w wc))
         case first => as_aux_lemma =>
          have H := HC120.out
          clear HC120
          by_cases c121 : x160_115 = true
          ·subst c121
           have H1 : (Xb.j8 kj115 t305 t308 t309 t310 t311 t316 7 x18_97 x19_97 a2_0 a2_1 a2_2) = some r := by rw [if_pos rfl] at H; exact H
           clear H
           have H := H1
           clear H1
           have H' := Xa.mk H
           clear H
           go_wp2
           go_meet
           case rel => exact ⟨_, (7), fx_, H', ⟨by have := HJ3.out; have := HJ45.out; have := HJ75.out; have := HJ85.out; have := HJ91.out; have := HJ93.out; have := HJ97.out; have := HJ115.out; first | omega | exact Nat.le_refl _⟩, ⟨ro_ HO_11⟩, ⟨ro_ HO_16⟩, ⟨xo_ HO_19⟩, ⟨xo_ HO_284000⟩, ⟨xo_ HO_284001⟩, ⟨xo_ HO_284002⟩, BK283, BK284, ⟨hb_ HB⟩⟩
          replace c121 := Bool.eq_false_iff.mpr c121
          subst c121
          have H1 : (Xb.j8 kj115 t305 t308 t309 t310 t311 t316 x17_97 x18_97 x19_97 a2_0 a2_1 a2_2) = some r := by rw [if_neg (show ¬ (false = true) by decide)] at H; exact H
          clear H
          have H := H1
          clear H1
          have H' := Xa.mk H
          clear H
          go_wp2
          go_meet
          case rel => exact ⟨_, (x17_97), fx_, H', ⟨by have := HJ3.out; have := HJ45.out; have := HJ75.out; have := HJ85.out; have := HJ91.out; have := HJ93.out; have := HJ97.out; have := HJ115.out; first | omega | exact Nat.le_refl _⟩, ⟨ro_ HO_11⟩, ⟨ro_ HO_16⟩, ⟨xo_ HO_19⟩, ⟨xo_ HO_284000⟩, ⟨xo_ HO_284001⟩, ⟨xo_ HO_284002⟩, BK283, BK284, ⟨hb_ HB⟩⟩
         case rest => as_aux_lemma =>
          clear HC120
          obtain ⟨kq, x17_119, rfl, HA, HJ119, HO_11, HO_16, HO_19, HO_284000, HO_284001, HO_284002, BK283, BK284, HB⟩ := hcut
          obtain _ | kj119 := kq
          ·exact absurd HA.out (by simp [Xb.j8])
          have H := HA.out
          clear HA
          simp only [Xb.j8] at H
          have HC122 := Xa.mk H
          clear H
          go_upto_region 27 with (fail)
          go_cut [167] (fun v167 wc => ∃ (kq : Nat) (x167_121 : Bool), v167 = .bool x167_121 ∧ Xa (Xb.j9 kq t305 t308 t309 t310 t311 t316 x17_119 x18_97 x19_97 x167_121 a2_0 a2_1 a2_2 = some r) ∧ Xa (kq ≤ kj119) ∧ Xa (Kd.R (Kd.int .i64) 3 wc w.heap.size (fun k_ => (w.heap.size ≤ k_)) v306 t305) ∧ Xa (Kd.R k79 79 wc w.heap.size (fun k_ => (w.heap.size ≤ k_) ∧ k_ ≠ gb284) v318 t316) ∧ Xa (Kd.N (Kd.slice 79 k79) 62 wc w.heap.size (fun k_ => ((P1_0_ k_ ∨ P1_1_ k_ ∨ P1_2_ k_) ∨ w.heap.size ≤ k_) ∧ some k_ ≠ (v306 : Value).ownBlock ∧ some k_ ≠ (v318 : Value).ownBlock ∧ k_ ≠ gb283 ∧ k_ ≠ gb284) u19 x19_97) ∧ Xa (Kd.V k58 58 wc w.heap.size (fun k_ => ((P1_0_ k_ ∨ P1_1_ k_ ∨ P1_2_ k_) ∨ w.heap.size ≤ k_) ∧ some k_ ≠ (v306 : Value).ownBlock ∧ some k_ ≠ (v318 : Value).ownBlock ∧ some k_ ≠ (u19 : Value).ownBlock ∧ k_ ≠ gb283 ∧ k_ ≠ gb284) (.slice A1_0 l1_0.length c1_0) l1_0) ∧ Xa (Kd.V k58 58 wc w.heap.size (fun k_ => ((P1_0_ k_ ∨ P1_1_ k_ ∨ P1_2_ k_) ∨ w.heap.size ≤ k_) ∧ some k_ ≠ (v306 : Value).ownBlock ∧ some k_ ≠ (v318 : Value).ownBlock ∧ some k_ ≠ (u19 : Value).ownBlock ∧ k_ ≠ gb283 ∧ k_ ≠ gb284) (.slice A1_1 l1_1.length c1_1) l1_1) ∧ Xa (Kd.V k58 58 wc w.heap.size (fun k_ => ((P1_0_ k_ ∨ P1_1_ k_ ∨ P1_2_ k_) ∨ w.heap.size ≤ k_) ∧ some k_ ≠ (v306 : Value).ownBlock ∧ some k_ ≠ (v318 : Value).ownBlock ∧ some k_ ≠ (u19 : Value).ownBlock ∧ k_ ≠ gb283 ∧ k_ ≠ gb284) (.slice A1_2 l1_2.length c1_2) l1_2) ∧ Xa (wc.heap[gb283]? = some (.cells #[(.slice A1_0 l1_0.length c1_0), (.slice A1_1 l1_1.length c1_1), (.slice A1_2 l1_2.length c1_2)] 76 (0, 0))) ∧ Xa (wc.heap[gb284]? = some (.cells #[.int .i64 a2_0, .int .i64 a2_1, .int .i64 a2_2] 79 (0, 0))) ∧ Xa (Below w.heap.size w wc))
          case first => as_aux_lemma =>
           have H := HC122.out
           clear HC122
           by_cases c123 : x17_119 = 0
           ·rw [if_pos c123] at H
            have c123b0 : (x17_119 == 0) = true := beq_iff_eq.mpr c123
            have c123b1 : (x17_119 != 0) = false := bne_eq_false_iff_eq.mpr c123
            clear c123
            (first | rw [c123b0] | (simp only [XR, XS]; rw [c123b0]) | skip)
            have H' := Xa.mk H
            clear H
            obtain ⟨Ao124, co124, eo124⟩ := Kd.R_slice HO_16.out
            subst eo124
            go_wp2
            go_meet
            case rel => exact ⟨_, (((t316.length : Int) == 0)), fx_, H', ⟨by have := HJ3.out; have := HJ45.out; have := HJ75.out; have := HJ85.out; have := HJ91.out; have := HJ93.out; have := HJ97.out; have := HJ115.out; have := HJ119.out; first | omega | exact Nat.le_refl _⟩, ⟨ro_ HO_11⟩, ⟨ro_ HO_16⟩, ⟨xo_ HO_19⟩, ⟨xo_ HO_284000⟩, ⟨xo_ HO_284001⟩, ⟨xo_ HO_284002⟩, BK283, BK284, ⟨hb_ HB⟩⟩
           rw [if_neg c123] at H
           have c123b0 : (x17_119 == 0) = false := beq_eq_false_iff_ne.mpr c123
           have c123b1 : (x17_119 != 0) = true := bne_iff_ne.mpr c123
           (first | rw [c123b0] | (simp only [XR, XS]; rw [c123b0]) | skip)
           have H' := Xa.mk H
           clear H
           go_wp2
           go_meet
           case rel => exact ⟨_, (false), fx_, H', ⟨by have := HJ3.out; have := HJ45.out; have := HJ75.out; have := HJ85.out; have := HJ91.out; have := HJ93.out; have := HJ97.out; have := HJ115.out; have := HJ119.out; first | omega | exact Nat.le_refl _⟩, ⟨ro_ HO_11⟩, ⟨ro_ HO_16⟩, ⟨xo_ HO_19⟩, ⟨xo_ HO_284000⟩, ⟨xo_ HO_284001⟩, ⟨xo_ HO_284002⟩, BK283, BK284, ⟨hb_ HB⟩⟩
          case rest => as_aux_lemma =>
           clear HC122
           obtain ⟨kq, x167_121, rfl, HA, HJ121, HO_11, HO_16, HO_19, HO_284000, HO_284001, HO_284002, BK283, BK284, HB⟩ := hcut
           obtain _ | kj121 := kq
           ·exact absurd HA.out (by simp [Xb.j9])
           have H := HA.out
           clear HA
           simp only [Xb.j9] at H
           have HC125 := Xa.mk H
           clear H
           go_upto_if 167 with (fail)
           go_cut [17] (fun v17 wc => ∃ (kq : Nat) (x17_124 : Int), v17 = .int .i64 x17_124 ∧ Xa (Xb.j10 kq t305 t308 t309 t310 t311 t316 x17_124 x18_97 x19_97 a2_0 a2_1 a2_2 = some r) ∧ Xa (kq ≤ kj121) ∧ Xa (Kd.R (Kd.int .i64) 3 wc w.heap.size (fun k_ => (w.heap.size ≤ k_)) v306 t305) ∧ Xa (Kd.R k79 79 wc w.heap.size (fun k_ => (w.heap.size ≤ k_) ∧ k_ ≠ gb284) v318 t316) ∧ Xa (Kd.N (Kd.slice 79 k79) 62 wc w.heap.size (fun k_ => ((P1_0_ k_ ∨ P1_1_ k_ ∨ P1_2_ k_) ∨ w.heap.size ≤ k_) ∧ some k_ ≠ (v306 : Value).ownBlock ∧ some k_ ≠ (v318 : Value).ownBlock ∧ k_ ≠ gb283 ∧ k_ ≠ gb284) u19 x19_97) ∧ Xa (Kd.V k58 58 wc w.heap.size (fun k_ => ((P1_0_ k_ ∨ P1_1_ k_ ∨ P1_2_ k_) ∨ w.heap.size ≤ k_) ∧ some k_ ≠ (v306 : Value).ownBlock ∧ some k_ ≠ (v318 : Value).ownBlock ∧ some k_ ≠ (u19 : Value).ownBlock ∧ k_ ≠ gb283 ∧ k_ ≠ gb284) (.slice A1_0 l1_0.length c1_0) l1_0) ∧ Xa (Kd.V k58 58 wc w.heap.size (fun k_ => ((P1_0_ k_ ∨ P1_1_ k_ ∨ P1_2_ k_) ∨ w.heap.size ≤ k_) ∧ some k_ ≠ (v306 : Value).ownBlock ∧ some k_ ≠ (v318 : Value).ownBlock ∧ some k_ ≠ (u19 : Value).ownBlock ∧ k_ ≠ gb283 ∧ k_ ≠ gb284) (.slice A1_1 l1_1.length c1_1) l1_1) ∧ Xa (Kd.V k58 58 wc w.heap.size (fun k_ => ((P1_0_ k_ ∨ P1_1_ k_ ∨ P1_2_ k_) ∨ w.heap.size ≤ k_) ∧ some k_ ≠ (v306 : Value).ownBlock ∧ some k_ ≠ (v318 : Value).ownBlock ∧ some k_ ≠ (u19 : Value).ownBlock ∧ k_ ≠ gb283 ∧ k_ ≠ gb284) (.slice A1_2 l1_2.length c1_2) l1_2) ∧ Xa (wc.heap[gb283]? = some (.cells #[(.slice A1_0 l1_0.length c1_0), (.slice A1_1 l1_1.length c1_1), (.slice A1_2 l1_2.length c1_2)] 76 (0, 0))) ∧ Xa (wc.heap[gb284]? = some (.cells #[.int .i64 a2_0, .int .i64 a2_1, .int .i64 a2_2] 79 (0, 0))) ∧ Xa (Below w.heap.size w wc))
           case first => as_aux_lemma =>
            have H := HC125.out
            clear HC125
            by_cases c126 : x167_121 = true
            ·subst c126
             have H1 : (Xb.j10 kj121 t305 t308 t309 t310 t311 t316 9 x18_97 x19_97 a2_0 a2_1 a2_2) = some r := by rw [if_pos rfl] at H; exact H
             clear H
             have H := H1
             clear H1
             have H' := Xa.mk H
             clear H
             go_wp2
             go_meet
             case rel => exact ⟨_, (9), fx_, H', ⟨by have := HJ3.out; have := HJ45.out; have := HJ75.out; have := HJ85.out; have := HJ91.out; have := HJ93.out; have := HJ97.out; have := HJ115.out; have := HJ119.out; have := HJ121.out; first | omega | exact Nat.le_refl _⟩, ⟨ro_ HO_11⟩, ⟨ro_ HO_16⟩, ⟨xo_ HO_19⟩, ⟨xo_ HO_284000⟩, ⟨xo_ HO_284001⟩, ⟨xo_ HO_284002⟩, BK283, BK284, ⟨hb_ HB⟩⟩
            replace c126 := Bool.eq_false_iff.mpr c126
            subst c126
            have H1 : (Xb.j10 kj121 t305 t308 t309 t310 t311 t316 x17_119 x18_97 x19_97 a2_0 a2_1 a2_2) = some r := by rw [if_neg (show ¬ (false = true) by decide)] at H; exact H
            clear H
            have H := H1
            clear H1
            have H' := Xa.mk H
            clear H
            go_wp2
            go_meet
            case rel => exact ⟨_, (x17_119), fx_, H', ⟨by have := HJ3.out; have := HJ45.out; have := HJ75.out; have := HJ85.out; have := HJ91.out; have := HJ93.out; have := HJ97.out; have := HJ115.out; have := HJ119.out; have := HJ121.out; first | omega | exact Nat.le_refl _⟩, ⟨ro_ HO_11⟩, ⟨ro_ HO_16⟩, ⟨xo_ HO_19⟩, ⟨xo_ HO_284000⟩, ⟨xo_ HO_284001⟩, ⟨xo_ HO_284002⟩, BK283, BK284, ⟨hb_ HB⟩⟩
           case rest => as_aux_lemma =>
            clear HC125
            obtain ⟨kq, x17_124, rfl, HA, HJ124, HO_11, HO_16, HO_19, HO_284000, HO_284001, HO_284002, BK283, BK284, HB⟩ := hcut
            obtain _ | kj124 := kq
            ·exact absurd HA.out (by simp [Xb.j10])
            have H := HA.out
            clear HA
            simp only [Xb.j10] at H
            have HC127 := Xa.mk H
            clear H
            go_upto_region 29 with (fail)
            go_cut [175] (fun v175 wc => ∃ (kq : Nat) (x175_126 : Bool), v175 = .bool x175_126 ∧ Xa (Xb.j11 kq t305 t309 t310 t316 x17_124 x18_97 x19_97 x175_126 a2_0 a2_1 a2_2 = some r) ∧ Xa (kq ≤ kj124) ∧ Xa (Kd.R (Kd.int .i64) 3 wc w.heap.size (fun k_ => (w.heap.size ≤ k_)) v306 t305) ∧ Xa (Kd.R k79 79 wc w.heap.size (fun k_ => (w.heap.size ≤ k_) ∧ k_ ≠ gb284) v318 t316) ∧ Xa (Kd.N (Kd.slice 79 k79) 62 wc w.heap.size (fun k_ => ((P1_0_ k_ ∨ P1_1_ k_ ∨ P1_2_ k_) ∨ w.heap.size ≤ k_) ∧ some k_ ≠ (v306 : Value).ownBlock ∧ some k_ ≠ (v318 : Value).ownBlock ∧ k_ ≠ gb283 ∧ k_ ≠ gb284) u19 x19_97) ∧ Xa (Kd.V k58 58 wc w.heap.size (fun k_ => ((P1_0_ k_ ∨ P1_1_ k_ ∨ P1_2_ k_) ∨ w.heap.size ≤ k_) ∧ some k_ ≠ (v306 : Value).ownBlock ∧ some k_ ≠ (v318 : Value).ownBlock ∧ some k_ ≠ (u19 : Value).ownBlock ∧ k_ ≠ gb283 ∧ k_ ≠ gb284) (.slice A1_0 l1_0.length c1_0) l1_0) ∧ Xa (Kd.V k58 58 wc w.heap.size (fun k_ => ((P1_0_ k_ ∨ P1_1_ k_ ∨ P1_2_ k_) ∨ w.heap.size ≤ k_) ∧ some k_ ≠ (v306 : Value).ownBlock ∧ some k_ ≠ (v318 : Value).ownBlock ∧ some k_ ≠ (u19 : Value).ownBlock ∧ k_ ≠ gb283 ∧ k_ ≠ gb284) (.slice A1_1 l1_1.length c1_1) l1_1) ∧ Xa (Kd.V k58 58 wc w.heap.size (fun k_ => ((P1_0_ k_ ∨ P1_1_ k_ ∨ P1_2_ k_) ∨ w.heap.size ≤ k_) ∧ some k_ ≠ (v306 : Value).ownBlock ∧ some k_ ≠ (v318 : Value).ownBlock ∧ some k_ ≠ (u19 : Value).ownBlock ∧ k_ ≠ gb283 ∧ k_ ≠ gb284) (.slice A1_2 l1_2.length c1_2) l1_2) ∧ Xa (wc.heap[gb283]? = some (.cells #[(.slice A1_0 l1_0.length c1_0), (.slice A1_1 l1_1.length c1_1), (.slice A1_2 l1_2.length c1_2)] 76 (0, 0))) ∧ Xa (wc.heap[gb284]? = some (.cells #[.int .i64 a2_0, .int .i64 a2_1, .int .i64 a2_2] 79 (0, 0))) ∧ Xa (Below w.heap.size w wc))
            case first => as_aux_lemma =>
             have H := HC127.out
             clear HC127
             by_cases c128 : t308 = x18_97
             ·rw [if_pos c128] at H
              have c128b0 : (t308 == x18_97) = true := beq_iff_eq.mpr c128
              have c128b1 : (t308 != x18_97) = false := bne_eq_false_iff_eq.mpr c128
              clear c128
              (first | rw [c128b0] | (simp only [XR, XS]; rw [c128b0]) | skip)
              have H' := Xa.mk H
              clear H
              go_wp2
              go_meet
              case rel => exact ⟨_, ((t311 != x17_124)), fx_, H', ⟨by have := HJ3.out; have := HJ45.out; have := HJ75.out; have := HJ85.out; have := HJ91.out; have := HJ93.out; have := HJ97.out; have := HJ115.out; have := HJ119.out; have := HJ121.out; have := HJ124.out; first | omega | exact Nat.le_refl _⟩, ⟨ro_ HO_11⟩, ⟨ro_ HO_16⟩, ⟨xo_ HO_19⟩, ⟨xo_ HO_284000⟩, ⟨xo_ HO_284001⟩, ⟨xo_ HO_284002⟩, BK283, BK284, ⟨hb_ HB⟩⟩
             rw [if_neg c128] at H
             have c128b0 : (t308 == x18_97) = false := beq_eq_false_iff_ne.mpr c128
             have c128b1 : (t308 != x18_97) = true := bne_iff_ne.mpr c128
             (first | rw [c128b0] | (simp only [XR, XS]; rw [c128b0]) | skip)
             have H' := Xa.mk H
             clear H
             go_wp2
             go_meet
             case rel => exact ⟨_, (true), fx_, H', ⟨by have := HJ3.out; have := HJ45.out; have := HJ75.out; have := HJ85.out; have := HJ91.out; have := HJ93.out; have := HJ97.out; have := HJ115.out; have := HJ119.out; have := HJ121.out; have := HJ124.out; first | omega | exact Nat.le_refl _⟩, ⟨ro_ HO_11⟩, ⟨ro_ HO_16⟩, ⟨xo_ HO_19⟩, ⟨xo_ HO_284000⟩, ⟨xo_ HO_284001⟩, ⟨xo_ HO_284002⟩, BK283, BK284, ⟨hb_ HB⟩⟩
            case rest => as_aux_lemma =>
             clear HC127
             obtain ⟨kq, x175_126, rfl, HA, HJ126, HO_11, HO_16, HO_19, HO_284000, HO_284001, HO_284002, BK283, BK284, HB⟩ := hcut
             obtain _ | kj126 := kq
             ·exact absurd HA.out (by simp [Xb.j11])
             have H := HA.out
             clear HA
             simp only [Xb.j11] at H
             by_cases c129 : x175_126 = true
             ·subst c129
              have H1 : (none) = some r := by rw [if_pos rfl] at H; exact H
              clear H
              have H := H1
              clear H1
              exact absurd H (by simp)
             replace c129 := Bool.eq_false_iff.mpr c129
             subst c129
             have H1 : (Xb.l0 kj126 t305 t309 t310 t316 x17_124 x18_97 x19_97 (([] : List Int)) 0 a2_0 a2_1 a2_2) = some r := by rw [if_neg (show ¬ (false = true) by decide)] at H; exact H
             clear H
             have H := H1
             clear H1
             obtain ⟨y329, hy329⟩ : ∃ y_ : List Int, y_ = (([] : List Int)) := ⟨_, rfl⟩
             replace H : (Xb.l0 kj126 t305 t309 t310 t316 x17_124 x18_97 x19_97 y329 0 a2_0 a2_1 a2_2) = some r := by first | (rw [hy329]; with_reducible exact H) | (have H2_ := (Option.bind_some _ _).symm.trans H; rw [hy329]; with_reducible exact H2_) | (have H2_ := (Option.bind_some _ _).symm.trans H; with_reducible exact H2_) | with_reducible exact H | (rw [hy329]; exact H) | exact H
             have Ny329 := Xa.mk hy329
             clear hy329
             have H' := Xa.mk H
             clear H
             go_wp2_with (first | ((with_reducible refine Xz (N := 176) rfl ?_); (try (refine Yk (by rfl) ?_; dsimp only)); refine Kd.R_lit (Kd.int .i64) _ 3 ?hg (N := 176) ?hd (xs := ([] : List Int)) (inner := []) (ok := fun _ => True) (okp := fun _ => True) ?hr ?hp (fun _ hk => hk) trivial (Below.refl _ _) (Nat.le_refl _) (by simp) ?_; (case hd => rfl); (case hg => rfl); (case hr => first | (go_simp; done) | (go_simp; rfl)); (case hp => exact (Reps.none _ _)); intro v330 w130 ho131 hb hg_ hnew_; clear hg_ hnew_; (first | rw [← Ny329.out] at ho131 | (simp only [Int.reduceToNat] at ho131; rw [← Ny329.out] at ho131)); replace HO_16 := rb_ HO_16 hb; replace HO_19 := Xa.mk (Kd.N_elder' (xo_ HO_19) (Kd.R_base ho131) hb); replace HO_284000 := Xa.mk (Kd.V_elder' (xo_ HO_284000) (Kd.R_base ho131) hb); replace HO_284001 := Xa.mk (Kd.V_elder' (xo_ HO_284001) (Kd.R_base ho131) hb); replace HO_284002 := Xa.mk (Kd.V_elder' (xo_ HO_284002) (Kd.R_base ho131) hb); have HO331 := Xa.mk (Kd.R_lower (Kd.R_new' (Kd.R_newM (M := fun k_ => (w.heap.size ≤ k_)) ho131 (Xg (hb_ HB)) (fun k_ h_ => h_)) (Kd.R_lt (ro_ HO_11))) (Xg (hb_ HB))); replace HO_11 := Xa.mk (Kd.R_elder' (ro_ HO_11) (Kd.R_base ho131) hb); replace BK283 := kb_ BK283 hb; replace BK284 := kb_ BK284 hb; replace HB := sb_ HB hb; clear hb ho131))
             go_loopg [22, 23] kj126 (fun kq v22 v23 w' => ∃ (x22_13 : List Int) (x23_13 : Int), v23 = .int .i64 x23_13 ∧ Xa (Xb.l0 kq t305 t309 t310 t316 x17_124 x18_97 x19_97 x22_13 x23_13 a2_0 a2_1 a2_2 = some r) ∧ Xa (kq ≤ kj126) ∧ Xa (Kd.R (Kd.int .i64) 3 w' w.heap.size (fun k_ => (w.heap.size ≤ k_) ∧ some k_ ≠ (v22 : Value).ownBlock) v306 t305) ∧ Xa (Kd.R k79 79 w' w.heap.size (fun k_ => (w.heap.size ≤ k_) ∧ k_ ≠ gb284) v318 t316) ∧ Xa (Kd.N (Kd.slice 79 k79) 62 w' w.heap.size (fun k_ => ((P1_0_ k_ ∨ P1_1_ k_ ∨ P1_2_ k_) ∨ w.heap.size ≤ k_) ∧ some k_ ≠ (v306 : Value).ownBlock ∧ some k_ ≠ (v318 : Value).ownBlock ∧ some k_ ≠ (v22 : Value).ownBlock ∧ k_ ≠ gb283 ∧ k_ ≠ gb284) u19 x19_97) ∧ Xa (Kd.R (Kd.int .i64) 3 w' w.heap.size (fun k_ => (w.heap.size ≤ k_) ∧ some k_ ≠ (v306 : Value).ownBlock) v22 x22_13) ∧ Xa (Kd.V k58 58 w' w.heap.size (fun k_ => ((P1_0_ k_ ∨ P1_1_ k_ ∨ P1_2_ k_) ∨ w.heap.size ≤ k_) ∧ some k_ ≠ (v306 : Value).ownBlock ∧ some k_ ≠ (v318 : Value).ownBlock ∧ some k_ ≠ (u19 : Value).ownBlock ∧ some k_ ≠ (v22 : Value).ownBlock ∧ k_ ≠ gb283 ∧ k_ ≠ gb284) (.slice A1_0 l1_0.length c1_0) l1_0) ∧ Xa (Kd.V k58 58 w' w.heap.size (fun k_ => ((P1_0_ k_ ∨ P1_1_ k_ ∨ P1_2_ k_) ∨ w.heap.size ≤ k_) ∧ some k_ ≠ (v306 : Value).ownBlock ∧ some k_ ≠ (v318 : Value).ownBlock ∧ some k_ ≠ (u19 : Value).ownBlock ∧ some k_ ≠ (v22 : Value).ownBlock ∧ k_ ≠ gb283 ∧ k_ ≠ gb284) (.slice A1_1 l1_1.length c1_1) l1_1) ∧ Xa (Kd.V k58 58 w' w.heap.size (fun k_ => ((P1_0_ k_ ∨ P1_1_ k_ ∨ P1_2_ k_) ∨ w.heap.size ≤ k_) ∧ some k_ ≠ (v306 : Value).ownBlock ∧ some k_ ≠ (v318 : Value).ownBlock ∧ some k_ ≠ (u19 : Value).ownBlock ∧ some k_ ≠ (v22 : Value).ownBlock ∧ k_ ≠ gb283 ∧ k_ ≠ gb284) (.slice A1_2 l1_2.length c1_2) l1_2) ∧ Xa (w'.heap[gb283]? = some (.cells #[(.slice A1_0 l1_0.length c1_0), (.slice A1_1 l1_1.length c1_1), (.slice A1_2 l1_2.length c1_2)] 76 (0, 0))) ∧ Xa (w'.heap[gb284]? = some (.cells #[.int .i64 a2_0, .int .i64 a2_1, .int .i64 a2_2] 79 (0, 0))) ∧ Xa (Below w.heap.size w w'))
             case atStart => exact ⟨(y329), (0), fx_, H', ⟨Nat.le_refl _⟩, ⟨ro_ HO_11⟩, ⟨ro_ HO_16⟩, ⟨by (with_reducible repeat (first | apply Kd.N_alloc | apply Kd.N_drewN | apply Kd.N_drew)); exact Kd.N_mono HO_19.out (fun _ hk => ⟨hk.1.1, ⟨hk.1.2.1, ⟨hk.1.2.2.1, ⟨hk.2, ⟨hk.1.2.2.2.1, hk.1.2.2.2.2⟩⟩⟩⟩⟩)⟩, ⟨by (with_reducible repeat (first | apply Kd.R_alloc | apply Kd.R_drewN | apply Kd.R_drew)); exact Kd.R_mono HO331.out (fun _ hk => ⟨hk.1.1, hk.2⟩)⟩, ⟨by (with_reducible repeat (first | apply Kd.V_alloc | apply Kd.V_drewN | apply Kd.V_drew)); exact Kd.V_mono HO_284000.out (fun _ hk => ⟨hk.1.1, ⟨hk.1.2.1, ⟨hk.1.2.2.1, ⟨hk.1.2.2.2.1, ⟨hk.2, ⟨hk.1.2.2.2.2.1, hk.1.2.2.2.2.2⟩⟩⟩⟩⟩⟩)⟩, ⟨by (with_reducible repeat (first | apply Kd.V_alloc | apply Kd.V_drewN | apply Kd.V_drew)); exact Kd.V_mono HO_284001.out (fun _ hk => ⟨hk.1.1, ⟨hk.1.2.1, ⟨hk.1.2.2.1, ⟨hk.1.2.2.2.1, ⟨hk.2, ⟨hk.1.2.2.2.2.1, hk.1.2.2.2.2.2⟩⟩⟩⟩⟩⟩)⟩, ⟨by (with_reducible repeat (first | apply Kd.V_alloc | apply Kd.V_drewN | apply Kd.V_drew)); exact Kd.V_mono HO_284002.out (fun _ hk => ⟨hk.1.1, ⟨hk.1.2.1, ⟨hk.1.2.2.1, ⟨hk.1.2.2.2.1, ⟨hk.2, ⟨hk.1.2.2.2.2.1, hk.1.2.2.2.2.2⟩⟩⟩⟩⟩⟩)⟩, BK283, BK284, ⟨hb_ HB⟩⟩
             case round => as_aux_lemma =>
              clear H'
              obtain ⟨x22_13, x23_13, rfl, HA, HK13, HO_11, HO_16, HO_19, HO_22, HO_284000, HO_284001, HO_284002, BK283, BK284, HB⟩ := hrel
              obtain _ | k13 := gk
              ·exact absurd HA.out (by simp [Xb.l0])
              have H := HA.out
              clear HA
              simp only [Xb.l0] at H
              have HC132 := Xa.mk H
              clear H
              go_upto_region 33 with (fail)
              go_cut [184] (fun v184 wc => ∃ (kq : Nat) (x184_131 : Bool), v184 = .bool x184_131 ∧ Xa (Xb.j13 kq t305 t309 t310 t316 x17_124 x18_97 x19_97 x22_13 x23_13 x184_131 a2_0 a2_1 a2_2 = some r) ∧ Xa (kq ≤ k13) ∧ Xa (Kd.R (Kd.int .i64) 3 wc w.heap.size (fun k_ => (w.heap.size ≤ k_) ∧ some k_ ≠ (u22 : Value).ownBlock) v306 t305) ∧ Xa (Kd.R k79 79 wc w.heap.size (fun k_ => (w.heap.size ≤ k_) ∧ k_ ≠ gb284) v318 t316) ∧ Xa (Kd.N (Kd.slice 79 k79) 62 wc w.heap.size (fun k_ => ((P1_0_ k_ ∨ P1_1_ k_ ∨ P1_2_ k_) ∨ w.heap.size ≤ k_) ∧ some k_ ≠ (v306 : Value).ownBlock ∧ some k_ ≠ (v318 : Value).ownBlock ∧ some k_ ≠ (u22 : Value).ownBlock ∧ k_ ≠ gb283 ∧ k_ ≠ gb284) u19 x19_97) ∧ Xa (Kd.R (Kd.int .i64) 3 wc w.heap.size (fun k_ => (w.heap.size ≤ k_) ∧ some k_ ≠ (v306 : Value).ownBlock) u22 x22_13) ∧ Xa (Kd.V k58 58 wc w.heap.size (fun k_ => ((P1_0_ k_ ∨ P1_1_ k_ ∨ P1_2_ k_) ∨ w.heap.size ≤ k_) ∧ some k_ ≠ (v306 : Value).ownBlock ∧ some k_ ≠ (v318 : Value).ownBlock ∧ some k_ ≠ (u19 : Value).ownBlock ∧ some k_ ≠ (u22 : Value).ownBlock ∧ k_ ≠ gb283 ∧ k_ ≠ gb284) (.slice A1_0 l1_0.length c1_0) l1_0) ∧ Xa (Kd.V k58 58 wc w.heap.size (fun k_ => ((P1_0_ k_ ∨ P1_1_ k_ ∨ P1_2_ k_) ∨ w.heap.size ≤ k_) ∧ some k_ ≠ (v306 : Value).ownBlock ∧ some k_ ≠ (v318 : Value).ownBlock ∧ some k_ ≠ (u19 : Value).ownBlock ∧ some k_ ≠ (u22 : Value).ownBlock ∧ k_ ≠ gb283 ∧ k_ ≠ gb284) (.slice A1_1 l1_1.length c1_1) l1_1) ∧ Xa (Kd.V k58 58 wc w.heap.size (fun k_ => ((P1_0_ k_ ∨ P1_1_ k_ ∨ P1_2_ k_) ∨ w.heap.size ≤ k_) ∧ some k_ ≠ (v306 : Value).ownBlock ∧ some k_ ≠ (v318 : Value).ownBlock ∧ some k_ ≠ (u19 : Value).ownBlock ∧ some k_ ≠ (u22 : Value).ownBlock ∧ k_ ≠ gb283 ∧ k_ ≠ gb284) (.slice A1_2 l1_2.length c1_2) l1_2) ∧ Xa (wc.heap[gb283]? = some (.cells #[(.slice A1_0 l1_0.length c1_0), (.slice A1_1 l1_1.length c1_1), (.slice A1_2 l1_2.length c1_2)] 76 (0, 0))) ∧ Xa (wc.heap[gb284]? = some (.cells #[.int .i64 a2_0, .int .i64 a2_1, .int .i64 a2_2] 79 (0, 0))) ∧ Xa (Below w.heap.size w wc))
              case first => as_aux_lemma =>
               have H := HC132.out
               clear HC132
               by_cases c133 : x23_13 < (x19_97.length : Int)
               ·rw [if_pos c133] at H
                have c133b0 : decide (x23_13 < (x19_97.length : Int)) = true := decide_eq_true c133
                clear c133
                (first | rw [c133b0] | (simp only [XR, XS]; rw [c133b0]) | skip)
                have H' := Xa.mk H
                clear H
                obtain ⟨Ao134, co134, eo134⟩ := Kd.N_slice HO_19.out
                subst eo134
                go_wp2
                go_meet
                case rel => exact ⟨_, ((x18_97 == 0)), fx_, H', ⟨by have := HJ3.out; have := HJ45.out; have := HJ75.out; have := HJ85.out; have := HJ91.out; have := HJ93.out; have := HJ97.out; have := HJ115.out; have := HJ119.out; have := HJ121.out; have := HJ124.out; have := HJ126.out; have := HK13.out; first | omega | exact Nat.le_refl _⟩, ⟨ro_ HO_11⟩, ⟨ro_ HO_16⟩, ⟨xo_ HO_19⟩, ⟨ro_ HO_22⟩, ⟨xo_ HO_284000⟩, ⟨xo_ HO_284001⟩, ⟨xo_ HO_284002⟩, BK283, BK284, ⟨hb_ HB⟩⟩
               rw [if_neg c133] at H
               have c133b0 : decide (x23_13 < (x19_97.length : Int)) = false := decide_eq_false c133
               clear c133
               (first | rw [c133b0] | (simp only [XR, XS]; rw [c133b0]) | skip)
               have H' := Xa.mk H
               clear H
               obtain ⟨Ao135, co135, eo135⟩ := Kd.N_slice HO_19.out
               subst eo135
               go_wp2
               go_meet
               case rel => exact ⟨_, (false), fx_, H', ⟨by have := HJ3.out; have := HJ45.out; have := HJ75.out; have := HJ85.out; have := HJ91.out; have := HJ93.out; have := HJ97.out; have := HJ115.out; have := HJ119.out; have := HJ121.out; have := HJ124.out; have := HJ126.out; have := HK13.out; first | omega | exact Nat.le_refl _⟩, ⟨ro_ HO_11⟩, ⟨ro_ HO_16⟩, ⟨xo_ HO_19⟩, ⟨ro_ HO_22⟩, ⟨xo_ HO_284000⟩, ⟨xo_ HO_284001⟩, ⟨xo_ HO_284002⟩, BK283, BK284, ⟨hb_ HB⟩⟩
              case rest => as_aux_lemma =>
               clear HC132
               obtain ⟨kq, x184_131, rfl, HA, HJ131, HO_11, HO_16, HO_19, HO_22, HO_284000, HO_284001, HO_284002, BK283, BK284, HB⟩ := hcut
               obtain _ | kj131 := kq
               ·exact absurd HA.out (by simp [Xb.j13])
               have H := HA.out
               clear HA
               simp only [Xb.j13] at H
               by_cases c136 : x184_131 = true
               ·subst c136
                have H1 : (if 0 ≤ x23_13 then (if x23_13 < (x19_97.length : Int) then ((Xy.f kj131 (XA x19_97 x23_13) a2_0 a2_1 a2_2).bind fun t333 => (if t333 = true then (if x22_13.length < 17592186044416 then (Xb.l0 kj131 t305 t309 t310 t316 x17_124 x18_97 x19_97 (x22_13 ++ [x23_13]) (wrap64 (x23_13 + 1)) a2_0 a2_1 a2_2) else (none)) else (Xb.l0 kj131 t305 t309 t310 t316 x17_124 x18_97 x19_97 x22_13 (wrap64 (x23_13 + 1)) a2_0 a2_1 a2_2))) else (none)) else (none)) = some r := by rw [if_pos rfl] at H; exact H
                clear H
                have H := H1
                clear H1
                by_cases c137 : 0 ≤ x23_13
                rotate_left
                ·rw [if_neg c137] at H
                 exact absurd H (by simp)
                rw [if_pos c137] at H
                have c137b0 : decide (0 ≤ x23_13) = true := decide_eq_true c137
                clear c137
                by_cases c138 : x23_13 < (x19_97.length : Int)
                rotate_left
                ·rw [if_neg c138] at H
                 exact absurd H (by simp)
                rw [if_pos c138] at H
                have c138b0 : decide (x23_13 < (x19_97.length : Int)) = true := decide_eq_true c138
                clear c138
                replace H := Option.bind_eq_some_iff.mp H
                obtain ⟨t333, A1390, H⟩ := H; (try dsimp only at H)
                have A139 := Xa.mk A1390
                clear A1390
                by_cases c140 : t333 = true
                ·subst c140
                 have H1 : (if x22_13.length < 17592186044416 then (Xb.l0 kj131 t305 t309 t310 t316 x17_124 x18_97 x19_97 (x22_13 ++ [x23_13]) (wrap64 (x23_13 + 1)) a2_0 a2_1 a2_2) else (none)) = some r := by rw [if_pos rfl] at H; exact H
                 clear H
                 have H := H1
                 clear H1
                 by_cases c141 : x22_13.length < 17592186044416
                 rotate_left
                 ·rw [if_neg c141] at H
                  exact absurd H (by simp)
                 rw [if_pos c141] at H
                 have LMc141 := Xa.mk c141
                 clear c141
                 obtain ⟨y334, hy334⟩ : ∃ y_ : List Int, y_ = (x22_13 ++ [x23_13]) := ⟨_, rfl⟩
                 replace H : (Xb.l0 kj131 t305 t309 t310 t316 x17_124 x18_97 x19_97 y334 (wrap64 (x23_13 + 1)) a2_0 a2_1 a2_2) = some r := by first | (rw [hy334]; with_reducible exact H) | (have H2_ := (Option.bind_some _ _).symm.trans H; rw [hy334]; with_reducible exact H2_) | (have H2_ := (Option.bind_some _ _).symm.trans H; with_reducible exact H2_) | with_reducible exact H | (rw [hy334]; exact H) | exact H
                 have Ny334 := Xa.mk hy334
                 clear hy334
                 have H' := Xa.mk H
                 clear H
                 try go_wp2
                 replace HO_11 := Xa.mk (Kd.R_drew HO_11.out)
                 replace HO_16 := Xa.mk (Kd.R_drew HO_16.out)
                 replace HO_19 := Xa.mk (Kd.N_drew HO_19.out)
                 replace HO_22 := Xa.mk (Kd.R_drew HO_22.out)
                 replace HO_284000 := Xa.mk (Kd.V_drew HO_284000.out)
                 replace HO_284001 := Xa.mk (Kd.V_drew HO_284001.out)
                 replace HO_284002 := Xa.mk (Kd.V_drew HO_284002.out)
                 replace BK283 := Xa.mk (X3 BK283.out)
                 replace BK284 := Xa.mk (X3 BK284.out)
                 replace HB := Xa.mk (Xl HB.out)
                 obtain ⟨Ao143, co143, eo143⟩ := Kd.N_slice HO_19.out
                 (first | subst eo143 | (injection eo143 with f1_ f2_ f3_; have f4_ := f1_.symm; have f5_ := f3_.symm; clear f1_ f2_ f3_; subst f4_; subst f5_))
                 have p332 : 0 ≤ (x23_13 : Int) := of_decide_eq_true ‹_›
                 have q332 : x23_13 < (x19_97.length : Int) := of_decide_eq_true ‹_›
                 obtain ⟨ad332, A332_0, c332_0, e332, hx332_0, hl332_0, hi332_0⟩ := XaB (Kd.N_reads' HO_19.out).2.2 x23_13 p332 q332
                 cases e332
                 obtain ⟨ce332, hce332, hMe332, hcc332⟩ := Kd.N_get HO_19.out [] x23_13 p332 (by first | exact q332 | exact of_decide_eq_true ‹_› | (have e_ := (Kd.N_reads' HO_19.out).1; omega))
                 obtain ⟨ua332_0, uc332_0, rfl, ul332_0, ge332_0⟩ := Kd.FK_slice_open hMe332
                 have hv332_0 := hcc332 0 _ rfl
                 rw [Nat.add_zero, show ((Kd.slice 79 k79)).sz = 1 from rfl, Nat.mul_one] at hv332_0
                 replace hv332_0 := Option.some.inj (hv332_0.symm.trans hx332_0)
                 injection hv332_0 with hva_ hvn_ hvc_
                 rw [hva_] at ge332_0
                 rw [hvc_] at ul332_0
                 have HL332_0 := Xa.mk (show Kd.V k79 79 _ w.heap.size _ _ (XA x19_97 x23_13) from Kd.V_mk ul332_0 ge332_0)
                 clear hva_ hvn_ hvc_ ge332_0 ul332_0
                 clear hcc332 hce332
                 have HR332_0 := Xa.mk hi332_0
                 have HC332_0 := Xa.mk hl332_0
                 clear hi332_0 hl332_0
                 replace p332 := eq_true p332
                 replace q332 := eq_true q332
                 refine Yy (n := 6) (S := fun w' => w'.cell? ⟨gb284, 0, none⟩ = some (.int .i64 a2_0) ∧ w'.cell? ⟨gb284, 1, none⟩ = some (.int .i64 a2_1) ∧ w'.cell? ⟨gb284, 2, none⟩ = some (.int .i64 a2_2) ∧ w'.cell? (ad332.add (x23_13).toNat) = some (.slice A332_0 (XA x19_97 x23_13).length c332_0)) (ds := []) #[ff, ff, ff, ff, ff, ff] (by kernel_rfl) rfl rfl ⟨(Xe BK284.out 0).trans rfl, (Xe BK284.out 1).trans rfl, (Xe BK284.out 2).trans rfl, hx332_0⟩ (fun hHeld => ?_)
                 generalize wc.drew = w142 at HO_11 HO_16 HO_19 HO_22 HO_284000 HO_284001 HO_284002 BK283 BK284 HB HL332_0 HR332_0 hx332_0 hHeld ⊢
                 refine pv_ 0 187 ?_
                 refine pv_ 1 188 ?_
                 refine pv_ 2 189 ?_
                 refine tv_ 3 190 hHeld ?_
                 refine tv_ 4 191 hHeld ?_
                 refine one_ (i := 5) (N := some 192) #[tt, tt, tt, tt, tt, tt] rfl rfl (by kernel_rfl) (by decide) (fun K hK => ?_)
                 refine Y8 Try.func47 (by kernel_rfl) rfl #[.slice A332_0 (XA x19_97 x23_13).length c332_0, .agg #[.int .i64 a2_0, .int .i64 a2_1, .int .i64 a2_2]] (by rfl) rfl rfl (by (try simp only [List.map_toArray, List.map_cons, List.map_nil]); first | done | rfl | (simp only [List.length_drop, List.length_take]; rfl)) ?_
                 with_reducible refine (Xy.calls kj131 _ _ (XA x19_97 x23_13) a2_0 a2_1 a2_2 true _ ?side1 ?side2 A139.out).mono ?_
                 (case side1 => repeat (first | exact (by repeat (first | (with_reducible exact HR332_0.out) | (with_reducible refine Kd.C_alloc ?_ _) | (with_reducible refine Kd.C_drewN ?_ _) | (with_reducible refine Kd.C_drew ?_) | exact HR332_0.out)) | (with_reducible refine Kd.C_alloc ?_ _) | (with_reducible refine Kd.C_drewN ?_ _) | (with_reducible refine Kd.C_drew ?_)))
                 (case side2 => exact HC332_0.out)
                 rintro e w144 ⟨rfl, hb⟩
                 have HS3_ := (hb.cell (World.block_lt_of_cell? _ _ (hHeld.2.2.2))).trans (hHeld.2.2.2)
                 refine ⟨_, rfl, ?_⟩
                 replace HO_11 := rb_ HO_11 hb
                 replace HO_16 := rb_ HO_16 hb
                 replace HO_19 := Xa.mk (Kd.N_below (xo_ HO_19) hb)
                 replace HO_22 := rb_ HO_22 hb
                 replace HO_284000 := Xa.mk (Kd.V_below (xo_ HO_284000) hb)
                 replace HO_284001 := Xa.mk (Kd.V_below (xo_ HO_284001) hb)
                 replace HO_284002 := Xa.mk (Kd.V_below (xo_ HO_284002) hb)
                 replace HL332_0 := Xa.mk (Kd.V_below (xo_ HL332_0) hb)
                 replace BK283 := kb_ BK283 hb
                 replace BK284 := kb_ BK284 hb
                 replace HR332_0 := Xa.mk (Kd.C_below (by repeat (first | (with_reducible exact HR332_0.out) | (with_reducible refine Kd.C_alloc ?_ _) | (with_reducible refine Kd.C_drewN ?_ _) | (with_reducible refine Kd.C_drew ?_) | exact HR332_0.out)) hb)
                 replace HB := sb_ HB hb
                 (try clear hb)
                 (try clear hb2)
                 (try clear hk)
                 (try clear hi)
                 refine hK.out _ _ ⟨(Xe BK284.out 0).trans rfl, (Xe BK284.out 1).trans rfl, (Xe BK284.out 2).trans rfl, HS3_⟩ (fun hHeld => ?_)
                 clear hK K
                 refine Yr (a' := ?_) ?_ ?_
                 rotate_left
                 ·show Act.put _ (some 192) _ = _
                  simp only [Act.put, sa_, s0_, s1_, XR, XS]
                  rfl
                 refine YS (by kernel_rfl) ?_
                 try go_wp2_with (first | ((with_reducible refine YJ (b := .append) (xs := #[.tmp 193, .tmp 195]) rfl ?_); (try (refine Yk (by rfl) ?_; dsimp only)); at_builtin; refine Kd.R_append (Kd.int .i64) (w0 := w) w.heap.size rfl (.tmp 193) (.tmp 195) 22 3 (.int .i64 0) 8 rfl Try.underlying22 Xih rfl (by decide) (by omega) u22 x22_13 x23_13 [.int .i64 x23_13] (fun k_ => (w.heap.size ≤ k_) ∧ some k_ ≠ (v306 : Value).ownBlock) (fun _ => False) rfl rfl ?aP (fun _ hk => hk.elim) ?aF ?aO ?aB ?aS ?aL ?_; (case aP => exact rfl); (case aB => exact (hb_ HB)); (case aF => exact (fun k_ hk => ⟨(Nat.le_trans (Xg (hb_ HB)) hk), Kd.fresh' (Kd.R_lt (ro_ HO_11)) k_ hk⟩)); (case aO => exact (ro_ HO_22)); (case aS => exact (Xg (hb_ HB))); (case aL => have := LMc141.out; omega); intro v335 w145 ho hb hg hat; rw [← Ny334.out] at ho; replace HO_11 := Xa.mk (Kd.R_after (ok := (fun k_ => (w.heap.size ≤ k_))) (ro_ HO_11) hg hat); replace HO_16 := Xa.mk (Kd.R_over' (ro_ HO_16) (Kd.R_typed (ro_ HO_22)) (by decide) hg); replace HO_19 := Xa.mk (Kd.N_afterv (ok := (fun k_ => ((P1_0_ k_ ∨ P1_1_ k_ ∨ P1_2_ k_) ∨ w.heap.size ≤ k_) ∧ some k_ ≠ (v306 : Value).ownBlock ∧ some k_ ≠ (v318 : Value).ownBlock ∧ k_ ≠ gb283 ∧ k_ ≠ gb284)) (by (with_reducible repeat (first | apply Kd.N_alloc | apply Kd.N_drewN | apply Kd.N_drew)); exact Kd.N_mono HO_19.out (fun _ hk => ⟨⟨hk.1, ⟨hk.2.1, ⟨hk.2.2.1, ⟨hk.2.2.2.2.1, hk.2.2.2.2.2⟩⟩⟩⟩, hk.2.2.2.1⟩)) hg hat); replace HO_284000 := Xa.mk (Kd.V_afterv (ok := (fun k_ => ((P1_0_ k_ ∨ P1_1_ k_ ∨ P1_2_ k_) ∨ w.heap.size ≤ k_) ∧ some k_ ≠ (v306 : Value).ownBlock ∧ some k_ ≠ (v318 : Value).ownBlock ∧ some k_ ≠ (.slice (some ad332) x19_97.length co143 : Value).ownBlock ∧ k_ ≠ gb283 ∧ k_ ≠ gb284)) (by (with_reducible repeat (first | apply Kd.V_alloc | apply Kd.V_drewN | apply Kd.V_drew)); exact Kd.V_mono HO_284000.out (fun _ hk => ⟨⟨hk.1, ⟨hk.2.1, ⟨hk.2.2.1, ⟨hk.2.2.2.1, ⟨hk.2.2.2.2.2.1, hk.2.2.2.2.2.2⟩⟩⟩⟩⟩, hk.2.2.2.2.1⟩)) hg hat); replace HO_284001 := Xa.mk (Kd.V_afterv (ok := (fun k_ => ((P1_0_ k_ ∨ P1_1_ k_ ∨ P1_2_ k_) ∨ w.heap.size ≤ k_) ∧ some k_ ≠ (v306 : Value).ownBlock ∧ some k_ ≠ (v318 : Value).ownBlock ∧ some k_ ≠ (.slice (some ad332) x19_97.length co143 : Value).ownBlock ∧ k_ ≠ gb283 ∧ k_ ≠ gb284)) (by (with_reducible repeat (first | apply Kd.V_alloc | apply Kd.V_drewN | apply Kd.V_drew)); exact Kd.V_mono HO_284001.out (fun _ hk => ⟨⟨hk.1, ⟨hk.2.1, ⟨hk.2.2.1, ⟨hk.2.2.2.1, ⟨hk.2.2.2.2.2.1, hk.2.2.2.2.2.2⟩⟩⟩⟩⟩, hk.2.2.2.2.1⟩)) hg hat); replace HO_284002 := Xa.mk (Kd.V_afterv (ok := (fun k_ => ((P1_0_ k_ ∨ P1_1_ k_ ∨ P1_2_ k_) ∨ w.heap.size ≤ k_) ∧ some k_ ≠ (v306 : Value).ownBlock ∧ some k_ ≠ (v318 : Value).ownBlock ∧ some k_ ≠ (.slice (some ad332) x19_97.length co143 : Value).ownBlock ∧ k_ ≠ gb283 ∧ k_ ≠ gb284)) (by (with_reducible repeat (first | apply Kd.V_alloc | apply Kd.V_drewN | apply Kd.V_drew)); exact Kd.V_mono HO_284002.out (fun _ hk => ⟨⟨hk.1, ⟨hk.2.1, ⟨hk.2.2.1, ⟨hk.2.2.2.1, ⟨hk.2.2.2.2.2.1, hk.2.2.2.2.2.2⟩⟩⟩⟩⟩, hk.2.2.2.2.1⟩)) hg hat); replace BK283 := Xa.mk (Yx (bk_ BK283) hg (Kd.R_ne HO_22.out BK283.out (by decide))); replace BK284 := Xa.mk (Yx (bk_ BK284) hg (Kd.R_ne HO_22.out BK284.out (by decide))); replace HL332_0 := Xa.mk (Kd.V_afterv (ok := (fun k_ => ((P1_0_ k_ ∨ P1_1_ k_ ∨ P1_2_ k_) ∨ w.heap.size ≤ k_) ∧ some k_ ≠ (v306 : Value).ownBlock ∧ some k_ ≠ (v318 : Value).ownBlock ∧ some k_ ≠ (.slice (some ad332) x19_97.length co143 : Value).ownBlock ∧ k_ ≠ gb283 ∧ k_ ≠ gb284)) (by (with_reducible repeat (first | apply Kd.V_alloc | apply Kd.V_drewN | apply Kd.V_drew)); exact Kd.V_mono HL332_0.out (fun _ hk => ⟨⟨hk.1.1, ⟨hk.1.2.1, ⟨hk.1.2.2.1, ⟨hk.2, ⟨hk.1.2.2.2.2.1, hk.1.2.2.2.2.2⟩⟩⟩⟩⟩, hk.1.2.2.2.1⟩)) hg hat); replace HB := Xa.mk (hb); have HO336 := Xa.mk (ho); clear HO_22; clear ho hb hg hat))
                 go_roundg kj131
                 case measure => have := HJ3.out; have := HJ45.out; have := HJ75.out; have := HJ85.out; have := HJ91.out; have := HJ93.out; have := HJ97.out; have := HJ115.out; have := HJ119.out; have := HJ121.out; have := HJ124.out; have := HJ126.out; have := HK13.out; have := HJ131.out; omega
                 case rel => exact ⟨(y334), (wrap64 (x23_13 + 1)), fx_, H', ⟨by have := HJ3.out; have := HJ45.out; have := HJ75.out; have := HJ85.out; have := HJ91.out; have := HJ93.out; have := HJ97.out; have := HJ115.out; have := HJ119.out; have := HJ121.out; have := HJ124.out; have := HJ126.out; have := HK13.out; have := HJ131.out; omega⟩, ⟨ro_ HO_11⟩, ⟨ro_ HO_16⟩, ⟨by (with_reducible repeat (first | apply Kd.N_alloc | apply Kd.N_drewN | apply Kd.N_drew)); exact Kd.N_mono HO_19.out (fun _ hk => ⟨hk.1.1, ⟨hk.1.2.1, ⟨hk.1.2.2.1, ⟨hk.2, ⟨hk.1.2.2.2.1, hk.1.2.2.2.2⟩⟩⟩⟩⟩)⟩, ⟨ro_ HO336⟩, ⟨by (with_reducible repeat (first | apply Kd.V_alloc | apply Kd.V_drewN | apply Kd.V_drew)); exact Kd.V_mono HO_284000.out (fun _ hk => ⟨hk.1.1, ⟨hk.1.2.1, ⟨hk.1.2.2.1, ⟨hk.1.2.2.2.1, ⟨hk.2, ⟨hk.1.2.2.2.2.1, hk.1.2.2.2.2.2⟩⟩⟩⟩⟩⟩)⟩, ⟨by (with_reducible repeat (first | apply Kd.V_alloc | apply Kd.V_drewN | apply Kd.V_drew)); exact Kd.V_mono HO_284001.out (fun _ hk => ⟨hk.1.1, ⟨hk.1.2.1, ⟨hk.1.2.2.1, ⟨hk.1.2.2.2.1, ⟨hk.2, ⟨hk.1.2.2.2.2.1, hk.1.2.2.2.2.2⟩⟩⟩⟩⟩⟩)⟩, ⟨by (with_reducible repeat (first | apply Kd.V_alloc | apply Kd.V_drewN | apply Kd.V_drew)); exact Kd.V_mono HO_284002.out (fun _ hk => ⟨hk.1.1, ⟨hk.1.2.1, ⟨hk.1.2.2.1, ⟨hk.1.2.2.2.1, ⟨hk.2, ⟨hk.1.2.2.2.2.1, hk.1.2.2.2.2.2⟩⟩⟩⟩⟩⟩)⟩, BK283, BK284, ⟨hb_ HB⟩⟩
                replace c140 := Bool.eq_false_iff.mpr c140
                subst c140
                have H1 : (Xb.l0 kj131 t305 t309 t310 t316 x17_124 x18_97 x19_97 x22_13 (wrap64 (x23_13 + 1)) a2_0 a2_1 a2_2) = some r := by rw [if_neg (show ¬ (false = true) by decide)] at H; exact H
                clear H
                have H := H1
                clear H1
                have H' := Xa.mk H
                clear H
                try go_wp2
                replace HO_11 := Xa.mk (Kd.R_drew HO_11.out)
                replace HO_16 := Xa.mk (Kd.R_drew HO_16.out)
                replace HO_19 := Xa.mk (Kd.N_drew HO_19.out)
                replace HO_22 := Xa.mk (Kd.R_drew HO_22.out)
                replace HO_284000 := Xa.mk (Kd.V_drew HO_284000.out)
                replace HO_284001 := Xa.mk (Kd.V_drew HO_284001.out)
                replace HO_284002 := Xa.mk (Kd.V_drew HO_284002.out)
                replace BK283 := Xa.mk (X3 BK283.out)
                replace BK284 := Xa.mk (X3 BK284.out)
                replace HB := Xa.mk (Xl HB.out)
                obtain ⟨Ao147, co147, eo147⟩ := Kd.N_slice HO_19.out
                (first | subst eo147 | (injection eo147 with f1_ f2_ f3_; have f4_ := f1_.symm; have f5_ := f3_.symm; clear f1_ f2_ f3_; subst f4_; subst f5_))
                have p332 : 0 ≤ (x23_13 : Int) := of_decide_eq_true ‹_›
                have q332 : x23_13 < (x19_97.length : Int) := of_decide_eq_true ‹_›
                obtain ⟨ad332, A332_0, c332_0, e332, hx332_0, hl332_0, hi332_0⟩ := XaB (Kd.N_reads' HO_19.out).2.2 x23_13 p332 q332
                cases e332
                obtain ⟨ce332, hce332, hMe332, hcc332⟩ := Kd.N_get HO_19.out [] x23_13 p332 (by first | exact q332 | exact of_decide_eq_true ‹_› | (have e_ := (Kd.N_reads' HO_19.out).1; omega))
                obtain ⟨ua332_0, uc332_0, rfl, ul332_0, ge332_0⟩ := Kd.FK_slice_open hMe332
                have hv332_0 := hcc332 0 _ rfl
                rw [Nat.add_zero, show ((Kd.slice 79 k79)).sz = 1 from rfl, Nat.mul_one] at hv332_0
                replace hv332_0 := Option.some.inj (hv332_0.symm.trans hx332_0)
                injection hv332_0 with hva_ hvn_ hvc_
                rw [hva_] at ge332_0
                rw [hvc_] at ul332_0
                have HL332_0 := Xa.mk (show Kd.V k79 79 _ w.heap.size _ _ (XA x19_97 x23_13) from Kd.V_mk ul332_0 ge332_0)
                clear hva_ hvn_ hvc_ ge332_0 ul332_0
                clear hcc332 hce332
                have HR332_0 := Xa.mk hi332_0
                have HC332_0 := Xa.mk hl332_0
                clear hi332_0 hl332_0
                replace p332 := eq_true p332
                replace q332 := eq_true q332
                refine Yy (n := 6) (S := fun w' => w'.cell? ⟨gb284, 0, none⟩ = some (.int .i64 a2_0) ∧ w'.cell? ⟨gb284, 1, none⟩ = some (.int .i64 a2_1) ∧ w'.cell? ⟨gb284, 2, none⟩ = some (.int .i64 a2_2) ∧ w'.cell? (ad332.add (x23_13).toNat) = some (.slice A332_0 (XA x19_97 x23_13).length c332_0)) (ds := []) #[ff, ff, ff, ff, ff, ff] (by kernel_rfl) rfl rfl ⟨(Xe BK284.out 0).trans rfl, (Xe BK284.out 1).trans rfl, (Xe BK284.out 2).trans rfl, hx332_0⟩ (fun hHeld => ?_)
                generalize wc.drew = w146 at HO_11 HO_16 HO_19 HO_22 HO_284000 HO_284001 HO_284002 BK283 BK284 HB HL332_0 HR332_0 hx332_0 hHeld ⊢
                refine pv_ 0 187 ?_
                refine pv_ 1 188 ?_
                refine pv_ 2 189 ?_
                refine tv_ 3 190 hHeld ?_
                refine tv_ 4 191 hHeld ?_
                refine one_ (i := 5) (N := some 192) #[tt, tt, tt, tt, tt, tt] rfl rfl (by kernel_rfl) (by decide) (fun K hK => ?_)
                refine Y8 Try.func47 (by kernel_rfl) rfl #[.slice A332_0 (XA x19_97 x23_13).length c332_0, .agg #[.int .i64 a2_0, .int .i64 a2_1, .int .i64 a2_2]] (by rfl) rfl rfl (by (try simp only [List.map_toArray, List.map_cons, List.map_nil]); first | done | rfl | (simp only [List.length_drop, List.length_take]; rfl)) ?_
                with_reducible refine (Xy.calls kj131 _ _ (XA x19_97 x23_13) a2_0 a2_1 a2_2 false _ ?side1 ?side2 A139.out).mono ?_
                (case side1 => repeat (first | exact (by repeat (first | (with_reducible exact HR332_0.out) | (with_reducible refine Kd.C_alloc ?_ _) | (with_reducible refine Kd.C_drewN ?_ _) | (with_reducible refine Kd.C_drew ?_) | exact HR332_0.out)) | (with_reducible refine Kd.C_alloc ?_ _) | (with_reducible refine Kd.C_drewN ?_ _) | (with_reducible refine Kd.C_drew ?_)))
                (case side2 => exact HC332_0.out)
                rintro e w148 ⟨rfl, hb⟩
                have HS3_ := (hb.cell (World.block_lt_of_cell? _ _ (hHeld.2.2.2))).trans (hHeld.2.2.2)
                refine ⟨_, rfl, ?_⟩
                replace HO_11 := rb_ HO_11 hb
                replace HO_16 := rb_ HO_16 hb
                replace HO_19 := Xa.mk (Kd.N_below (xo_ HO_19) hb)
                replace HO_22 := rb_ HO_22 hb
                replace HO_284000 := Xa.mk (Kd.V_below (xo_ HO_284000) hb)
                replace HO_284001 := Xa.mk (Kd.V_below (xo_ HO_284001) hb)
                replace HO_284002 := Xa.mk (Kd.V_below (xo_ HO_284002) hb)
                replace HL332_0 := Xa.mk (Kd.V_below (xo_ HL332_0) hb)
                replace BK283 := kb_ BK283 hb
                replace BK284 := kb_ BK284 hb
                replace HR332_0 := Xa.mk (Kd.C_below (by repeat (first | (with_reducible exact HR332_0.out) | (with_reducible refine Kd.C_alloc ?_ _) | (with_reducible refine Kd.C_drewN ?_ _) | (with_reducible refine Kd.C_drew ?_) | exact HR332_0.out)) hb)
                replace HB := sb_ HB hb
                (try clear hb)
                (try clear hb2)
                (try clear hk)
                (try clear hi)
                refine hK.out _ _ ⟨(Xe BK284.out 0).trans rfl, (Xe BK284.out 1).trans rfl, (Xe BK284.out 2).trans rfl, HS3_⟩ (fun hHeld => ?_)
                clear hK K
                refine Yr (a' := ?_) ?_ ?_
                rotate_left
                ·show Act.put _ (some 192) _ = _
                 simp only [Act.put, sa_, s0_, s1_, XR, XS]
                 rfl
                refine YS (by kernel_rfl) ?_
                try go_wp2
                go_roundg kj131
                case measure => have := HJ3.out; have := HJ45.out; have := HJ75.out; have := HJ85.out; have := HJ91.out; have := HJ93.out; have := HJ97.out; have := HJ115.out; have := HJ119.out; have := HJ121.out; have := HJ124.out; have := HJ126.out; have := HK13.out; have := HJ131.out; omega
                case rel => exact ⟨(x22_13), (wrap64 (x23_13 + 1)), fx_, H', ⟨by have := HJ3.out; have := HJ45.out; have := HJ75.out; have := HJ85.out; have := HJ91.out; have := HJ93.out; have := HJ97.out; have := HJ115.out; have := HJ119.out; have := HJ121.out; have := HJ124.out; have := HJ126.out; have := HK13.out; have := HJ131.out; omega⟩, ⟨ro_ HO_11⟩, ⟨ro_ HO_16⟩, ⟨xo_ HO_19⟩, ⟨ro_ HO_22⟩, ⟨xo_ HO_284000⟩, ⟨xo_ HO_284001⟩, ⟨xo_ HO_284002⟩, BK283, BK284, ⟨hb_ HB⟩⟩
               replace c136 := Bool.eq_false_iff.mpr c136
               subst c136
               have H1 : ((XV.f kj131 t305 x22_13).bind fun t337 => (if t337 = true then (if x17_124 = 0 then (Xb.l1 kj131 t309 t310 t316 x19_97 0 (wrap64 ((t316.length : Int) + 1)) 0) else (if t309 = 0 then (if t310 = 0 then ((X2.f).bind fun t338 => (some t338)) else (none)) else (none))) else (none))) = some r := by rw [if_neg (show ¬ (false = true) by decide)] at H; exact H
               clear H
               have H := H1
               clear H1
               replace H := Option.bind_eq_some_iff.mp H
               obtain ⟨t337, A1490, H⟩ := H; (try dsimp only at H)
               have A149 := Xa.mk A1490
               clear A1490
               by_cases c150 : t337 = true
               ·subst c150
                have H1 : (if x17_124 = 0 then (Xb.l1 kj131 t309 t310 t316 x19_97 0 (wrap64 ((t316.length : Int) + 1)) 0) else (if t309 = 0 then (if t310 = 0 then ((X2.f).bind fun t338 => (some t338)) else (none)) else (none))) = some r := by rw [if_pos rfl] at H; exact H
                clear H
                have H := H1
                clear H1
                by_cases c151 : x17_124 = 0
                ·rw [if_pos c151] at H
                 have c151b0 : (x17_124 == 0) = true := beq_iff_eq.mpr c151
                 have c151b1 : (x17_124 != 0) = false := bne_eq_false_iff_eq.mpr c151
                 clear c151
                 have H' := Xa.mk H
                 clear H
                 obtain ⟨Ao152, co152, eo152⟩ := Kd.R_slice HO_11.out
                 subst eo152
                 obtain ⟨Ao153, co153, eo153⟩ := Kd.R_slice HO_22.out
                 subst eo153
                 go_wp2_with (first | ((with_reducible refine Xp (f := 18) rfl ?_); refine XL (some 199) rfl rfl Try.func18 (by kernel_rfl) rfl #[.slice Ao152 t305.length co152, .slice Ao153 x22_13.length co153] rfl (by (try simp only [List.map_toArray, List.map_cons, List.map_nil]); first | done | rfl | (simp only [List.length_drop, List.length_take]; rfl)) ?_; (with_reducible refine (XV.calls kj131 _ _ t305 _ _ x22_13 true _ ?side1 ?side2 ?side3 ?side4 A149.out).mono ?_); (case side1 => exact cA_ (Kd.R_reads' HO_11.out).2.2); (case side2 => exact (Kd.R_reads' HO_11.out).2.1); (case side3 => exact cA_ (Kd.R_reads' HO_22.out).2.2); (case side4 => exact (Kd.R_reads' HO_22.out).2.1); rintro e w' ⟨rfl, ⟨nd, rfl⟩⟩; refine ⟨_, rfl, ?_⟩; obtain ⟨Ao154, co154, eo154⟩ := Kd.R_slice HO_16.out; subst eo154))
                 go_loopg [24, 25, 26] kj131 (fun kq v24 v25 v26 w' => ∃ (x24_15 : Int) (x25_15 : Int) (x26_15 : Int), v24 = .int .i64 x24_15 ∧ v25 = .int .i64 x25_15 ∧ v26 = .int .i64 x26_15 ∧ Xa (Xb.l1 kq t309 t310 t316 x19_97 x24_15 x25_15 x26_15 = some r) ∧ Xa (kq ≤ kj131) ∧ Xa (Kd.R k79 79 w' w.heap.size (fun k_ => (w.heap.size ≤ k_) ∧ k_ ≠ gb284) (.slice Ao154 t316.length co154) t316) ∧ Xa (Kd.N (Kd.slice 79 k79) 62 w' w.heap.size (fun k_ => ((P1_0_ k_ ∨ P1_1_ k_ ∨ P1_2_ k_) ∨ w.heap.size ≤ k_) ∧ some k_ ≠ ((.slice Ao154 t316.length co154) : Value).ownBlock ∧ k_ ≠ gb283 ∧ k_ ≠ gb284) u19 x19_97) ∧ Xa (Kd.V k58 58 w' w.heap.size (fun k_ => ((P1_0_ k_ ∨ P1_1_ k_ ∨ P1_2_ k_) ∨ w.heap.size ≤ k_) ∧ some k_ ≠ ((.slice Ao154 t316.length co154) : Value).ownBlock ∧ some k_ ≠ (u19 : Value).ownBlock ∧ k_ ≠ gb283 ∧ k_ ≠ gb284) (.slice A1_0 l1_0.length c1_0) l1_0) ∧ Xa (Kd.V k58 58 w' w.heap.size (fun k_ => ((P1_0_ k_ ∨ P1_1_ k_ ∨ P1_2_ k_) ∨ w.heap.size ≤ k_) ∧ some k_ ≠ ((.slice Ao154 t316.length co154) : Value).ownBlock ∧ some k_ ≠ (u19 : Value).ownBlock ∧ k_ ≠ gb283 ∧ k_ ≠ gb284) (.slice A1_1 l1_1.length c1_1) l1_1) ∧ Xa (Kd.V k58 58 w' w.heap.size (fun k_ => ((P1_0_ k_ ∨ P1_1_ k_ ∨ P1_2_ k_) ∨ w.heap.size ≤ k_) ∧ some k_ ≠ ((.slice Ao154 t316.length co154) : Value).ownBlock ∧ some k_ ≠ (u19 : Value).ownBlock ∧ k_ ≠ gb283 ∧ k_ ≠ gb284) (.slice A1_2 l1_2.length c1_2) l1_2) ∧ Xa (w'.heap[gb283]? = some (.cells #[(.slice A1_0 l1_0.length c1_0), (.slice A1_1 l1_1.length c1_1), (.slice A1_2 l1_2.length c1_2)] 76 (0, 0))) ∧ Xa (w'.heap[gb284]? = some (.cells #[.int .i64 a2_0, .int .i64 a2_1, .int .i64 a2_2] 79 (0, 0))) ∧ Xa (Below w.heap.size w w'))
                 case atStart => exact ⟨(0), (wrap64 ((t316.length : Int) + 1)), (0), fx_, fx_, fx_, H', ⟨Nat.le_refl _⟩, ⟨ro_ HO_16⟩, ⟨by (with_reducible repeat (first | apply Kd.N_alloc | apply Kd.N_drewN | apply Kd.N_drew)); exact Kd.N_mono HO_19.out (fun _ hk => ⟨hk.1, ⟨hk.2.2.1, ⟨hk.2.2.2.2.1, hk.2.2.2.2.2⟩⟩⟩)⟩, ⟨by (with_reducible repeat (first | apply Kd.V_alloc | apply Kd.V_drewN | apply Kd.V_drew)); exact Kd.V_mono HO_284000.out (fun _ hk => ⟨hk.1, ⟨hk.2.2.1, ⟨hk.2.2.2.1, ⟨hk.2.2.2.2.2.1, hk.2.2.2.2.2.2⟩⟩⟩⟩)⟩, ⟨by (with_reducible repeat (first | apply Kd.V_alloc | apply Kd.V_drewN | apply Kd.V_drew)); exact Kd.V_mono HO_284001.out (fun _ hk => ⟨hk.1, ⟨hk.2.2.1, ⟨hk.2.2.2.1, ⟨hk.2.2.2.2.2.1, hk.2.2.2.2.2.2⟩⟩⟩⟩)⟩, ⟨by (with_reducible repeat (first | apply Kd.V_alloc | apply Kd.V_drewN | apply Kd.V_drew)); exact Kd.V_mono HO_284002.out (fun _ hk => ⟨hk.1, ⟨hk.2.2.1, ⟨hk.2.2.2.1, ⟨hk.2.2.2.2.2.1, hk.2.2.2.2.2.2⟩⟩⟩⟩)⟩, BK283, BK284, ⟨hb_ HB⟩⟩
                 case round => as_aux_lemma =>
                  clear H'
                  clear c151b0 c151b1
                  obtain ⟨x24_15, x25_15, x26_15, rfl, rfl, rfl, HA, HK15, HO_16, HO_19, HO_284000, HO_284001, HO_284002, BK283, BK284, HB⟩ := hrel
                  obtain _ | k15 := gk
                  ·exact absurd HA.out (by simp [Xb.l1])
                  have H := HA.out
                  clear HA
                  simp only [Xb.l1] at H
                  by_cases c155 : x26_15 < (x19_97.length : Int)
                  ·rw [if_pos c155] at H
                   have c155b0 : decide (x26_15 < (x19_97.length : Int)) = true := decide_eq_true c155
                   clear c155
                   have H' := Xa.mk H
                   clear H
                   obtain ⟨Ao156, co156, eo156⟩ := Kd.N_slice HO_19.out
                   subst eo156
                   go_wp2
                   go_loopg [27, 28] k15 (fun kq v27 v28 w' => ∃ (x27_16 : Int) (x28_16 : Int), v27 = .int .i64 x27_16 ∧ v28 = .int .i64 x28_16 ∧ Xa (Xb.l2 kq t309 t310 t316 x19_97 x24_15 x25_15 x26_15 x27_16 x28_16 = some r) ∧ Xa (kq ≤ k15) ∧ Xa (Kd.R k79 79 w' w.heap.size (fun k_ => (w.heap.size ≤ k_) ∧ k_ ≠ gb284) (.slice Ao154 t316.length co154) t316) ∧ Xa (Kd.N (Kd.slice 79 k79) 62 w' w.heap.size (fun k_ => ((P1_0_ k_ ∨ P1_1_ k_ ∨ P1_2_ k_) ∨ w.heap.size ≤ k_) ∧ some k_ ≠ ((.slice Ao154 t316.length co154) : Value).ownBlock ∧ k_ ≠ gb283 ∧ k_ ≠ gb284) (.slice Ao156 x19_97.length co156) x19_97) ∧ Xa (Kd.V k58 58 w' w.heap.size (fun k_ => ((P1_0_ k_ ∨ P1_1_ k_ ∨ P1_2_ k_) ∨ w.heap.size ≤ k_) ∧ some k_ ≠ ((.slice Ao154 t316.length co154) : Value).ownBlock ∧ some k_ ≠ ((.slice Ao156 x19_97.length co156) : Value).ownBlock ∧ k_ ≠ gb283 ∧ k_ ≠ gb284) (.slice A1_0 l1_0.length c1_0) l1_0) ∧ Xa (Kd.V k58 58 w' w.heap.size (fun k_ => ((P1_0_ k_ ∨ P1_1_ k_ ∨ P1_2_ k_) ∨ w.heap.size ≤ k_) ∧ some k_ ≠ ((.slice Ao154 t316.length co154) : Value).ownBlock ∧ some k_ ≠ ((.slice Ao156 x19_97.length co156) : Value).ownBlock ∧ k_ ≠ gb283 ∧ k_ ≠ gb284) (.slice A1_1 l1_1.length c1_1) l1_1) ∧ Xa (Kd.V k58 58 w' w.heap.size (fun k_ => ((P1_0_ k_ ∨ P1_1_ k_ ∨ P1_2_ k_) ∨ w.heap.size ≤ k_) ∧ some k_ ≠ ((.slice Ao154 t316.length co154) : Value).ownBlock ∧ some k_ ≠ ((.slice Ao156 x19_97.length co156) : Value).ownBlock ∧ k_ ≠ gb283 ∧ k_ ≠ gb284) (.slice A1_2 l1_2.length c1_2) l1_2) ∧ Xa (w'.heap[gb283]? = some (.cells #[(.slice A1_0 l1_0.length c1_0), (.slice A1_1 l1_1.length c1_1), (.slice A1_2 l1_2.length c1_2)] 76 (0, 0))) ∧ Xa (w'.heap[gb284]? = some (.cells #[.int .i64 a2_0, .int .i64 a2_1, .int .i64 a2_2] 79 (0, 0))) ∧ Xa (Below w.heap.size w w'))
                   case atStart => exact ⟨(0), (0), fx_, fx_, H', ⟨Nat.le_refl _⟩, ⟨ro_ HO_16⟩, ⟨xo_ HO_19⟩, ⟨xo_ HO_284000⟩, ⟨xo_ HO_284001⟩, ⟨xo_ HO_284002⟩, BK283, BK284, ⟨hb_ HB⟩⟩
                   case round => as_aux_lemma =>
                    clear H'
                    clear c155b0
                    obtain ⟨x27_16, x28_16, rfl, rfl, HA, HK16, HO_16, HO_19, HO_284000, HO_284001, HO_284002, BK283, BK284, HB⟩ := hrel
                    obtain _ | k16 := gk
                    ·exact absurd HA.out (by simp [Xb.l2])
                    have H := HA.out
                    clear HA
                    simp only [Xb.l2] at H
                    by_cases c157 : x28_16 < (t316.length : Int)
                    ·rw [if_pos c157] at H
                     have c157b0 : decide (x28_16 < (t316.length : Int)) = true := decide_eq_true c157
                     clear c157
                     by_cases c158 : 0 ≤ x26_15
                     rotate_left
                     ·rw [if_neg c158] at H
                      exact absurd H (by simp)
                     rw [if_pos c158] at H
                     have c158b0 : decide (0 ≤ x26_15) = true := decide_eq_true c158
                     clear c158
                     by_cases c159 : x26_15 < (x19_97.length : Int)
                     rotate_left
                     ·rw [if_neg c159] at H
                      exact absurd H (by simp)
                     rw [if_pos c159] at H
                     have c159b0 : decide (x26_15 < (x19_97.length : Int)) = true := decide_eq_true c159
                     clear c159
                     by_cases c160 : 0 ≤ x28_16
                     rotate_left
                     ·rw [if_neg c160] at H
                      exact absurd H (by simp)
                     rw [if_pos c160] at H
                     have c160b0 : decide (0 ≤ x28_16) = true := decide_eq_true c160
                     clear c160
                     replace H := Option.bind_eq_some_iff.mp H
                     obtain ⟨t342, A1610, H⟩ := H; (try dsimp only at H)
                     have A161 := Xa.mk A1610
                     clear A1610
                     by_cases c162 : t342 = true
                     ·subst c162
                      have H1 : (Xb.l2 k16 t309 t310 t316 x19_97 x24_15 x25_15 x26_15 (wrap64 (x27_16 + 1)) (wrap64 (x28_16 + 1))) = some r := by rw [if_pos rfl] at H; exact H
                      clear H
                      have H := H1
                      clear H1
                      have H' := Xa.mk H
                      clear H
                      try go_wp2
                      replace HO_16 := Xa.mk (Kd.R_drew HO_16.out)
                      replace HO_19 := Xa.mk (Kd.N_drew HO_19.out)
                      replace HO_284000 := Xa.mk (Kd.V_drew HO_284000.out)
                      replace HO_284001 := Xa.mk (Kd.V_drew HO_284001.out)
                      replace HO_284002 := Xa.mk (Kd.V_drew HO_284002.out)
                      replace BK283 := Xa.mk (X3 BK283.out)
                      replace BK284 := Xa.mk (X3 BK284.out)
                      replace HB := Xa.mk (Xl HB.out)
                      have p340 : 0 ≤ (x26_15 : Int) := of_decide_eq_true ‹_›
                      have q340 : x26_15 < (x19_97.length : Int) := of_decide_eq_true ‹_›
                      obtain ⟨ad340, A340_0, c340_0, e340, hx340_0, hl340_0, hi340_0⟩ := XaB (Kd.N_reads' HO_19.out).2.2 x26_15 p340 q340
                      cases e340
                      obtain ⟨ce340, hce340, hMe340, hcc340⟩ := Kd.N_get HO_19.out [] x26_15 p340 (by first | exact q340 | exact of_decide_eq_true ‹_› | (have e_ := (Kd.N_reads' HO_19.out).1; omega))
                      obtain ⟨ua340_0, uc340_0, rfl, ul340_0, ge340_0⟩ := Kd.FK_slice_open hMe340
                      have hv340_0 := hcc340 0 _ rfl
                      rw [Nat.add_zero, show ((Kd.slice 79 k79)).sz = 1 from rfl, Nat.mul_one] at hv340_0
                      replace hv340_0 := Option.some.inj (hv340_0.symm.trans hx340_0)
                      injection hv340_0 with hva_ hvn_ hvc_
                      rw [hva_] at ge340_0
                      rw [hvc_] at ul340_0
                      have HL340_0 := Xa.mk (show Kd.V k79 79 _ w.heap.size _ _ (XA x19_97 x26_15) from Kd.V_mk ul340_0 ge340_0)
                      clear hva_ hvn_ hvc_ ge340_0 ul340_0
                      clear hcc340 hce340
                      have HR340_0 := Xa.mk hi340_0
                      have HC340_0 := Xa.mk hl340_0
                      clear hi340_0 hl340_0
                      replace p340 := eq_true p340
                      replace q340 := eq_true q340
                      have p341 : 0 ≤ (x28_16 : Int) := of_decide_eq_true ‹_›
                      have q341 : x28_16 < (t316.length : Int) := of_decide_eq_true ‹_›
                      obtain ⟨ad341, e341, hx341_0, hx341_1, hx341_2⟩ := Jx (Kd.R_reads' HO_16.out).2.2 x28_16 p341 q341
                      cases e341
                      replace p341 := eq_true p341
                      replace q341 := eq_true q341
                      refine Yy (n := 9) (S := fun w' => w'.cell? (ad340.add (x26_15).toNat) = some (.slice A340_0 (XA x19_97 x26_15).length c340_0) ∧ w'.cell? (ad341.add ((x28_16).toNat * 3)) = some (.int .i64 ((Xn t316 x28_16).f0)) ∧ w'.cell? ⟨(ad341.add ((x28_16).toNat * 3)).block, (ad341.add ((x28_16).toNat * 3)).off + 1, none⟩ = some (.int .i64 ((Xn t316 x28_16).f1)) ∧ w'.cell? ⟨(ad341.add ((x28_16).toNat * 3)).block, (ad341.add ((x28_16).toNat * 3)).off + 2, none⟩ = some (.int .i64 ((Xn t316 x28_16).f2))) (ds := []) #[ff, ff, ff, ff, ff, ff, ff, ff, ff] (by kernel_rfl) rfl rfl ⟨hx340_0, hx341_0, hx341_1, hx341_2⟩ (fun hHeld => ?_); refine X9 Xb.tab49 Xb.bits49 (fun HT_ HW_ => ?_)
                      generalize wr.drew = w163 at HO_16 HO_19 HO_284000 HO_284001 HO_284002 BK283 BK284 HB HL340_0 HR340_0 hx340_0 hx341_0 hx341_1 hx341_2 hHeld ⊢
                      refine pu_ 0 227 HT_ ?_
                      refine pu_ 1 228 HT_ ?_
                      refine pu_ 2 229 HT_ ?_
                      refine pu_ 4 231 HT_ ?_
                      refine pu_ 5 232 HT_ ?_
                      refine pu_ 6 233 HT_ ?_
                      refine tw_ 3 230 HT_ HW_ hHeld ?_
                      refine tw_ 7 234 HT_ HW_ hHeld ?_
                      refine one_ (i := 8) (N := some 235) #[tt, tt, tt, tt, tt, tt, tt, tt, tt] rfl rfl (Ys HT_.out (by kernel_rfl)) (by decide) (fun K hK => ?_)
                      refine Y8 Try.func47 (by kernel_rfl) rfl #[.slice A340_0 (XA x19_97 x26_15).length c340_0, .agg #[.int .i64 ((Xn t316 x28_16).f0), .int .i64 ((Xn t316 x28_16).f1), .int .i64 ((Xn t316 x28_16).f2)]] (by rfl) rfl rfl (by (try simp only [List.map_toArray, List.map_cons, List.map_nil]); first | done | rfl | (simp only [List.length_drop, List.length_take]; rfl)) ?_
                      with_reducible refine (Xy.calls k16 _ _ (XA x19_97 x26_15) ((Xn t316 x28_16).f0) ((Xn t316 x28_16).f1) ((Xn t316 x28_16).f2) true _ ?side1 ?side2 A161.out).mono ?_
                      (case side1 => repeat (first | exact (by repeat (first | (with_reducible exact HR340_0.out) | (with_reducible refine Kd.C_alloc ?_ _) | (with_reducible refine Kd.C_drewN ?_ _) | (with_reducible refine Kd.C_drew ?_) | exact HR340_0.out)) | (with_reducible refine Kd.C_alloc ?_ _) | (with_reducible refine Kd.C_drewN ?_ _) | (with_reducible refine Kd.C_drew ?_)))
                      (case side2 => exact HC340_0.out)
                      rintro e w164 ⟨rfl, hb⟩
                      have HS0_ := (hb.cell (World.block_lt_of_cell? _ _ (hHeld.1))).trans (hHeld.1)
                      have HS1_ := (hb.cell (World.block_lt_of_cell? _ _ (hHeld.2.1))).trans (hHeld.2.1)
                      have HS2_ := (hb.cell (World.block_lt_of_cell? _ _ (hHeld.2.2.1))).trans (hHeld.2.2.1)
                      have HS3_ := (hb.cell (World.block_lt_of_cell? _ _ (hHeld.2.2.2))).trans (hHeld.2.2.2)
                      refine ⟨_, rfl, ?_⟩
                      replace HO_16 := rb_ HO_16 hb
                      replace HO_19 := Xa.mk (Kd.N_below (xo_ HO_19) hb)
                      replace HO_284000 := Xa.mk (Kd.V_below (xo_ HO_284000) hb)
                      replace HO_284001 := Xa.mk (Kd.V_below (xo_ HO_284001) hb)
                      replace HO_284002 := Xa.mk (Kd.V_below (xo_ HO_284002) hb)
                      replace HL340_0 := Xa.mk (Kd.V_below (xo_ HL340_0) hb)
                      replace BK283 := kb_ BK283 hb
                      replace BK284 := kb_ BK284 hb
                      replace HR340_0 := Xa.mk (Kd.C_below (by repeat (first | (with_reducible exact HR340_0.out) | (with_reducible refine Kd.C_alloc ?_ _) | (with_reducible refine Kd.C_drewN ?_ _) | (with_reducible refine Kd.C_drew ?_) | exact HR340_0.out)) hb)
                      replace HB := sb_ HB hb
                      (try clear hb)
                      (try clear hb2)
                      (try clear hk)
                      (try clear hi)
                      refine hK.out _ _ ⟨HS0_, HS1_, HS2_, HS3_⟩ (fun hHeld => ?_)
                      clear hK K
                      refine Yr (a' := ?_) ?_ ?_
                      rotate_left
                      ·show Act.put _ (some 235) _ = _
                       simp only [Act.put, sa_, s0_, s1_, XR, XS]
                       rfl
                      refine YS (Yo HT_.out (by kernel_rfl)) ?_
                      try go_wp2
                      go_roundg k16
                      case measure => have := HJ3.out; have := HJ45.out; have := HJ75.out; have := HJ85.out; have := HJ91.out; have := HJ93.out; have := HJ97.out; have := HJ115.out; have := HJ119.out; have := HJ121.out; have := HJ124.out; have := HJ126.out; have := HK13.out; have := HJ131.out; have := HK15.out; have := HK16.out; omega
                      case rel => exact ⟨(wrap64 (x27_16 + 1)), (wrap64 (x28_16 + 1)), fx_, fx_, H', ⟨by have := HJ3.out; have := HJ45.out; have := HJ75.out; have := HJ85.out; have := HJ91.out; have := HJ93.out; have := HJ97.out; have := HJ115.out; have := HJ119.out; have := HJ121.out; have := HJ124.out; have := HJ126.out; have := HK13.out; have := HJ131.out; have := HK15.out; have := HK16.out; omega⟩, ⟨ro_ HO_16⟩, ⟨xo_ HO_19⟩, ⟨xo_ HO_284000⟩, ⟨xo_ HO_284001⟩, ⟨xo_ HO_284002⟩, BK283, BK284, ⟨hb_ HB⟩⟩
                     replace c162 := Bool.eq_false_iff.mpr c162
                     subst c162
                     have H1 : (Xb.l2 k16 t309 t310 t316 x19_97 x24_15 x25_15 x26_15 x27_16 (wrap64 (x28_16 + 1))) = some r := by rw [if_neg (show ¬ (false = true) by decide)] at H; exact H
                     clear H
                     have H := H1
                     clear H1
                     have H' := Xa.mk H
                     clear H
                     try go_wp2
                     replace HO_16 := Xa.mk (Kd.R_drew HO_16.out)
                     replace HO_19 := Xa.mk (Kd.N_drew HO_19.out)
                     replace HO_284000 := Xa.mk (Kd.V_drew HO_284000.out)
                     replace HO_284001 := Xa.mk (Kd.V_drew HO_284001.out)
                     replace HO_284002 := Xa.mk (Kd.V_drew HO_284002.out)
                     replace BK283 := Xa.mk (X3 BK283.out)
                     replace BK284 := Xa.mk (X3 BK284.out)
                     replace HB := Xa.mk (Xl HB.out)
                     have p340 : 0 ≤ (x26_15 : Int) := of_decide_eq_true ‹_›
                     have q340 : x26_15 < (x19_97.length : Int) := of_decide_eq_true ‹_›
                     obtain ⟨ad340, A340_0, c340_0, e340, hx340_0, hl340_0, hi340_0⟩ := XaB (Kd.N_reads' HO_19.out).2.2 x26_15 p340 q340
                     cases e340
                     obtain ⟨ce340, hce340, hMe340, hcc340⟩ := Kd.N_get HO_19.out [] x26_15 p340 (by first | exact q340 | exact of_decide_eq_true ‹_› | (have e_ := (Kd.N_reads' HO_19.out).1; omega))
                     obtain ⟨ua340_0, uc340_0, rfl, ul340_0, ge340_0⟩ := Kd.FK_slice_open hMe340
                     have hv340_0 := hcc340 0 _ rfl
                     rw [Nat.add_zero, show ((Kd.slice 79 k79)).sz = 1 from rfl, Nat.mul_one] at hv340_0
                     replace hv340_0 := Option.some.inj (hv340_0.symm.trans hx340_0)
                     injection hv340_0 with hva_ hvn_ hvc_
                     rw [hva_] at ge340_0
                     rw [hvc_] at ul340_0
                     have HL340_0 := Xa.mk (show Kd.V k79 79 _ w.heap.size _ _ (XA x19_97 x26_15) from Kd.V_mk ul340_0 ge340_0)
                     clear hva_ hvn_ hvc_ ge340_0 ul340_0
                     clear hcc340 hce340
                     have HR340_0 := Xa.mk hi340_0
                     have HC340_0 := Xa.mk hl340_0
                     clear hi340_0 hl340_0
                     replace p340 := eq_true p340
                     replace q340 := eq_true q340
                     have p341 : 0 ≤ (x28_16 : Int) := of_decide_eq_true ‹_›
                     have q341 : x28_16 < (t316.length : Int) := of_decide_eq_true ‹_›
                     obtain ⟨ad341, e341, hx341_0, hx341_1, hx341_2⟩ := Jx (Kd.R_reads' HO_16.out).2.2 x28_16 p341 q341
                     cases e341
                     replace p341 := eq_true p341
                     replace q341 := eq_true q341
                     refine Yy (n := 9) (S := fun w' => w'.cell? (ad340.add (x26_15).toNat) = some (.slice A340_0 (XA x19_97 x26_15).length c340_0) ∧ w'.cell? (ad341.add ((x28_16).toNat * 3)) = some (.int .i64 ((Xn t316 x28_16).f0)) ∧ w'.cell? ⟨(ad341.add ((x28_16).toNat * 3)).block, (ad341.add ((x28_16).toNat * 3)).off + 1, none⟩ = some (.int .i64 ((Xn t316 x28_16).f1)) ∧ w'.cell? ⟨(ad341.add ((x28_16).toNat * 3)).block, (ad341.add ((x28_16).toNat * 3)).off + 2, none⟩ = some (.int .i64 ((Xn t316 x28_16).f2))) (ds := []) #[ff, ff, ff, ff, ff, ff, ff, ff, ff] (by kernel_rfl) rfl rfl ⟨hx340_0, hx341_0, hx341_1, hx341_2⟩ (fun hHeld => ?_); refine X9 Xb.tab49 Xb.bits49 (fun HT_ HW_ => ?_)
                     generalize wr.drew = w165 at HO_16 HO_19 HO_284000 HO_284001 HO_284002 BK283 BK284 HB HL340_0 HR340_0 hx340_0 hx341_0 hx341_1 hx341_2 hHeld ⊢
                     refine pu_ 0 227 HT_ ?_
                     refine pu_ 1 228 HT_ ?_
                     refine pu_ 2 229 HT_ ?_
                     refine pu_ 4 231 HT_ ?_
                     refine pu_ 5 232 HT_ ?_
                     refine pu_ 6 233 HT_ ?_
                     refine tw_ 3 230 HT_ HW_ hHeld ?_
                     refine tw_ 7 234 HT_ HW_ hHeld ?_
                     refine one_ (i := 8) (N := some 235) #[tt, tt, tt, tt, tt, tt, tt, tt, tt] rfl rfl (Ys HT_.out (by kernel_rfl)) (by decide) (fun K hK => ?_)
                     refine Y8 Try.func47 (by kernel_rfl) rfl #[.slice A340_0 (XA x19_97 x26_15).length c340_0, .agg #[.int .i64 ((Xn t316 x28_16).f0), .int .i64 ((Xn t316 x28_16).f1), .int .i64 ((Xn t316 x28_16).f2)]] (by rfl) rfl rfl (by (try simp only [List.map_toArray, List.map_cons, List.map_nil]); first | done | rfl | (simp only [List.length_drop, List.length_take]; rfl)) ?_
                     with_reducible refine (Xy.calls k16 _ _ (XA x19_97 x26_15) ((Xn t316 x28_16).f0) ((Xn t316 x28_16).f1) ((Xn t316 x28_16).f2) false _ ?side1 ?side2 A161.out).mono ?_
                     (case side1 => repeat (first | exact (by repeat (first | (with_reducible exact HR340_0.out) | (with_reducible refine Kd.C_alloc ?_ _) | (with_reducible refine Kd.C_drewN ?_ _) | (with_reducible refine Kd.C_drew ?_) | exact HR340_0.out)) | (with_reducible refine Kd.C_alloc ?_ _) | (with_reducible refine Kd.C_drewN ?_ _) | (with_reducible refine Kd.C_drew ?_)))
                     (case side2 => exact HC340_0.out)
                     rintro e w166 ⟨rfl, hb⟩
                     have HS0_ := (hb.cell (World.block_lt_of_cell? _ _ (hHeld.1))).trans (hHeld.1)
                     have HS1_ := (hb.cell (World.block_lt_of_cell? _ _ (hHeld.2.1))).trans (hHeld.2.1)
                     have HS2_ := (hb.cell (World.block_lt_of_cell? _ _ (hHeld.2.2.1))).trans (hHeld.2.2.1)
                     have HS3_ := (hb.cell (World.block_lt_of_cell? _ _ (hHeld.2.2.2))).trans (hHeld.2.2.2)
                     refine ⟨_, rfl, ?_⟩
                     replace HO_16 := rb_ HO_16 hb
                     replace HO_19 := Xa.mk (Kd.N_below (xo_ HO_19) hb)
                     replace HO_284000 := Xa.mk (Kd.V_below (xo_ HO_284000) hb)
                     replace HO_284001 := Xa.mk (Kd.V_below (xo_ HO_284001) hb)
                     replace HO_284002 := Xa.mk (Kd.V_below (xo_ HO_284002) hb)
                     replace HL340_0 := Xa.mk (Kd.V_below (xo_ HL340_0) hb)
                     replace BK283 := kb_ BK283 hb
                     replace BK284 := kb_ BK284 hb
                     replace HR340_0 := Xa.mk (Kd.C_below (by repeat (first | (with_reducible exact HR340_0.out) | (with_reducible refine Kd.C_alloc ?_ _) | (with_reducible refine Kd.C_drewN ?_ _) | (with_reducible refine Kd.C_drew ?_) | exact HR340_0.out)) hb)
                     replace HB := sb_ HB hb
                     (try clear hb)
                     (try clear hb2)
                     (try clear hk)
                     (try clear hi)
                     refine hK.out _ _ ⟨HS0_, HS1_, HS2_, HS3_⟩ (fun hHeld => ?_)
                     clear hK K
                     refine Yr (a' := ?_) ?_ ?_
                     rotate_left
                     ·show Act.put _ (some 235) _ = _
                      simp only [Act.put, sa_, s0_, s1_, XR, XS]
                      rfl
                     refine YS (Yo HT_.out (by kernel_rfl)) ?_
                     try go_wp2
                     go_roundg k16
                     case measure => have := HJ3.out; have := HJ45.out; have := HJ75.out; have := HJ85.out; have := HJ91.out; have := HJ93.out; have := HJ97.out; have := HJ115.out; have := HJ119.out; have := HJ121.out; have := HJ124.out; have := HJ126.out; have := HK13.out; have := HJ131.out; have := HK15.out; have := HK16.out; omega
                     case rel => exact ⟨(x27_16), (wrap64 (x28_16 + 1)), fx_, fx_, H', ⟨by have := HJ3.out; have := HJ45.out; have := HJ75.out; have := HJ85.out; have := HJ91.out; have := HJ93.out; have := HJ97.out; have := HJ115.out; have := HJ119.out; have := HJ121.out; have := HJ124.out; have := HJ126.out; have := HK13.out; have := HJ131.out; have := HK15.out; have := HK16.out; omega⟩, ⟨ro_ HO_16⟩, ⟨xo_ HO_19⟩, ⟨xo_ HO_284000⟩, ⟨xo_ HO_284001⟩, ⟨xo_ HO_284002⟩, BK283, BK284, ⟨hb_ HB⟩⟩
                    rw [if_neg c157] at H
                    have c157b0 : decide (x28_16 < (t316.length : Int)) = false := decide_eq_false c157
                    clear c157
                    obtain ⟨ji167, hji167⟩ : ∃ j_ : Int, (mx x27_16 (wrap64 ((t316.length : Int) - x27_16))) = j_ := ⟨_, rfl⟩
                    replace H : (if (ji167) < x25_15 then (Xb.l1 k16 t309 t310 t316 x19_97 x26_15 ji167 (wrap64 (x26_15 + 1))) else (Xb.l1 k16 t309 t310 t316 x19_97 x24_15 x25_15 (wrap64 (x26_15 + 1)))) = some r := by first | (rw [hji167] at H; exact H) | (simp only [hji167] at H ⊢; exact H)
                    have hji167_ : (if x27_16 < (wrap64 ((t316.length : Int) - x27_16)) then (wrap64 ((t316.length : Int) - x27_16)) else x27_16) = ji167 := hji167
                    by_cases c168 : (ji167) < x25_15
                    ·rw [if_pos c168] at H
                     have c168b0 : decide ((ji167) < x25_15) = true := decide_eq_true c168
                     clear c168
                     have H' := Xa.mk H
                     clear H
                     go_wp2
                     go_roundg k16
                     case measure => have := HJ3.out; have := HJ45.out; have := HJ75.out; have := HJ85.out; have := HJ91.out; have := HJ93.out; have := HJ97.out; have := HJ115.out; have := HJ119.out; have := HJ121.out; have := HJ124.out; have := HJ126.out; have := HK13.out; have := HJ131.out; have := HK15.out; have := HK16.out; omega
                     case rel => exact ⟨(x26_15), (ji167), (wrap64 (x26_15 + 1)), fx_, (by first | rfl | (simp; done) | (simp only [← hji167] <;> (first | rfl | simp)) | (simp [*]; done)), fx_, H', ⟨by have := HJ3.out; have := HJ45.out; have := HJ75.out; have := HJ85.out; have := HJ91.out; have := HJ93.out; have := HJ97.out; have := HJ115.out; have := HJ119.out; have := HJ121.out; have := HJ124.out; have := HJ126.out; have := HK13.out; have := HJ131.out; have := HK15.out; have := HK16.out; omega⟩, ⟨ro_ HO_16⟩, ⟨xo_ HO_19⟩, ⟨xo_ HO_284000⟩, ⟨xo_ HO_284001⟩, ⟨xo_ HO_284002⟩, BK283, BK284, ⟨hb_ HB⟩⟩
                    rw [if_neg c168] at H
                    have c168b0 : decide ((ji167) < x25_15) = false := decide_eq_false c168
                    clear c168
                    have H' := Xa.mk H
                    clear H
                    go_wp2
                    go_roundg k16
                    case measure => have := HJ3.out; have := HJ45.out; have := HJ75.out; have := HJ85.out; have := HJ91.out; have := HJ93.out; have := HJ97.out; have := HJ115.out; have := HJ119.out; have := HJ121.out; have := HJ124.out; have := HJ126.out; have := HK13.out; have := HJ131.out; have := HK15.out; have := HK16.out; omega
                    case rel => exact ⟨(x24_15), (x25_15), (wrap64 (x26_15 + 1)), fx_, fx_, fx_, H', ⟨by have := HJ3.out; have := HJ45.out; have := HJ75.out; have := HJ85.out; have := HJ91.out; have := HJ93.out; have := HJ97.out; have := HJ115.out; have := HJ119.out; have := HJ121.out; have := HJ124.out; have := HJ126.out; have := HK13.out; have := HJ131.out; have := HK15.out; have := HK16.out; omega⟩, ⟨ro_ HO_16⟩, ⟨xo_ HO_19⟩, ⟨xo_ HO_284000⟩, ⟨xo_ HO_284001⟩, ⟨xo_ HO_284002⟩, BK283, BK284, ⟨hb_ HB⟩⟩
                  rw [if_neg c155] at H
                  have c155b0 : decide (x26_15 < (x19_97.length : Int)) = false := decide_eq_false c155
                  clear c155
                  by_cases c169 : t309 = x24_15
                  rotate_left
                  ·rw [if_neg c169] at H
                   exact absurd H (by simp)
                  rw [if_pos c169] at H
                  have c169b0 : (t309 == x24_15) = true := beq_iff_eq.mpr c169
                  have c169b1 : (t309 != x24_15) = false := bne_eq_false_iff_eq.mpr c169
                  clear c169
                  by_cases c170 : t310 = x25_15
                  rotate_left
                  ·rw [if_neg c170] at H
                   exact absurd H (by simp)
                  rw [if_pos c170] at H
                  have c170b0 : (t310 == x25_15) = true := beq_iff_eq.mpr c170
                  have c170b1 : (t310 != x25_15) = false := bne_eq_false_iff_eq.mpr c170
                  clear c170
                  replace H := Option.bind_eq_some_iff.mp H
                  obtain ⟨t339, A1710, H⟩ := H; (try dsimp only at H)
                  have A171 := Xa.mk A1710
                  clear A1710
                  obtain rfl := Option.some.inj H
                  obtain ⟨Ao172, co172, eo172⟩ := Kd.N_slice HO_19.out
                  subst eo172
                  go_wp2_with (first | (go_at_call 15; (with_reducible refine (X2.calls  t339 _ A171.out).mono ?_); rintro e w173 ⟨rfl, hb⟩; replace HO_16 := rb_ HO_16 hb; replace HO_19 := Xa.mk (Kd.N_below (xo_ HO_19) hb); replace HO_284000 := Xa.mk (Kd.V_below (xo_ HO_284000) hb); replace HO_284001 := Xa.mk (Kd.V_below (xo_ HO_284001) hb); replace HO_284002 := Xa.mk (Kd.V_below (xo_ HO_284002) hb); replace BK283 := kb_ BK283 hb; replace BK284 := kb_ BK284 hb; replace HB := sb_ HB hb; (try clear hb); (try clear hb2); (try clear hk); (try clear hi)))
                  go_ret
                  exact ⟨by first | rfl | (simp [errW_none, errW_some] <;> rfl) | (simp [*, errW_none, errW_some] <;> rfl), by repeat (first | (with_reducible first | exact HB.out | apply Xs | apply Xo | apply Xl | refine XC ?_ (Xa.out (by assumption))) | exact HB.out)⟩
                rw [if_neg c151] at H
                have c151b0 : (x17_124 == 0) = false := beq_eq_false_iff_ne.mpr c151
                have c151b1 : (x17_124 != 0) = true := bne_iff_ne.mpr c151
                by_cases c174 : t309 = 0
                rotate_left
                ·rw [if_neg c174] at H
                 exact absurd H (by simp)
                rw [if_pos c174] at H
                have c174b0 : (t309 == 0) = true := beq_iff_eq.mpr c174
                have c174b1 : (t309 != 0) = false := bne_eq_false_iff_eq.mpr c174
                clear c174
                by_cases c175 : t310 = 0
                rotate_left
                ·rw [if_neg c175] at H
                 exact absurd H (by simp)
                rw [if_pos c175] at H
                have c175b0 : (t310 == 0) = true := beq_iff_eq.mpr c175
                have c175b1 : (t310 != 0) = false := bne_eq_false_iff_eq.mpr c175
                clear c175
                replace H := Option.bind_eq_some_iff.mp H
                obtain ⟨t338, A1760, H⟩ := H; (try dsimp only at H)
                have A176 := Xa.mk A1760
                clear A1760
                obtain rfl := Option.some.inj H
                obtain ⟨Ao177, co177, eo177⟩ := Kd.R_slice HO_11.out
                subst eo177
                obtain ⟨Ao178, co178, eo178⟩ := Kd.R_slice HO_22.out
                subst eo178
                go_wp2_with (first | ((with_reducible refine Xp (f := 18) rfl ?_); refine XL (some 199) rfl rfl Try.func18 (by kernel_rfl) rfl #[.slice Ao177 t305.length co177, .slice Ao178 x22_13.length co178] rfl (by (try simp only [List.map_toArray, List.map_cons, List.map_nil]); first | done | rfl | (simp only [List.length_drop, List.length_take]; rfl)) ?_; (with_reducible refine (XV.calls kj131 _ _ t305 _ _ x22_13 true _ ?side1 ?side2 ?side3 ?side4 A149.out).mono ?_); (case side1 => exact cA_ (Kd.R_reads' HO_11.out).2.2); (case side2 => exact (Kd.R_reads' HO_11.out).2.1); (case side3 => exact cA_ (Kd.R_reads' HO_22.out).2.2); (case side4 => exact (Kd.R_reads' HO_22.out).2.1); rintro e w' ⟨rfl, ⟨nd, rfl⟩⟩; refine ⟨_, rfl, ?_⟩) | (go_at_call 15; (with_reducible refine (X2.calls  t338 _ A176.out).mono ?_); rintro e w179 ⟨rfl, hb⟩; replace HO_11 := rb_ HO_11 hb; replace HO_16 := rb_ HO_16 hb; replace HO_19 := Xa.mk (Kd.N_below (xo_ HO_19) hb); replace HO_22 := rb_ HO_22 hb; replace HO_284000 := Xa.mk (Kd.V_below (xo_ HO_284000) hb); replace HO_284001 := Xa.mk (Kd.V_below (xo_ HO_284001) hb); replace HO_284002 := Xa.mk (Kd.V_below (xo_ HO_284002) hb); replace BK283 := kb_ BK283 hb; replace BK284 := kb_ BK284 hb; replace HB := sb_ HB hb; (try clear hb); (try clear hb2); (try clear hk); (try clear hi)))
                go_ret
                exact ⟨by first | rfl | (simp [errW_none, errW_some] <;> rfl) | (simp [*, errW_none, errW_some] <;> rfl), by repeat (first | (with_reducible first | exact HB.out | apply Xs | apply Xo | apply Xl | refine XC ?_ (Xa.out (by assumption))) | exact HB.out)⟩
               replace c150 := Bool.eq_false_iff.mpr c150
               subst c150
               have H1 : (none) = some r := by rw [if_neg (show ¬ (false = true) by decide)] at H; exact H
               clear H
               have H := H1
               clear H1
               exact absurd H (by simp)

end Go.Proofs.Ytiaiecfnpompcaa.T
namespace Go.Proofs.Ytiaiecfnpompcaa.T
open Go.RowKit Go.Proofs.YtiaiecfnpompcaaW.PrintWords Go.Proofs.YtiaiecfnpompcaaW.PrintLast Go.Proofs.YtiaiecfnpompcaaW.PrintMore
theorem Xb.callsC (k : Nat) (A0 : Option Addr) (c0 : Nat) (l0 : List S144) (A1_0 : Option Addr) (c1_0 : Nat) (l1_0 : List S58) (A1_1 : Option Addr) (c1_1 : Nat) (l1_1 : List S58) (A1_2 : Option Addr) (c1_2 : Nat) (l1_2 : List S58) (a2_0 a2_1 a2_2 : Int) (r : Bool) (w : World) (hr0 : Kd.C k144 w A0 l0.length l0) (hc0 : l0.length ≤ c0)
  (hr1_0 : Kd.C k58 w A1_0 l1_0.length l1_0) (hc1_0 : l1_0.length ≤ c1_0) (hr1_1 : Kd.C k58 w A1_1 l1_1.length l1_1) (hc1_1 : l1_1.length ≤ c1_1) (hr1_2 : Kd.C k58 w A1_2 l1_2.length l1_2) (hc1_2 : l1_2.length ≤ c1_2) (h : Xb.f k l0 l1_0 l1_1 l1_2 a2_0 a2_1 a2_2 = some r) :
  Calls Try.prog 8 #[.slice A0 l0.length c0, .agg #[.slice A1_0 l1_0.length c1_0, .slice A1_1 l1_1.length c1_1, .slice A1_2 l1_2.length c1_2], .agg #[.int .i64 a2_0, .int .i64 a2_1, .int .i64 a2_2]] w fun e w' => e = .returned (.bool r) ∧ Below w.heap.size w w' :=
 Xb.callsV k A0 c0 l0 (fun _ => True) A1_0 c1_0 l1_0 (fun _ => True) A1_1 c1_1 l1_1 (fun _ => True) A1_2 c1_2 l1_2 a2_0 a2_1 a2_2 r w hr0 hc0
  (Kd.V_mk hc1_0 (fun _ hW => Kd.Heap.C XcQ (fun k_ hk => hW k_ trivial hk) hr1_0)) (Kd.V_mk hc1_1 (fun _ hW => Kd.Heap.C XcQ (fun k_ hk => hW k_ trivial hk) hr1_1)) (Kd.V_mk hc1_2 (fun _ hW => Kd.Heap.C XcQ (fun k_ hk => hW k_ trivial hk) hr1_2)) h
end Go.Proofs.Ytiaiecfnpompcaa.T
