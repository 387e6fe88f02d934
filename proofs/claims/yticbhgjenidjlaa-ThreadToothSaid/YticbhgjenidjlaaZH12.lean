-- cut down, squeezed and laid together by pack.py (a program of this repository) out of this seat's texts
import Derived.ChangeKeysEq
import Derived.Below
import Derived.Deep.Draws
import Derived.Deep.AppendLies
import Derived.Maps.AppendAt
import Derived.OwnWalk
import Derived.Laws.BytesArg
import Derived.Laws.MakeOwn
import Derived.Laws.OwnMore
import Derived.Deep.OwnRows
import Derived.Tactics
import Derived.Lib.ConvBytes
import Derived.Laws.Slices
import Derived.WalkKit
import Derived.KernelRfl
import Derived.RowKit3
import Derived.Deep.LoopGhost
import Derived.Deep.QuietTactic
import Derived.BigQuiet
import Derived.WideLaws
import Derived.Deep.DeepCutAuto
import Derived.Deep.CutBlock
import Derived.Deep.RegionHeld3
import Derived.Laws.Rows
import Derived.Lib.AppendStr
import Derived.ArgAppend
import Derived.Laws.IdiomCopy
import Derived.OrdersHeld
import Derived.Laws.BitsLemmas
import Derived.RowKit
import Derived.Test.YticbhgjenidjlaaProg
import Derived.Laws.StructEq
import Derived.MapKept
import Derived.Test.YticbhgjenidjlaaZH3
import Derived.Test.YticbhgjenidjlaaZH7
import Derived.Test.YticbhgjenidjlaaZH4
import Derived.Test.YticbhgjenidjlaaZH6
import Derived.Test.YticbhgjenidjlaaZH5
import Derived.Test.YticbhgjenidjlaaZH2
namespace Go.Proofs.Yticbhgjenidjlaa.T
open Go.RowKit Go.Proofs.YticbhgjenidjlaaW.PrintWords Go.Proofs.YticbhgjenidjlaaW.PrintLast Go.Proofs.YticbhgjenidjlaaW.PrintMore
attribute [local go_sem] max2_int min2_int max_two min_two max_three min_three max_four min_four   -- for this text's walks alone
set_option linter.unusedVariables false
set_option linter.unusedSimpArgs false
attribute [local go_sem] wl_100001

def acmelaw01_Cut_form.f (a0_0 : Int) (a0_1 : Int) (a0_2 : Int) (a0_3 : Int) (a0_4 : Int) (a0_5 : Int) (a0_6 : Int) (a0_7 : Bool) : Option (Int × Int × Int × Int × Int × Int × Bool × Int) := if (wrap64 ((Int.tmod (wrap64 (a0_1)) 1200) + (Int.tmod (wrap64 (a0_2)) 1200))) > 0 then (if (wrap64 ((Int.tmod (wrap64 (a0_1)) 1200) + (Int.tmod (wrap64 (a0_2)) 1200))) = 0 then (none) else (if (wrap64 ((mn 100000 (wrap64 (Int.tdiv (wrap64 (500 * (wrap64 (100 + (wrap64 (a0_0)))))) (wrap64 ((Int.tmod (wrap64 (a0_1)) 1200) + (Int.tmod (wrap64 (a0_2)) 1200)))))) + 1)) = 0 then (none) else (if (wrap64 ((Int.tmod (wrap64 (a0_3)) (wrap64 ((mn 100000 (wrap64 (Int.tdiv (wrap64 (500 * (wrap64 (100 + (wrap64 (a0_0)))))) (wrap64 ((Int.tmod (wrap64 (a0_1)) 1200) + (Int.tmod (wrap64 (a0_2)) 1200)))))) + 1))) + (Int.tmod (wrap64 (a0_4)) (wrap64 ((mn 100000 (wrap64 (Int.tdiv (wrap64 (500 * (wrap64 (100 + (wrap64 (a0_0)))))) (wrap64 ((Int.tmod (wrap64 (a0_1)) 1200) + (Int.tmod (wrap64 (a0_2)) 1200)))))) + 1))))) = 0 then (some (wrap64 (100 + (wrap64 (a0_0))), Int.tmod (wrap64 (a0_1)) 1200, Int.tmod (wrap64 (a0_2)) 1200, 1, Int.tmod (wrap64 (a0_4)) (wrap64 ((mn 100000 (wrap64 (Int.tdiv (wrap64 (500 * (wrap64 (100 + (wrap64 (a0_0)))))) (wrap64 ((Int.tmod (wrap64 (a0_1)) 1200) + (Int.tmod (wrap64 (a0_2)) 1200)))))) + 1)), wrap64 (1 + (Int.tmod (wrap64 (a0_5)) 8)), a0_7, Int.tmod (wrap64 (a0_6)) 101)) else (some (wrap64 (100 + (wrap64 (a0_0))), Int.tmod (wrap64 (a0_1)) 1200, Int.tmod (wrap64 (a0_2)) 1200, Int.tmod (wrap64 (a0_3)) (wrap64 ((mn 100000 (wrap64 (Int.tdiv (wrap64 (500 * (wrap64 (100 + (wrap64 (a0_0)))))) (wrap64 ((Int.tmod (wrap64 (a0_1)) 1200) + (Int.tmod (wrap64 (a0_2)) 1200)))))) + 1)), Int.tmod (wrap64 (a0_4)) (wrap64 ((mn 100000 (wrap64 (Int.tdiv (wrap64 (500 * (wrap64 (100 + (wrap64 (a0_0)))))) (wrap64 ((Int.tmod (wrap64 (a0_1)) 1200) + (Int.tmod (wrap64 (a0_2)) 1200)))))) + 1)), wrap64 (1 + (Int.tmod (wrap64 (a0_5)) 8)), a0_7, Int.tmod (wrap64 (a0_6)) 101))))) else (if (wrap64 ((Int.tmod (wrap64 (a0_3)) 100001) + (Int.tmod (wrap64 (a0_4)) 100001))) = 0 then (some (wrap64 (100 + (wrap64 (a0_0))), Int.tmod (wrap64 (a0_1)) 1200, Int.tmod (wrap64 (a0_2)) 1200, 1, Int.tmod (wrap64 (a0_4)) 100001, wrap64 (1 + (Int.tmod (wrap64 (a0_5)) 8)), a0_7, Int.tmod (wrap64 (a0_6)) 101)) else (some (wrap64 (100 + (wrap64 (a0_0))), Int.tmod (wrap64 (a0_1)) 1200, Int.tmod (wrap64 (a0_2)) 1200, Int.tmod (wrap64 (a0_3)) 100001, Int.tmod (wrap64 (a0_4)) 100001, wrap64 (1 + (Int.tmod (wrap64 (a0_5)) 8)), a0_7, Int.tmod (wrap64 (a0_6)) 101)))
def acmelaw01_Cut_form.T6 : Bool × List (List Nat × List Nat) := (true, [([], []), ([0], [0]), ([1], [1]), ([], []), ([3], [3]), ([2, 4], [2, 4]), ([], []), ([6], [6]), ([7], [7]), ([], []), ([9], [9]), ([8, 10], [8, 10]), ([0, 1, 2, 3, 4, 5], []), ([12, 5, 0, 1, 2, 3, 4, 5], [5, 12]), ([0, 1, 2, 3, 4, 5, 6, 7, 8, 9, 10, 11, 12, 13], []), ([14, 11, 13, 0, 1, 2, 3, 4, 5, 6, 7, 8, 9, 10, 11, 12, 13], [11, 14])])
def acmelaw01_Cut_form.B6 : List Nat := [0, 1, 3, 0, 8, 31, 0, 64, 192, 0, 512, 1984, 63, 4159, 16383, 32767]
theorem acmelaw01_Cut_form.tab6 : rtab .any (opsOf Try.f37 6) = acmelaw01_Cut_form.T6 := by kernel_rfl
theorem acmelaw01_Cut_form.bits6 : waitsOk acmelaw01_Cut_form.T6.2 acmelaw01_Cut_form.B6 = true := by kernel_rfl
set_option maxHeartbeats 8000000 in
set_option maxRecDepth 100000 in
theorem acmelaw01_Cut_form.calls (a0_0 : Int) (a0_1 : Int) (a0_2 : Int) (a0_3 : Int) (a0_4 : Int) (a0_5 : Int) (a0_6 : Int) (a0_7 : Bool) (r1 : Int) (r2 : Int) (r3 : Int) (r4 : Int) (r5 : Int) (r6 : Int) (r7 : Bool) (r8 : Int) (w : World) (h : acmelaw01_Cut_form.f a0_0 a0_1 a0_2 a0_3 a0_4 a0_5 a0_6 a0_7 = some (r1, r2, r3, r4, r5, r6, r7, r8)) :
  Calls Try.prog 37 #[.agg #[.int .u16 a0_0, .int .u16 a0_1, .int .u16 a0_2, .int .u16 a0_3, .int .u16 a0_4, .int .u8 a0_5, .int .u8 a0_6, .bool a0_7]] w fun e w' => e = .returned (.agg #[.int .i64 r1, .int .i64 r2, .int .i64 r3, .int .i64 r4, .int .i64 r5, .int .i64 r6, .bool r7, .int .i64 r8]) ∧ Below w.heap.size w w' := by
 have hu71 := Try.underlying71
 have hu23 := Try.underlying23
 have HB := Aside0.mk (Below.refl w.heap.size w)
 have H : (if (wrap64 ((Int.tmod (wrap64 (a0_1)) 1200) + (Int.tmod (wrap64 (a0_2)) 1200))) > 0 then (if (wrap64 ((Int.tmod (wrap64 (a0_1)) 1200) + (Int.tmod (wrap64 (a0_2)) 1200))) = 0 then (none) else (if (wrap64 ((mn 100000 (wrap64 (Int.tdiv (wrap64 (500 * (wrap64 (100 + (wrap64 (a0_0)))))) (wrap64 ((Int.tmod (wrap64 (a0_1)) 1200) + (Int.tmod (wrap64 (a0_2)) 1200)))))) + 1)) = 0 then (none) else (if (wrap64 ((Int.tmod (wrap64 (a0_3)) (wrap64 ((mn 100000 (wrap64 (Int.tdiv (wrap64 (500 * (wrap64 (100 + (wrap64 (a0_0)))))) (wrap64 ((Int.tmod (wrap64 (a0_1)) 1200) + (Int.tmod (wrap64 (a0_2)) 1200)))))) + 1))) + (Int.tmod (wrap64 (a0_4)) (wrap64 ((mn 100000 (wrap64 (Int.tdiv (wrap64 (500 * (wrap64 (100 + (wrap64 (a0_0)))))) (wrap64 ((Int.tmod (wrap64 (a0_1)) 1200) + (Int.tmod (wrap64 (a0_2)) 1200)))))) + 1))))) = 0 then (some (wrap64 (100 + (wrap64 (a0_0))), Int.tmod (wrap64 (a0_1)) 1200, Int.tmod (wrap64 (a0_2)) 1200, 1, Int.tmod (wrap64 (a0_4)) (wrap64 ((mn 100000 (wrap64 (Int.tdiv (wrap64 (500 * (wrap64 (100 + (wrap64 (a0_0)))))) (wrap64 ((Int.tmod (wrap64 (a0_1)) 1200) + (Int.tmod (wrap64 (a0_2)) 1200)))))) + 1)), wrap64 (1 + (Int.tmod (wrap64 (a0_5)) 8)), a0_7, Int.tmod (wrap64 (a0_6)) 101)) else (some (wrap64 (100 + (wrap64 (a0_0))), Int.tmod (wrap64 (a0_1)) 1200, Int.tmod (wrap64 (a0_2)) 1200, Int.tmod (wrap64 (a0_3)) (wrap64 ((mn 100000 (wrap64 (Int.tdiv (wrap64 (500 * (wrap64 (100 + (wrap64 (a0_0)))))) (wrap64 ((Int.tmod (wrap64 (a0_1)) 1200) + (Int.tmod (wrap64 (a0_2)) 1200)))))) + 1)), Int.tmod (wrap64 (a0_4)) (wrap64 ((mn 100000 (wrap64 (Int.tdiv (wrap64 (500 * (wrap64 (100 + (wrap64 (a0_0)))))) (wrap64 ((Int.tmod (wrap64 (a0_1)) 1200) + (Int.tmod (wrap64 (a0_2)) 1200)))))) + 1)), wrap64 (1 + (Int.tmod (wrap64 (a0_5)) 8)), a0_7, Int.tmod (wrap64 (a0_6)) 101))))) else (if (wrap64 ((Int.tmod (wrap64 (a0_3)) 100001) + (Int.tmod (wrap64 (a0_4)) 100001))) = 0 then (some (wrap64 (100 + (wrap64 (a0_0))), Int.tmod (wrap64 (a0_1)) 1200, Int.tmod (wrap64 (a0_2)) 1200, 1, Int.tmod (wrap64 (a0_4)) 100001, wrap64 (1 + (Int.tmod (wrap64 (a0_5)) 8)), a0_7, Int.tmod (wrap64 (a0_6)) 101)) else (some (wrap64 (100 + (wrap64 (a0_0))), Int.tmod (wrap64 (a0_1)) 1200, Int.tmod (wrap64 (a0_2)) 1200, Int.tmod (wrap64 (a0_3)) 100001, Int.tmod (wrap64 (a0_4)) 100001, wrap64 (1 + (Int.tmod (wrap64 (a0_5)) 8)), a0_7, Int.tmod (wrap64 (a0_6)) 101)))) = some (r1, r2, r3, r4, r5, r6, r7, r8) := h
 clear h
 by_cases c2 : (wrap64 ((Int.tmod (wrap64 (a0_1)) 1200) + (Int.tmod (wrap64 (a0_2)) 1200))) > 0
 ·rw [if_pos c2] at H
  have c2b0 : decide (0 < (wrap64 ((Int.tmod (wrap64 (a0_1)) 1200) + (Int.tmod (wrap64 (a0_2)) 1200)))) = true := decide_eq_true c2
  clear c2
  by_cases c3 : (wrap64 ((Int.tmod (wrap64 (a0_1)) 1200) + (Int.tmod (wrap64 (a0_2)) 1200))) = 0
  ·rw [if_pos c3] at H
   exact absurd H (by simp)
  ·rw [if_neg c3] at H
   have c3b0 : ((wrap64 ((Int.tmod (wrap64 (a0_1)) 1200) + (Int.tmod (wrap64 (a0_2)) 1200))) == 0) = false := beq_eq_false_iff_ne.mpr c3
   have c3b1 : ((wrap64 ((Int.tmod (wrap64 (a0_1)) 1200) + (Int.tmod (wrap64 (a0_2)) 1200))) != 0) = true := bne_iff_ne.mpr c3
   obtain ⟨ji4, hji4⟩ : ∃ j_ : Int, (mn 100000 (wrap64 (Int.tdiv (wrap64 (500 * (wrap64 (100 + (wrap64 (a0_0)))))) (wrap64 ((Int.tmod (wrap64 (a0_1)) 1200) + (Int.tmod (wrap64 (a0_2)) 1200)))))) = j_ := ⟨_, rfl⟩
   replace H : (if (wrap64 ((ji4) + 1)) = 0 then (none) else (if (wrap64 ((Int.tmod (wrap64 (a0_3)) (wrap64 ((ji4) + 1))) + (Int.tmod (wrap64 (a0_4)) (wrap64 ((ji4) + 1))))) = 0 then (some (wrap64 (100 + (wrap64 (a0_0))), Int.tmod (wrap64 (a0_1)) 1200, Int.tmod (wrap64 (a0_2)) 1200, 1, Int.tmod (wrap64 (a0_4)) (wrap64 ((ji4) + 1)), wrap64 (1 + (Int.tmod (wrap64 (a0_5)) 8)), a0_7, Int.tmod (wrap64 (a0_6)) 101)) else (some (wrap64 (100 + (wrap64 (a0_0))), Int.tmod (wrap64 (a0_1)) 1200, Int.tmod (wrap64 (a0_2)) 1200, Int.tmod (wrap64 (a0_3)) (wrap64 ((ji4) + 1)), Int.tmod (wrap64 (a0_4)) (wrap64 ((ji4) + 1)), wrap64 (1 + (Int.tmod (wrap64 (a0_5)) 8)), a0_7, Int.tmod (wrap64 (a0_6)) 101)))) = some (r1, r2, r3, r4, r5, r6, r7, r8) := by first | (rw [hji4] at H; exact H) | (simp only [hji4] at H ⊢; exact H)
   (try (have hji4h : ji4 ≤ 100000 := by (rw [← hji4]; unfold mn; (repeat' split) <;> omega)))
   (try (have hji4g : ji4 ≤ 64 := by omega))
   have hji4_ : (if (wrap64 (Int.tdiv (wrap64 (500 * (wrap64 (100 + (wrap64 (a0_0)))))) (wrap64 ((Int.tmod (wrap64 (a0_1)) 1200) + (Int.tmod (wrap64 (a0_2)) 1200))))) < 100000 then (wrap64 (Int.tdiv (wrap64 (500 * (wrap64 (100 + (wrap64 (a0_0)))))) (wrap64 ((Int.tmod (wrap64 (a0_1)) 1200) + (Int.tmod (wrap64 (a0_2)) 1200))))) else 100000) = ji4 := hji4
   by_cases c5 : (wrap64 ((ji4) + 1)) = 0
   ·rw [if_pos c5] at H
    exact absurd H (by simp)
   ·rw [if_neg c5] at H
    have c5b0 : ((wrap64 ((ji4) + 1)) == 0) = false := beq_eq_false_iff_ne.mpr c5
    have c5b1 : ((wrap64 ((ji4) + 1)) != 0) = true := bne_iff_ne.mpr c5
    by_cases c6 : (wrap64 ((Int.tmod (wrap64 (a0_3)) (wrap64 ((ji4) + 1))) + (Int.tmod (wrap64 (a0_4)) (wrap64 ((ji4) + 1))))) = 0
    ·rw [if_pos c6] at H
     have c6b0 : ((wrap64 ((Int.tmod (wrap64 (a0_3)) (wrap64 ((ji4) + 1))) + (Int.tmod (wrap64 (a0_4)) (wrap64 ((ji4) + 1))))) == 0) = true := beq_iff_eq.mpr c6
     have c6b1 : ((wrap64 ((Int.tmod (wrap64 (a0_3)) (wrap64 ((ji4) + 1))) + (Int.tmod (wrap64 (a0_4)) (wrap64 ((ji4) + 1))))) != 0) = false := bne_eq_false_iff_eq.mpr c6
     clear c6
     simp only [Option.some.injEq, Prod.mk.injEq] at H
     obtain ⟨rfl, rfl, rfl, rfl, rfl, rfl, rfl, rfl⟩ := H
     go_enter Try.func37, Try.ntmps37
     try go_wp2_with (first | ((with_reducible refine gate_dst (N := 1) rfl ?_); refine box_event ?hg (N := 1) ?hd (cs := #[.int .u16 a0_0, .int .u16 a0_1, .int .u16 a0_2, .int .u16 a0_3, .int .u16 a0_4, .int .u8 a0_5, .int .u8 a0_6, .bool a0_7]) (t := 71) ?hr ?_; (case hd => rfl); (case hg => rfl); (case hr => first | (go_simp; done) | (go_simp; rfl)); intro gb485 hg w7 hbox hb; have BK485 := Aside0.mk (hbox); have GW485 := Aside0.mk ((by rw [hg]; exact (below_size HB.out) : w.heap.size ≤ gb485)); have GE485 := GW485; replace HB := Aside0.mk (below_step HB.out hb); clear hb hbox hg) | ((with_reducible refine gate_dst (N := 2) rfl ?_); refine box_event ?hg (N := 2) ?hd (cs := #[.int .i64 0, .int .i64 0, .int .i64 0, .int .i64 0, .int .i64 0, .int .i64 0, .bool false, .int .i64 0]) (t := 23) ?hr ?_; (case hd => rfl); (case hg => rfl); (case hr => first | (go_simp; done) | (go_simp; rfl)); intro gb486 hg w8 hbox hb; have BK486 := Aside0.mk (hbox); have GW486 := Aside0.mk ((by rw [hg]; exact (below_size (by repeat (first | (with_reducible first | exact HB.out | apply below_alloc | apply pw_below_drewN | apply below_drew1 | refine below_set ?_ (Aside0.out (by assumption))) | exact HB.out))) : w.heap.size ≤ gb486)); have GE486 := GW486; replace HB := Aside0.mk (below_step (by repeat (first | (with_reducible first | exact HB.out | apply below_alloc | apply pw_below_drewN | apply below_drew1 | refine below_set ?_ (Aside0.out (by assumption))) | exact HB.out)) hb); have NB485_486 := Aside0.mk ((by rw [hg]; exact Nat.ne_of_lt (blk_lt BK485.out) : gb485 ≠ gb486)); have NB486_485 := Aside0.mk ((by rw [hg]; exact Nat.ne_of_gt (blk_lt BK485.out) : gb486 ≠ gb485)); replace BK485 := Aside0.mk (blk_below (g := gb485) (o := .cells #[.int .u16 a0_0, .int .u16 a0_1, .int .u16 a0_2, .int .u16 a0_3, .int .u16 a0_4, .int .u8 a0_5, .int .u8 a0_6, .bool a0_7] 71 (0, 0)) (by repeat (first | (with_reducible first | exact BK485.out | refine blk_drewN ?_ _ | refine blk_drew ?_ | refine blk_alloc ?_ _) | exact BK485.out)) hb); clear hb hbox hg; have hnb9 := NB485_486.out; have hnc9 := NB486_485.out; obtain ⟨hcz10_0, hcz10_1, hcz10_2, hcz10_3, hcz10_4, hcz10_5, hcz10_6, hcz10_7⟩ := bc8 BK485.out; obtain ⟨hfz10_0, hfz10_1, hfz10_2, hfz10_3, hfz10_4, hfz10_5, hfz10_6, hfz10_7⟩ := bf8 BK485.out) | ((with_reducible refine gate_dst (N := 3) rfl ?_); refine box_event ?hg (N := 3) ?hd (cs := #[.int .i64 0, .int .i64 0, .int .i64 0, .int .i64 0, .int .i64 0, .int .i64 0, .bool false, .int .i64 0]) (t := 23) ?hr ?_; (case hd => rfl); (case hg => rfl); (case hr => first | (go_simp; done) | (go_simp; rfl)); intro gb487 hg w11 hbox hb; have BK487 := Aside0.mk (hbox); have GW487 := Aside0.mk ((by rw [hg]; exact (below_size (by repeat (first | (with_reducible first | exact HB.out | apply below_alloc | apply pw_below_drewN | apply below_drew1 | refine below_set ?_ (Aside0.out (by assumption))) | exact HB.out))) : w.heap.size ≤ gb487)); have GE487 := GW487; replace HB := Aside0.mk (below_step (by repeat (first | (with_reducible first | exact HB.out | apply below_alloc | apply pw_below_drewN | apply below_drew1 | refine below_set ?_ (Aside0.out (by assumption))) | exact HB.out)) hb); have NB485_487 := Aside0.mk ((by rw [hg]; exact Nat.ne_of_lt (blk_lt BK485.out) : gb485 ≠ gb487)); have NB487_485 := Aside0.mk ((by rw [hg]; exact Nat.ne_of_gt (blk_lt BK485.out) : gb487 ≠ gb485)); replace BK485 := Aside0.mk (blk_below (g := gb485) (o := .cells #[.int .u16 a0_0, .int .u16 a0_1, .int .u16 a0_2, .int .u16 a0_3, .int .u16 a0_4, .int .u8 a0_5, .int .u8 a0_6, .bool a0_7] 71 (0, 0)) (by repeat (first | (with_reducible first | exact BK485.out | refine blk_drewN ?_ _ | refine blk_drew ?_ | refine blk_alloc ?_ _) | exact BK485.out)) hb); have NB486_487 := Aside0.mk ((by rw [hg]; exact Nat.ne_of_lt (blk_lt BK486.out) : gb486 ≠ gb487)); have NB487_486 := Aside0.mk ((by rw [hg]; exact Nat.ne_of_gt (blk_lt BK486.out) : gb487 ≠ gb486)); replace BK486 := Aside0.mk (blk_below (g := gb486) (o := .cells #[.int .i64 0, .int .i64 0, .int .i64 0, .int .i64 0, .int .i64 0, .int .i64 0, .bool false, .int .i64 0] 23 (0, 0)) (by repeat (first | (with_reducible first | exact BK486.out | refine blk_drewN ?_ _ | refine blk_drew ?_ | refine blk_alloc ?_ _) | exact BK486.out)) hb); clear hb hbox hg; have hnb12 := NB487_485.out; have hnc12 := NB485_487.out; have hnb13 := NB487_486.out; have hnc13 := NB486_487.out; obtain ⟨hcz14_0, hcz14_1, hcz14_2, hcz14_3, hcz14_4, hcz14_5, hcz14_6, hcz14_7⟩ := bc8 BK487.out; obtain ⟨hfz14_0, hfz14_1, hfz14_2, hfz14_3, hfz14_4, hfz14_5, hfz14_6, hfz14_7⟩ := bf8 BK487.out))
     have n0_ : Aside0 (((((((((w11.setCell ⟨gb487, 0, none⟩ (.int .i64 (wrap64 (100 + (wrap64 (a0_0)))))).setCell ⟨gb487, 1, none⟩ (.int .i64 (Int.tmod (wrap64 (a0_1)) 1200))).setCell ⟨gb487, 2, none⟩ (.int .i64 (Int.tmod (wrap64 (a0_2)) 1200))).setCell ⟨gb487, 3, none⟩ (.int .i64 0)).setCell ⟨gb487, 4, none⟩ (.int .i64 0)).setCell ⟨gb487, 5, none⟩ (.int .i64 (wrap64 (1 + (Int.tmod (wrap64 (a0_5)) 8))))).setCell ⟨gb487, 6, none⟩ (.bool a0_7)).setCell ⟨gb487, 7, none⟩ (.int .i64 (Int.tmod (wrap64 (a0_6)) 101))).heap[gb485]? = some (.cells #[.int .u16 a0_0, .int .u16 a0_1, .int .u16 a0_2, .int .u16 a0_3, .int .u16 a0_4, .int .u8 a0_5, .int .u8 a0_6, .bool a0_7] 71 (0, 0))) := ⟨by repeat (first | (with_reducible first | exact BK485.out | refine blk_drewN ?_ _ | refine blk_drew ?_ | refine blk_alloc ?_ _) | refine blk_far ?_ NB485_487.out _ | exact BK485.out)⟩
     have n1_ : Aside0 (((((((((w11.setCell ⟨gb487, 0, none⟩ (.int .i64 (wrap64 (100 + (wrap64 (a0_0)))))).setCell ⟨gb487, 1, none⟩ (.int .i64 (Int.tmod (wrap64 (a0_1)) 1200))).setCell ⟨gb487, 2, none⟩ (.int .i64 (Int.tmod (wrap64 (a0_2)) 1200))).setCell ⟨gb487, 3, none⟩ (.int .i64 0)).setCell ⟨gb487, 4, none⟩ (.int .i64 0)).setCell ⟨gb487, 5, none⟩ (.int .i64 (wrap64 (1 + (Int.tmod (wrap64 (a0_5)) 8))))).setCell ⟨gb487, 6, none⟩ (.bool a0_7)).setCell ⟨gb487, 7, none⟩ (.int .i64 (Int.tmod (wrap64 (a0_6)) 101))).heap[gb486]? = some (.cells #[.int .i64 0, .int .i64 0, .int .i64 0, .int .i64 0, .int .i64 0, .int .i64 0, .bool false, .int .i64 0] 23 (0, 0))) := ⟨by repeat (first | (with_reducible first | exact BK486.out | refine blk_drewN ?_ _ | refine blk_drew ?_ | refine blk_alloc ?_ _) | refine blk_far ?_ NB486_487.out _ | exact BK486.out)⟩
     have n2_ : Aside0 (((((((((w11.setCell ⟨gb487, 0, none⟩ (.int .i64 (wrap64 (100 + (wrap64 (a0_0)))))).setCell ⟨gb487, 1, none⟩ (.int .i64 (Int.tmod (wrap64 (a0_1)) 1200))).setCell ⟨gb487, 2, none⟩ (.int .i64 (Int.tmod (wrap64 (a0_2)) 1200))).setCell ⟨gb487, 3, none⟩ (.int .i64 0)).setCell ⟨gb487, 4, none⟩ (.int .i64 0)).setCell ⟨gb487, 5, none⟩ (.int .i64 (wrap64 (1 + (Int.tmod (wrap64 (a0_5)) 8))))).setCell ⟨gb487, 6, none⟩ (.bool a0_7)).setCell ⟨gb487, 7, none⟩ (.int .i64 (Int.tmod (wrap64 (a0_6)) 101))).heap[gb487]? = some (.cells #[.int .i64 (wrap64 (100 + (wrap64 (a0_0)))), .int .i64 (Int.tmod (wrap64 (a0_1)) 1200), .int .i64 (Int.tmod (wrap64 (a0_2)) 1200), .int .i64 0, .int .i64 0, .int .i64 (wrap64 (1 + (Int.tmod (wrap64 (a0_5)) 8))), .bool a0_7, .int .i64 (Int.tmod (wrap64 (a0_6)) 101)] 23 (0, 0))) := ⟨by exact bto (bput (bput (bput (bput (bput (bput (bput (bput (BK487.out) _ _) _ _) _ _) _ _) _ _) _ _) _ _) _ _) rfl⟩
     have n3_ : Aside0 (Below w.heap.size w ((((((((w11.setCell ⟨gb487, 0, none⟩ (.int .i64 (wrap64 (100 + (wrap64 (a0_0)))))).setCell ⟨gb487, 1, none⟩ (.int .i64 (Int.tmod (wrap64 (a0_1)) 1200))).setCell ⟨gb487, 2, none⟩ (.int .i64 (Int.tmod (wrap64 (a0_2)) 1200))).setCell ⟨gb487, 3, none⟩ (.int .i64 0)).setCell ⟨gb487, 4, none⟩ (.int .i64 0)).setCell ⟨gb487, 5, none⟩ (.int .i64 (wrap64 (1 + (Int.tmod (wrap64 (a0_5)) 8))))).setCell ⟨gb487, 6, none⟩ (.bool a0_7)).setCell ⟨gb487, 7, none⟩ (.int .i64 (Int.tmod (wrap64 (a0_6)) 101)))) := ⟨by repeat (first | (with_reducible first | exact HB.out | apply below_alloc | apply pw_below_drewN | apply below_drew1 | refine below_set ?_ (Aside0.out (by assumption))) | exact HB.out)⟩
     (try clear BK485)
     (try clear BK486)
     (try clear BK487)
     (try clear HB)
     generalize ((((((((w11.setCell ⟨gb487, 0, none⟩ (.int .i64 (wrap64 (100 + (wrap64 (a0_0)))))).setCell ⟨gb487, 1, none⟩ (.int .i64 (Int.tmod (wrap64 (a0_1)) 1200))).setCell ⟨gb487, 2, none⟩ (.int .i64 (Int.tmod (wrap64 (a0_2)) 1200))).setCell ⟨gb487, 3, none⟩ (.int .i64 0)).setCell ⟨gb487, 4, none⟩ (.int .i64 0)).setCell ⟨gb487, 5, none⟩ (.int .i64 (wrap64 (1 + (Int.tmod (wrap64 (a0_5)) 8))))).setCell ⟨gb487, 6, none⟩ (.bool a0_7)).setCell ⟨gb487, 7, none⟩ (.int .i64 (Int.tmod (wrap64 (a0_6)) 101))) = w15 at n0_ n1_ n2_ n3_ ⊢
     have BK485 := n0_
     have BK486 := n1_
     have BK487 := n2_
     have HB := n3_
     clear n0_ n1_ n2_ n3_
     have n0_ := Aside0.mk (blk_drew BK485.out)
     have n1_ := Aside0.mk (blk_drew BK486.out)
     have n2_ := Aside0.mk (blk_drew BK487.out)
     have n3_ := Aside0.mk (below_drew1 HB.out)
     clear BK485
     clear BK486
     clear BK487
     clear HB
     have BK485 := n0_
     have BK486 := n1_
     have BK487 := n2_
     have HB := n3_
     clear n0_ n1_ n2_ n3_
     refine start_ (n := 16) (S := fun w' => w'.cell? ⟨gb485, 0, none⟩ = some (.int .u16 a0_0) ∧ w'.cell? ⟨gb485, 1, none⟩ = some (.int .u16 a0_1) ∧ w'.cell? ⟨gb485, 2, none⟩ = some (.int .u16 a0_2) ∧ w'.cell? ⟨gb485, 3, none⟩ = some (.int .u16 a0_3) ∧ w'.cell? ⟨gb485, 4, none⟩ = some (.int .u16 a0_4) ∧ w'.cell? ⟨gb485, 5, none⟩ = some (.int .u8 a0_5) ∧ w'.cell? ⟨gb485, 6, none⟩ = some (.int .u8 a0_6) ∧ w'.cell? ⟨gb485, 7, none⟩ = some (.bool a0_7)) (ds := []) #[false, false, false, false, false, false, false, false, false, false, false, false, false, false, false, false] (by kernel_rfl) rfl rfl ⟨(blk_cell BK485.out 0).trans rfl, (blk_cell BK485.out 1).trans rfl, (blk_cell BK485.out 2).trans rfl, (blk_cell BK485.out 3).trans rfl, (blk_cell BK485.out 4).trans rfl, (blk_cell BK485.out 5).trans rfl, (blk_cell BK485.out 6).trans rfl, (blk_cell BK485.out 7).trans rfl⟩ (fun hHeld => ?_); refine with_tabW acmelaw01_Cut_form.tab6 acmelaw01_Cut_form.bits6 (fun HT_ HW_ => ?_)
     generalize w15.drew = w16 at BK485 BK486 BK487 HB hHeld ⊢
     refine pure_ (i := 0) (N := some 44) (v := ?_) (a' := ?_) #[true, false, false, false, false, false, false, false, false, false, false, false, false, false, false, false] rfl rfl (any_of HT_.out (by kernel_rfl)) (fun _ _ _ h => h) (Or.inl ⟨by rfl, ?_⟩) ?_ ?_
     rotate_left
     ·intro w'
      go_simp
      with_reducible rfl
     rotate_left
     ·simp only [Act.put, List.setIfInBounds_toArray, List.set_cons_zero, List.set_cons_succ, i64_w, i32_w]
      rfl
     refine pure_ (i := 3) (N := some 47) (v := ?_) (a' := ?_) #[true, false, false, true, false, false, false, false, false, false, false, false, false, false, false, false] rfl rfl (any_of HT_.out (by kernel_rfl)) (fun _ _ _ h => h) (Or.inl ⟨by rfl, ?_⟩) ?_ ?_
     rotate_left
     ·intro w'
      go_simp
      with_reducible rfl
     rotate_left
     ·simp only [Act.put, List.setIfInBounds_toArray, List.set_cons_zero, List.set_cons_succ, i64_w, i32_w]
      rfl
     refine pure_ (i := 4) (N := some 48) (v := ?_) (a' := ?_) #[true, false, false, true, true, false, false, false, false, false, false, false, false, false, false, false] rfl rfl (any_of HT_.out (by kernel_rfl)) (fun _ _ _ h => h) (Or.inl ⟨by rfl, ?_⟩) ?_ ?_
     rotate_left
     ·intro w'
      go_simp
      with_reducible rfl
     rotate_left
     ·simp only [Act.put, List.setIfInBounds_toArray, List.set_cons_zero, List.set_cons_succ, i64_w, i32_w]
      rfl
     refine pure_ (i := 6) (N := some 50) (v := ?_) (a' := ?_) #[true, false, false, true, true, false, true, false, false, false, false, false, false, false, false, false] rfl rfl (any_of HT_.out (by kernel_rfl)) (fun _ _ _ h => h) (Or.inl ⟨by rfl, ?_⟩) ?_ ?_
     rotate_left
     ·intro w'
      go_simp
      with_reducible rfl
     rotate_left
     ·simp only [Act.put, List.setIfInBounds_toArray, List.set_cons_zero, List.set_cons_succ, i64_w, i32_w]
      rfl
     refine pure_ (i := 9) (N := some 53) (v := ?_) (a' := ?_) #[true, false, false, true, true, false, true, false, false, true, false, false, false, false, false, false] rfl rfl (any_of HT_.out (by kernel_rfl)) (fun _ _ _ h => h) (Or.inl ⟨by rfl, ?_⟩) ?_ ?_
     rotate_left
     ·intro w'
      go_simp
      with_reducible rfl
     rotate_left
     ·simp only [Act.put, List.setIfInBounds_toArray, List.set_cons_zero, List.set_cons_succ, i64_w, i32_w]
      rfl
     refine pure_ (i := 10) (N := some 54) (v := ?_) (a' := ?_) #[true, false, false, true, true, false, true, false, false, true, true, false, false, false, false, false] rfl rfl (any_of HT_.out (by kernel_rfl)) (fun _ _ _ h => h) (Or.inl ⟨by rfl, ?_⟩) ?_ ?_
     rotate_left
     ·intro w'
      go_simp
      with_reducible rfl
     rotate_left
     ·simp only [Act.put, List.setIfInBounds_toArray, List.set_cons_zero, List.set_cons_succ, i64_w, i32_w]
      rfl
     refine take_ (i := 1) (N := some 45) (v := ?_) (a' := ?_) #[true, true, false, true, true, false, true, false, false, true, true, false, false, false, false, false] rfl rfl (take_ofW HT_.out HW_.out (by kernel_rfl)) (fun _ _ _ h => h) (Or.inl ⟨by rfl, ?_⟩) hHeld ?_ ?_
     rotate_left
     ·rintro w' ⟨s0, s1, s2, s3, s4, s5, s6, s7⟩
      go_simp
      with_reducible rfl
     rotate_left
     ·simp only [Act.put, List.setIfInBounds_toArray, List.set_cons_zero, List.set_cons_succ, i64_w, i32_w]
      rfl
     refine pure_ (i := 2) (N := some 46) (v := ?_) (a' := ?_) #[true, true, true, true, true, false, true, false, false, true, true, false, false, false, false, false] rfl rfl (any_of HT_.out (by kernel_rfl)) (fun _ _ _ h => h) (Or.inl ⟨by rfl, ?_⟩) ?_ ?_
     rotate_left
     ·intro w'
      go_simp
      with_reducible rfl
     rotate_left
     ·simp only [Act.put, List.setIfInBounds_toArray, List.set_cons_zero, List.set_cons_succ, i64_w, i32_w]
      rfl
     refine pure_ (i := 5) (N := some 49) (v := ?_) (a' := ?_) #[true, true, true, true, true, true, true, false, false, true, true, false, false, false, false, false] rfl rfl (any_of HT_.out (by kernel_rfl)) (fun _ _ _ h => h) (Or.inl ⟨by rfl, ?_⟩) ?_ ?_
     rotate_left
     ·intro w'
      go_simp
      with_reducible rfl
     rotate_left
     ·simp only [Act.put, List.setIfInBounds_toArray, List.set_cons_zero, List.set_cons_succ, i64_w, i32_w]
      rfl
     refine pure_ (i := 12) (N := some 56) (v := ?_) (a' := ?_) #[true, true, true, true, true, true, true, false, false, true, true, false, true, false, false, false] rfl rfl (any_of HT_.out (by kernel_rfl)) (fun _ _ _ h => h) (Or.inl ⟨by rfl, ?_⟩) ?_ ?_
     rotate_left
     ·intro w'
      go_simp
      with_reducible rfl
     rotate_left
     ·simp only [Act.put, List.setIfInBounds_toArray, List.set_cons_zero, List.set_cons_succ, i64_w, i32_w]
      rfl
     refine take_ (i := 7) (N := some 51) (v := ?_) (a' := ?_) #[true, true, true, true, true, true, true, true, false, true, true, false, true, false, false, false] rfl rfl (take_ofW HT_.out HW_.out (by kernel_rfl)) (fun _ _ _ h => h) (Or.inl ⟨by rfl, ?_⟩) hHeld ?_ ?_
     rotate_left
     ·rintro w' ⟨s0, s1, s2, s3, s4, s5, s6, s7⟩
      go_simp
      with_reducible rfl
     rotate_left
     ·simp only [Act.put, List.setIfInBounds_toArray, List.set_cons_zero, List.set_cons_succ, i64_w, i32_w]
      rfl
     refine pure_ (i := 8) (N := some 52) (v := ?_) (a' := ?_) #[true, true, true, true, true, true, true, true, true, true, true, false, true, false, false, false] rfl rfl (any_of HT_.out (by kernel_rfl)) (fun _ _ _ h => h) (Or.inl ⟨by rfl, ?_⟩) ?_ ?_
     rotate_left
     ·intro w'
      go_simp
      with_reducible rfl
     rotate_left
     ·simp only [Act.put, List.setIfInBounds_toArray, List.set_cons_zero, List.set_cons_succ, i64_w, i32_w]
      rfl
     refine pure_ (i := 11) (N := some 55) (v := ?_) (a' := ?_) #[true, true, true, true, true, true, true, true, true, true, true, true, true, false, false, false] rfl rfl (any_of HT_.out (by kernel_rfl)) (fun _ _ _ h => h) (Or.inl ⟨by rfl, ?_⟩) ?_ ?_
     rotate_left
     ·intro w'
      go_simp
      with_reducible rfl
     rotate_left
     ·simp only [Act.put, List.setIfInBounds_toArray, List.set_cons_zero, List.set_cons_succ, i64_w, i32_w]
      rfl
     refine one_ (i := 13) (N := none) #[true, true, true, true, true, true, true, true, true, true, true, true, true, true, false, false] rfl rfl (one_of HT_.out (by kernel_rfl)) (by decide) (fun K hK => ?_)
     have hs17 : w16.cell? ⟨gb487, 3, none⟩ = some (.int .i64 0) := (blk_cell BK487.out 3).trans rfl
     have hfs17 := blk_frozen BK487.out 3
     have hns17_0 := NB485_487.out
     have hns17_1 := NB486_487.out
     have hms17_0 := NB487_485.out
     have hms17_1 := NB487_486.out
     refine skip_ (w1 := ?_) (by rfl) rfl ?_ ?_
     rotate_left
     ·go_simp
      rfl
     refine hK.out _ _ ⟨((cell_far (p := ⟨gb487, _, none⟩) NB485_487.out _).trans (hHeld.1)), ((cell_far (p := ⟨gb487, _, none⟩) NB485_487.out _).trans (hHeld.2.1)), ((cell_far (p := ⟨gb487, _, none⟩) NB485_487.out _).trans (hHeld.2.2.1)), ((cell_far (p := ⟨gb487, _, none⟩) NB485_487.out _).trans (hHeld.2.2.2.1)), ((cell_far (p := ⟨gb487, _, none⟩) NB485_487.out _).trans (hHeld.2.2.2.2.1)), ((cell_far (p := ⟨gb487, _, none⟩) NB485_487.out _).trans (hHeld.2.2.2.2.2.1)), ((cell_far (p := ⟨gb487, _, none⟩) NB485_487.out _).trans (hHeld.2.2.2.2.2.2.1)), ((cell_far (p := ⟨gb487, _, none⟩) NB485_487.out _).trans (hHeld.2.2.2.2.2.2.2))⟩ (fun hHeld => ?_)
     clear hK K
     refine pure_ (i := 14) (N := some 57) (v := ?_) (a' := ?_) #[true, true, true, true, true, true, true, true, true, true, true, true, true, true, true, false] rfl rfl (any_of HT_.out (by kernel_rfl)) (fun _ _ _ h => h) (Or.inl ⟨by rfl, ?_⟩) ?_ ?_
     rotate_left
     ·intro w'
      go_simp
      with_reducible rfl
     rotate_left
     ·simp only [Act.put, List.setIfInBounds_toArray, List.set_cons_zero, List.set_cons_succ, i64_w, i32_w]
      rfl
     refine one_ (i := 15) (N := none) #[true, true, true, true, true, true, true, true, true, true, true, true, true, true, true, true] rfl rfl (one_of HT_.out (by kernel_rfl)) (by decide) (fun K hK => ?_)
     have hs18 : w16.cell? ⟨gb487, 4, none⟩ = some (.int .i64 0) := (blk_cell BK487.out 4).trans rfl
     have hfs18 := blk_frozen BK487.out 4
     have hns18_0 := NB485_487.out
     have hns18_1 := NB486_487.out
     have hms18_0 := NB487_485.out
     have hms18_1 := NB487_486.out
     refine skip_ (w1 := ?_) (by rfl) rfl ?_ ?_
     rotate_left
     ·go_simp
      rfl
     refine hK.out _ _ ⟨((cell_far (p := ⟨gb487, _, none⟩) NB485_487.out _).trans (hHeld.1)), ((cell_far (p := ⟨gb487, _, none⟩) NB485_487.out _).trans (hHeld.2.1)), ((cell_far (p := ⟨gb487, _, none⟩) NB485_487.out _).trans (hHeld.2.2.1)), ((cell_far (p := ⟨gb487, _, none⟩) NB485_487.out _).trans (hHeld.2.2.2.1)), ((cell_far (p := ⟨gb487, _, none⟩) NB485_487.out _).trans (hHeld.2.2.2.2.1)), ((cell_far (p := ⟨gb487, _, none⟩) NB485_487.out _).trans (hHeld.2.2.2.2.2.1)), ((cell_far (p := ⟨gb487, _, none⟩) NB485_487.out _).trans (hHeld.2.2.2.2.2.2.1)), ((cell_far (p := ⟨gb487, _, none⟩) NB485_487.out _).trans (hHeld.2.2.2.2.2.2.2))⟩ (fun hHeld => ?_)
     clear hK K
     refine done_ (done_of HT_.out (by kernel_rfl)) ?_
     obtain ⟨hcz19_0, hcz19_1, hcz19_2, hcz19_3, hcz19_4, hcz19_5, hcz19_6, hcz19_7⟩ := bc8 BK487.out
     obtain ⟨hfz19_0, hfz19_1, hfz19_2, hfz19_3, hfz19_4, hfz19_5, hfz19_6, hfz19_7⟩ := bf8 BK487.out
     obtain ⟨hcz20_0, hcz20_1, hcz20_2, hcz20_3, hcz20_4, hcz20_5, hcz20_6, hcz20_7⟩ := bc8 BK486.out
     obtain ⟨hfz20_0, hfz20_1, hfz20_2, hfz20_3, hfz20_4, hfz20_5, hfz20_6, hfz20_7⟩ := bf8 BK486.out
     try go_wp2
     refine bodyPost_ret (results_cell_row rfl _ _ gb486 23 #[.int .i64 (wrap64 (100 + (wrap64 (a0_0)))), .int .i64 (Int.tmod (wrap64 (a0_1)) 1200), .int .i64 (Int.tmod (wrap64 (a0_2)) 1200), .int .i64 1, .int .i64 (Int.tmod (wrap64 (a0_4)) (wrap64 ((ji4) + 1))), .int .i64 (wrap64 (1 + (Int.tmod (wrap64 (a0_5)) 8))), .bool a0_7, .int .i64 (Int.tmod (wrap64 (a0_6)) 101)] (0, 0) _ rfl (by exact bto (bput (bput (bput (bput (bput (bput (bput (bput (blk_far (blk_far (blk_far (BK486.out) NB486_487.out _) NB486_487.out _) NB486_487.out _) _ _) _ _) _ _) _ _) _ _) _ _) _ _) _ _) rfl) Try.underlying23 rfl (by kernel_rfl)) rfl ?_
     exact ⟨by first | rfl | (simp [errW_none, errW_some] <;> rfl) | (simp only [← hji4]; first | rfl | (simp [errW_none, errW_some] <;> rfl)) | (simp [*, errW_none, errW_some] <;> rfl), by repeat (first | (with_reducible first | exact HB.out | apply below_alloc | apply pw_below_drewN | apply below_drew1 | refine below_set ?_ (Aside0.out (by assumption))) | exact HB.out)⟩
    ·rw [if_neg c6] at H
     have c6b0 : ((wrap64 ((Int.tmod (wrap64 (a0_3)) (wrap64 ((ji4) + 1))) + (Int.tmod (wrap64 (a0_4)) (wrap64 ((ji4) + 1))))) == 0) = false := beq_eq_false_iff_ne.mpr c6
     have c6b1 : ((wrap64 ((Int.tmod (wrap64 (a0_3)) (wrap64 ((ji4) + 1))) + (Int.tmod (wrap64 (a0_4)) (wrap64 ((ji4) + 1))))) != 0) = true := bne_iff_ne.mpr c6
     simp only [Option.some.injEq, Prod.mk.injEq] at H
     obtain ⟨rfl, rfl, rfl, rfl, rfl, rfl, rfl, rfl⟩ := H
     go_enter Try.func37, Try.ntmps37
     try go_wp2_with (first | ((with_reducible refine gate_dst (N := 1) rfl ?_); refine box_event ?hg (N := 1) ?hd (cs := #[.int .u16 a0_0, .int .u16 a0_1, .int .u16 a0_2, .int .u16 a0_3, .int .u16 a0_4, .int .u8 a0_5, .int .u8 a0_6, .bool a0_7]) (t := 71) ?hr ?_; (case hd => rfl); (case hg => rfl); (case hr => first | (go_simp; done) | (go_simp; rfl)); intro gb485 hg w21 hbox hb; have BK485 := Aside0.mk (hbox); have GW485 := Aside0.mk ((by rw [hg]; exact (below_size HB.out) : w.heap.size ≤ gb485)); have GE485 := GW485; replace HB := Aside0.mk (below_step HB.out hb); clear hb hbox hg) | ((with_reducible refine gate_dst (N := 2) rfl ?_); refine box_event ?hg (N := 2) ?hd (cs := #[.int .i64 0, .int .i64 0, .int .i64 0, .int .i64 0, .int .i64 0, .int .i64 0, .bool false, .int .i64 0]) (t := 23) ?hr ?_; (case hd => rfl); (case hg => rfl); (case hr => first | (go_simp; done) | (go_simp; rfl)); intro gb486 hg w22 hbox hb; have BK486 := Aside0.mk (hbox); have GW486 := Aside0.mk ((by rw [hg]; exact (below_size (by repeat (first | (with_reducible first | exact HB.out | apply below_alloc | apply pw_below_drewN | apply below_drew1 | refine below_set ?_ (Aside0.out (by assumption))) | exact HB.out))) : w.heap.size ≤ gb486)); have GE486 := GW486; replace HB := Aside0.mk (below_step (by repeat (first | (with_reducible first | exact HB.out | apply below_alloc | apply pw_below_drewN | apply below_drew1 | refine below_set ?_ (Aside0.out (by assumption))) | exact HB.out)) hb); have NB485_486 := Aside0.mk ((by rw [hg]; exact Nat.ne_of_lt (blk_lt BK485.out) : gb485 ≠ gb486)); have NB486_485 := Aside0.mk ((by rw [hg]; exact Nat.ne_of_gt (blk_lt BK485.out) : gb486 ≠ gb485)); replace BK485 := Aside0.mk (blk_below (g := gb485) (o := .cells #[.int .u16 a0_0, .int .u16 a0_1, .int .u16 a0_2, .int .u16 a0_3, .int .u16 a0_4, .int .u8 a0_5, .int .u8 a0_6, .bool a0_7] 71 (0, 0)) (by repeat (first | (with_reducible first | exact BK485.out | refine blk_drewN ?_ _ | refine blk_drew ?_ | refine blk_alloc ?_ _) | exact BK485.out)) hb); clear hb hbox hg; have hnb23 := NB485_486.out; have hnc23 := NB486_485.out; obtain ⟨hcz24_0, hcz24_1, hcz24_2, hcz24_3, hcz24_4, hcz24_5, hcz24_6, hcz24_7⟩ := bc8 BK485.out; obtain ⟨hfz24_0, hfz24_1, hfz24_2, hfz24_3, hfz24_4, hfz24_5, hfz24_6, hfz24_7⟩ := bf8 BK485.out) | ((with_reducible refine gate_dst (N := 3) rfl ?_); refine box_event ?hg (N := 3) ?hd (cs := #[.int .i64 0, .int .i64 0, .int .i64 0, .int .i64 0, .int .i64 0, .int .i64 0, .bool false, .int .i64 0]) (t := 23) ?hr ?_; (case hd => rfl); (case hg => rfl); (case hr => first | (go_simp; done) | (go_simp; rfl)); intro gb487 hg w25 hbox hb; have BK487 := Aside0.mk (hbox); have GW487 := Aside0.mk ((by rw [hg]; exact (below_size (by repeat (first | (with_reducible first | exact HB.out | apply below_alloc | apply pw_below_drewN | apply below_drew1 | refine below_set ?_ (Aside0.out (by assumption))) | exact HB.out))) : w.heap.size ≤ gb487)); have GE487 := GW487; replace HB := Aside0.mk (below_step (by repeat (first | (with_reducible first | exact HB.out | apply below_alloc | apply pw_below_drewN | apply below_drew1 | refine below_set ?_ (Aside0.out (by assumption))) | exact HB.out)) hb); have NB485_487 := Aside0.mk ((by rw [hg]; exact Nat.ne_of_lt (blk_lt BK485.out) : gb485 ≠ gb487)); have NB487_485 := Aside0.mk ((by rw [hg]; exact Nat.ne_of_gt (blk_lt BK485.out) : gb487 ≠ gb485)); replace BK485 := Aside0.mk (blk_below (g := gb485) (o := .cells #[.int .u16 a0_0, .int .u16 a0_1, .int .u16 a0_2, .int .u16 a0_3, .int .u16 a0_4, .int .u8 a0_5, .int .u8 a0_6, .bool a0_7] 71 (0, 0)) (by repeat (first | (with_reducible first | exact BK485.out | refine blk_drewN ?_ _ | refine blk_drew ?_ | refine blk_alloc ?_ _) | exact BK485.out)) hb); have NB486_487 := Aside0.mk ((by rw [hg]; exact Nat.ne_of_lt (blk_lt BK486.out) : gb486 ≠ gb487)); have NB487_486 := Aside0.mk ((by rw [hg]; exact Nat.ne_of_gt (blk_lt BK486.out) : gb487 ≠ gb486)); replace BK486 := Aside0.mk (blk_below (g := gb486) (o := .cells #[.int .i64 0, .int .i64 0, .int .i64 0, .int .i64 0, .int .i64 0, .int .i64 0, .bool false, .int .i64 0] 23 (0, 0)) (by repeat (first | (with_reducible first | exact BK486.out | refine blk_drewN ?_ _ | refine blk_drew ?_ | refine blk_alloc ?_ _) | exact BK486.out)) hb); clear hb hbox hg; have hnb26 := NB487_485.out; have hnc26 := NB485_487.out; have hnb27 := NB487_486.out; have hnc27 := NB486_487.out; obtain ⟨hcz28_0, hcz28_1, hcz28_2, hcz28_3, hcz28_4, hcz28_5, hcz28_6, hcz28_7⟩ := bc8 BK487.out; obtain ⟨hfz28_0, hfz28_1, hfz28_2, hfz28_3, hfz28_4, hfz28_5, hfz28_6, hfz28_7⟩ := bf8 BK487.out))
     have n0_ : Aside0 (((((((((w25.setCell ⟨gb487, 0, none⟩ (.int .i64 (wrap64 (100 + (wrap64 (a0_0)))))).setCell ⟨gb487, 1, none⟩ (.int .i64 (Int.tmod (wrap64 (a0_1)) 1200))).setCell ⟨gb487, 2, none⟩ (.int .i64 (Int.tmod (wrap64 (a0_2)) 1200))).setCell ⟨gb487, 3, none⟩ (.int .i64 0)).setCell ⟨gb487, 4, none⟩ (.int .i64 0)).setCell ⟨gb487, 5, none⟩ (.int .i64 (wrap64 (1 + (Int.tmod (wrap64 (a0_5)) 8))))).setCell ⟨gb487, 6, none⟩ (.bool a0_7)).setCell ⟨gb487, 7, none⟩ (.int .i64 (Int.tmod (wrap64 (a0_6)) 101))).heap[gb485]? = some (.cells #[.int .u16 a0_0, .int .u16 a0_1, .int .u16 a0_2, .int .u16 a0_3, .int .u16 a0_4, .int .u8 a0_5, .int .u8 a0_6, .bool a0_7] 71 (0, 0))) := ⟨by repeat (first | (with_reducible first | exact BK485.out | refine blk_drewN ?_ _ | refine blk_drew ?_ | refine blk_alloc ?_ _) | refine blk_far ?_ NB485_487.out _ | exact BK485.out)⟩
     have n1_ : Aside0 (((((((((w25.setCell ⟨gb487, 0, none⟩ (.int .i64 (wrap64 (100 + (wrap64 (a0_0)))))).setCell ⟨gb487, 1, none⟩ (.int .i64 (Int.tmod (wrap64 (a0_1)) 1200))).setCell ⟨gb487, 2, none⟩ (.int .i64 (Int.tmod (wrap64 (a0_2)) 1200))).setCell ⟨gb487, 3, none⟩ (.int .i64 0)).setCell ⟨gb487, 4, none⟩ (.int .i64 0)).setCell ⟨gb487, 5, none⟩ (.int .i64 (wrap64 (1 + (Int.tmod (wrap64 (a0_5)) 8))))).setCell ⟨gb487, 6, none⟩ (.bool a0_7)).setCell ⟨gb487, 7, none⟩ (.int .i64 (Int.tmod (wrap64 (a0_6)) 101))).heap[gb486]? = some (.cells #[.int .i64 0, .int .i64 0, .int .i64 0, .int .i64 0, .int .i64 0, .int .i64 0, .bool false, .int .i64 0] 23 (0, 0))) := ⟨by repeat (first | (with_reducible first | exact BK486.out | refine blk_drewN ?_ _ | refine blk_drew ?_ | refine blk_alloc ?_ _) | refine blk_far ?_ NB486_487.out _ | exact BK486.out)⟩
     have n2_ : Aside0 (((((((((w25.setCell ⟨gb487, 0, none⟩ (.int .i64 (wrap64 (100 + (wrap64 (a0_0)))))).setCell ⟨gb487, 1, none⟩ (.int .i64 (Int.tmod (wrap64 (a0_1)) 1200))).setCell ⟨gb487, 2, none⟩ (.int .i64 (Int.tmod (wrap64 (a0_2)) 1200))).setCell ⟨gb487, 3, none⟩ (.int .i64 0)).setCell ⟨gb487, 4, none⟩ (.int .i64 0)).setCell ⟨gb487, 5, none⟩ (.int .i64 (wrap64 (1 + (Int.tmod (wrap64 (a0_5)) 8))))).setCell ⟨gb487, 6, none⟩ (.bool a0_7)).setCell ⟨gb487, 7, none⟩ (.int .i64 (Int.tmod (wrap64 (a0_6)) 101))).heap[gb487]? = some (.cells #[.int .i64 (wrap64 (100 + (wrap64 (a0_0)))), .int .i64 (Int.tmod (wrap64 (a0_1)) 1200), .int .i64 (Int.tmod (wrap64 (a0_2)) 1200), .int .i64 0, .int .i64 0, .int .i64 (wrap64 (1 + (Int.tmod (wrap64 (a0_5)) 8))), .bool a0_7, .int .i64 (Int.tmod (wrap64 (a0_6)) 101)] 23 (0, 0))) := ⟨by exact bto (bput (bput (bput (bput (bput (bput (bput (bput (BK487.out) _ _) _ _) _ _) _ _) _ _) _ _) _ _) _ _) rfl⟩
     have n3_ : Aside0 (Below w.heap.size w ((((((((w25.setCell ⟨gb487, 0, none⟩ (.int .i64 (wrap64 (100 + (wrap64 (a0_0)))))).setCell ⟨gb487, 1, none⟩ (.int .i64 (Int.tmod (wrap64 (a0_1)) 1200))).setCell ⟨gb487, 2, none⟩ (.int .i64 (Int.tmod (wrap64 (a0_2)) 1200))).setCell ⟨gb487, 3, none⟩ (.int .i64 0)).setCell ⟨gb487, 4, none⟩ (.int .i64 0)).setCell ⟨gb487, 5, none⟩ (.int .i64 (wrap64 (1 + (Int.tmod (wrap64 (a0_5)) 8))))).setCell ⟨gb487, 6, none⟩ (.bool a0_7)).setCell ⟨gb487, 7, none⟩ (.int .i64 (Int.tmod (wrap64 (a0_6)) 101)))) := ⟨by repeat (first | (with_reducible first | exact HB.out | apply below_alloc | apply pw_below_drewN | apply below_drew1 | refine below_set ?_ (Aside0.out (by assumption))) | exact HB.out)⟩
     (try clear BK485)
     (try clear BK486)
     (try clear BK487)
     (try clear HB)
     generalize ((((((((w25.setCell ⟨gb487, 0, none⟩ (.int .i64 (wrap64 (100 + (wrap64 (a0_0)))))).setCell ⟨gb487, 1, none⟩ (.int .i64 (Int.tmod (wrap64 (a0_1)) 1200))).setCell ⟨gb487, 2, none⟩ (.int .i64 (Int.tmod (wrap64 (a0_2)) 1200))).setCell ⟨gb487, 3, none⟩ (.int .i64 0)).setCell ⟨gb487, 4, none⟩ (.int .i64 0)).setCell ⟨gb487, 5, none⟩ (.int .i64 (wrap64 (1 + (Int.tmod (wrap64 (a0_5)) 8))))).setCell ⟨gb487, 6, none⟩ (.bool a0_7)).setCell ⟨gb487, 7, none⟩ (.int .i64 (Int.tmod (wrap64 (a0_6)) 101))) = w29 at n0_ n1_ n2_ n3_ ⊢
     have BK485 := n0_
     have BK486 := n1_
     have BK487 := n2_
     have HB := n3_
     clear n0_ n1_ n2_ n3_
     have n0_ := Aside0.mk (blk_drew BK485.out)
     have n1_ := Aside0.mk (blk_drew BK486.out)
     have n2_ := Aside0.mk (blk_drew BK487.out)
     have n3_ := Aside0.mk (below_drew1 HB.out)
     clear BK485
     clear BK486
     clear BK487
     clear HB
     have BK485 := n0_
     have BK486 := n1_
     have BK487 := n2_
     have HB := n3_
     clear n0_ n1_ n2_ n3_
     refine start_ (n := 16) (S := fun w' => w'.cell? ⟨gb485, 0, none⟩ = some (.int .u16 a0_0) ∧ w'.cell? ⟨gb485, 1, none⟩ = some (.int .u16 a0_1) ∧ w'.cell? ⟨gb485, 2, none⟩ = some (.int .u16 a0_2) ∧ w'.cell? ⟨gb485, 3, none⟩ = some (.int .u16 a0_3) ∧ w'.cell? ⟨gb485, 4, none⟩ = some (.int .u16 a0_4) ∧ w'.cell? ⟨gb485, 5, none⟩ = some (.int .u8 a0_5) ∧ w'.cell? ⟨gb485, 6, none⟩ = some (.int .u8 a0_6) ∧ w'.cell? ⟨gb485, 7, none⟩ = some (.bool a0_7)) (ds := []) #[false, false, false, false, false, false, false, false, false, false, false, false, false, false, false, false] (by kernel_rfl) rfl rfl ⟨(blk_cell BK485.out 0).trans rfl, (blk_cell BK485.out 1).trans rfl, (blk_cell BK485.out 2).trans rfl, (blk_cell BK485.out 3).trans rfl, (blk_cell BK485.out 4).trans rfl, (blk_cell BK485.out 5).trans rfl, (blk_cell BK485.out 6).trans rfl, (blk_cell BK485.out 7).trans rfl⟩ (fun hHeld => ?_); refine with_tabW acmelaw01_Cut_form.tab6 acmelaw01_Cut_form.bits6 (fun HT_ HW_ => ?_)
     generalize w29.drew = w30 at BK485 BK486 BK487 HB hHeld ⊢
     refine pure_ (i := 0) (N := some 44) (v := ?_) (a' := ?_) #[true, false, false, false, false, false, false, false, false, false, false, false, false, false, false, false] rfl rfl (any_of HT_.out (by kernel_rfl)) (fun _ _ _ h => h) (Or.inl ⟨by rfl, ?_⟩) ?_ ?_
     rotate_left
     ·intro w'
      go_simp
      with_reducible rfl
     rotate_left
     ·simp only [Act.put, List.setIfInBounds_toArray, List.set_cons_zero, List.set_cons_succ, i64_w, i32_w]
      rfl
     refine pure_ (i := 3) (N := some 47) (v := ?_) (a' := ?_) #[true, false, false, true, false, false, false, false, false, false, false, false, false, false, false, false] rfl rfl (any_of HT_.out (by kernel_rfl)) (fun _ _ _ h => h) (Or.inl ⟨by rfl, ?_⟩) ?_ ?_
     rotate_left
     ·intro w'
      go_simp
      with_reducible rfl
     rotate_left
     ·simp only [Act.put, List.setIfInBounds_toArray, List.set_cons_zero, List.set_cons_succ, i64_w, i32_w]
      rfl
     refine pure_ (i := 4) (N := some 48) (v := ?_) (a' := ?_) #[true, false, false, true, true, false, false, false, false, false, false, false, false, false, false, false] rfl rfl (any_of HT_.out (by kernel_rfl)) (fun _ _ _ h => h) (Or.inl ⟨by rfl, ?_⟩) ?_ ?_
     rotate_left
     ·intro w'
      go_simp
      with_reducible rfl
     rotate_left
     ·simp only [Act.put, List.setIfInBounds_toArray, List.set_cons_zero, List.set_cons_succ, i64_w, i32_w]
      rfl
     refine pure_ (i := 6) (N := some 50) (v := ?_) (a' := ?_) #[true, false, false, true, true, false, true, false, false, false, false, false, false, false, false, false] rfl rfl (any_of HT_.out (by kernel_rfl)) (fun _ _ _ h => h) (Or.inl ⟨by rfl, ?_⟩) ?_ ?_
     rotate_left
     ·intro w'
      go_simp
      with_reducible rfl
     rotate_left
     ·simp only [Act.put, List.setIfInBounds_toArray, List.set_cons_zero, List.set_cons_succ, i64_w, i32_w]
      rfl
     refine pure_ (i := 9) (N := some 53) (v := ?_) (a' := ?_) #[true, false, false, true, true, false, true, false, false, true, false, false, false, false, false, false] rfl rfl (any_of HT_.out (by kernel_rfl)) (fun _ _ _ h => h) (Or.inl ⟨by rfl, ?_⟩) ?_ ?_
     rotate_left
     ·intro w'
      go_simp
      with_reducible rfl
     rotate_left
     ·simp only [Act.put, List.setIfInBounds_toArray, List.set_cons_zero, List.set_cons_succ, i64_w, i32_w]
      rfl
     refine pure_ (i := 10) (N := some 54) (v := ?_) (a' := ?_) #[true, false, false, true, true, false, true, false, false, true, true, false, false, false, false, false] rfl rfl (any_of HT_.out (by kernel_rfl)) (fun _ _ _ h => h) (Or.inl ⟨by rfl, ?_⟩) ?_ ?_
     rotate_left
     ·intro w'
      go_simp
      with_reducible rfl
     rotate_left
     ·simp only [Act.put, List.setIfInBounds_toArray, List.set_cons_zero, List.set_cons_succ, i64_w, i32_w]
      rfl
     refine take_ (i := 1) (N := some 45) (v := ?_) (a' := ?_) #[true, true, false, true, true, false, true, false, false, true, true, false, false, false, false, false] rfl rfl (take_ofW HT_.out HW_.out (by kernel_rfl)) (fun _ _ _ h => h) (Or.inl ⟨by rfl, ?_⟩) hHeld ?_ ?_
     rotate_left
     ·rintro w' ⟨s0, s1, s2, s3, s4, s5, s6, s7⟩
      go_simp
      with_reducible rfl
     rotate_left
     ·simp only [Act.put, List.setIfInBounds_toArray, List.set_cons_zero, List.set_cons_succ, i64_w, i32_w]
      rfl
     refine pure_ (i := 2) (N := some 46) (v := ?_) (a' := ?_) #[true, true, true, true, true, false, true, false, false, true, true, false, false, false, false, false] rfl rfl (any_of HT_.out (by kernel_rfl)) (fun _ _ _ h => h) (Or.inl ⟨by rfl, ?_⟩) ?_ ?_
     rotate_left
     ·intro w'
      go_simp
      with_reducible rfl
     rotate_left
     ·simp only [Act.put, List.setIfInBounds_toArray, List.set_cons_zero, List.set_cons_succ, i64_w, i32_w]
      rfl
     refine pure_ (i := 5) (N := some 49) (v := ?_) (a' := ?_) #[true, true, true, true, true, true, true, false, false, true, true, false, false, false, false, false] rfl rfl (any_of HT_.out (by kernel_rfl)) (fun _ _ _ h => h) (Or.inl ⟨by rfl, ?_⟩) ?_ ?_
     rotate_left
     ·intro w'
      go_simp
      with_reducible rfl
     rotate_left
     ·simp only [Act.put, List.setIfInBounds_toArray, List.set_cons_zero, List.set_cons_succ, i64_w, i32_w]
      rfl
     refine pure_ (i := 12) (N := some 56) (v := ?_) (a' := ?_) #[true, true, true, true, true, true, true, false, false, true, true, false, true, false, false, false] rfl rfl (any_of HT_.out (by kernel_rfl)) (fun _ _ _ h => h) (Or.inl ⟨by rfl, ?_⟩) ?_ ?_
     rotate_left
     ·intro w'
      go_simp
      with_reducible rfl
     rotate_left
     ·simp only [Act.put, List.setIfInBounds_toArray, List.set_cons_zero, List.set_cons_succ, i64_w, i32_w]
      rfl
     refine take_ (i := 7) (N := some 51) (v := ?_) (a' := ?_) #[true, true, true, true, true, true, true, true, false, true, true, false, true, false, false, false] rfl rfl (take_ofW HT_.out HW_.out (by kernel_rfl)) (fun _ _ _ h => h) (Or.inl ⟨by rfl, ?_⟩) hHeld ?_ ?_
     rotate_left
     ·rintro w' ⟨s0, s1, s2, s3, s4, s5, s6, s7⟩
      go_simp
      with_reducible rfl
     rotate_left
     ·simp only [Act.put, List.setIfInBounds_toArray, List.set_cons_zero, List.set_cons_succ, i64_w, i32_w]
      rfl
     refine pure_ (i := 8) (N := some 52) (v := ?_) (a' := ?_) #[true, true, true, true, true, true, true, true, true, true, true, false, true, false, false, false] rfl rfl (any_of HT_.out (by kernel_rfl)) (fun _ _ _ h => h) (Or.inl ⟨by rfl, ?_⟩) ?_ ?_
     rotate_left
     ·intro w'
      go_simp
      with_reducible rfl
     rotate_left
     ·simp only [Act.put, List.setIfInBounds_toArray, List.set_cons_zero, List.set_cons_succ, i64_w, i32_w]
      rfl
     refine pure_ (i := 11) (N := some 55) (v := ?_) (a' := ?_) #[true, true, true, true, true, true, true, true, true, true, true, true, true, false, false, false] rfl rfl (any_of HT_.out (by kernel_rfl)) (fun _ _ _ h => h) (Or.inl ⟨by rfl, ?_⟩) ?_ ?_
     rotate_left
     ·intro w'
      go_simp
      with_reducible rfl
     rotate_left
     ·simp only [Act.put, List.setIfInBounds_toArray, List.set_cons_zero, List.set_cons_succ, i64_w, i32_w]
      rfl
     refine one_ (i := 13) (N := none) #[true, true, true, true, true, true, true, true, true, true, true, true, true, true, false, false] rfl rfl (one_of HT_.out (by kernel_rfl)) (by decide) (fun K hK => ?_)
     have hs31 : w30.cell? ⟨gb487, 3, none⟩ = some (.int .i64 0) := (blk_cell BK487.out 3).trans rfl
     have hfs31 := blk_frozen BK487.out 3
     have hns31_0 := NB485_487.out
     have hns31_1 := NB486_487.out
     have hms31_0 := NB487_485.out
     have hms31_1 := NB487_486.out
     refine skip_ (w1 := ?_) (by rfl) rfl ?_ ?_
     rotate_left
     ·go_simp
      rfl
     refine hK.out _ _ ⟨((cell_far (p := ⟨gb487, _, none⟩) NB485_487.out _).trans (hHeld.1)), ((cell_far (p := ⟨gb487, _, none⟩) NB485_487.out _).trans (hHeld.2.1)), ((cell_far (p := ⟨gb487, _, none⟩) NB485_487.out _).trans (hHeld.2.2.1)), ((cell_far (p := ⟨gb487, _, none⟩) NB485_487.out _).trans (hHeld.2.2.2.1)), ((cell_far (p := ⟨gb487, _, none⟩) NB485_487.out _).trans (hHeld.2.2.2.2.1)), ((cell_far (p := ⟨gb487, _, none⟩) NB485_487.out _).trans (hHeld.2.2.2.2.2.1)), ((cell_far (p := ⟨gb487, _, none⟩) NB485_487.out _).trans (hHeld.2.2.2.2.2.2.1)), ((cell_far (p := ⟨gb487, _, none⟩) NB485_487.out _).trans (hHeld.2.2.2.2.2.2.2))⟩ (fun hHeld => ?_)
     clear hK K
     refine pure_ (i := 14) (N := some 57) (v := ?_) (a' := ?_) #[true, true, true, true, true, true, true, true, true, true, true, true, true, true, true, false] rfl rfl (any_of HT_.out (by kernel_rfl)) (fun _ _ _ h => h) (Or.inl ⟨by rfl, ?_⟩) ?_ ?_
     rotate_left
     ·intro w'
      go_simp
      with_reducible rfl
     rotate_left
     ·simp only [Act.put, List.setIfInBounds_toArray, List.set_cons_zero, List.set_cons_succ, i64_w, i32_w]
      rfl
     refine one_ (i := 15) (N := none) #[true, true, true, true, true, true, true, true, true, true, true, true, true, true, true, true] rfl rfl (one_of HT_.out (by kernel_rfl)) (by decide) (fun K hK => ?_)
     have hs32 : w30.cell? ⟨gb487, 4, none⟩ = some (.int .i64 0) := (blk_cell BK487.out 4).trans rfl
     have hfs32 := blk_frozen BK487.out 4
     have hns32_0 := NB485_487.out
     have hns32_1 := NB486_487.out
     have hms32_0 := NB487_485.out
     have hms32_1 := NB487_486.out
     refine skip_ (w1 := ?_) (by rfl) rfl ?_ ?_
     rotate_left
     ·go_simp
      rfl
     refine hK.out _ _ ⟨((cell_far (p := ⟨gb487, _, none⟩) NB485_487.out _).trans (hHeld.1)), ((cell_far (p := ⟨gb487, _, none⟩) NB485_487.out _).trans (hHeld.2.1)), ((cell_far (p := ⟨gb487, _, none⟩) NB485_487.out _).trans (hHeld.2.2.1)), ((cell_far (p := ⟨gb487, _, none⟩) NB485_487.out _).trans (hHeld.2.2.2.1)), ((cell_far (p := ⟨gb487, _, none⟩) NB485_487.out _).trans (hHeld.2.2.2.2.1)), ((cell_far (p := ⟨gb487, _, none⟩) NB485_487.out _).trans (hHeld.2.2.2.2.2.1)), ((cell_far (p := ⟨gb487, _, none⟩) NB485_487.out _).trans (hHeld.2.2.2.2.2.2.1)), ((cell_far (p := ⟨gb487, _, none⟩) NB485_487.out _).trans (hHeld.2.2.2.2.2.2.2))⟩ (fun hHeld => ?_)
     clear hK K
     refine done_ (done_of HT_.out (by kernel_rfl)) ?_
     obtain ⟨hcz33_0, hcz33_1, hcz33_2, hcz33_3, hcz33_4, hcz33_5, hcz33_6, hcz33_7⟩ := bc8 BK487.out
     obtain ⟨hfz33_0, hfz33_1, hfz33_2, hfz33_3, hfz33_4, hfz33_5, hfz33_6, hfz33_7⟩ := bf8 BK487.out
     obtain ⟨hcz34_0, hcz34_1, hcz34_2, hcz34_3, hcz34_4, hcz34_5, hcz34_6, hcz34_7⟩ := bc8 BK486.out
     obtain ⟨hfz34_0, hfz34_1, hfz34_2, hfz34_3, hfz34_4, hfz34_5, hfz34_6, hfz34_7⟩ := bf8 BK486.out
     try go_wp2
     refine bodyPost_ret (results_cell_row rfl _ _ gb486 23 #[.int .i64 (wrap64 (100 + (wrap64 (a0_0)))), .int .i64 (Int.tmod (wrap64 (a0_1)) 1200), .int .i64 (Int.tmod (wrap64 (a0_2)) 1200), .int .i64 (Int.tmod (wrap64 (a0_3)) (wrap64 ((ji4) + 1))), .int .i64 (Int.tmod (wrap64 (a0_4)) (wrap64 ((ji4) + 1))), .int .i64 (wrap64 (1 + (Int.tmod (wrap64 (a0_5)) 8))), .bool a0_7, .int .i64 (Int.tmod (wrap64 (a0_6)) 101)] (0, 0) _ rfl (by exact bto (bput (bput (bput (bput (bput (bput (bput (bput (blk_far (blk_far (BK486.out) NB486_487.out _) NB486_487.out _) _ _) _ _) _ _) _ _) _ _) _ _) _ _) _ _) rfl) Try.underlying23 rfl (by kernel_rfl)) rfl ?_
     exact ⟨by first | rfl | (simp [errW_none, errW_some] <;> rfl) | (simp only [← hji4]; first | rfl | (simp [errW_none, errW_some] <;> rfl)) | (simp [*, errW_none, errW_some] <;> rfl), by repeat (first | (with_reducible first | exact HB.out | apply below_alloc | apply pw_below_drewN | apply below_drew1 | refine below_set ?_ (Aside0.out (by assumption))) | exact HB.out)⟩
 ·rw [if_neg c2] at H
  have c2b0 : decide (0 < (wrap64 ((Int.tmod (wrap64 (a0_1)) 1200) + (Int.tmod (wrap64 (a0_2)) 1200)))) = false := decide_eq_false c2
  clear c2
  by_cases c35 : (wrap64 ((Int.tmod (wrap64 (a0_3)) 100001) + (Int.tmod (wrap64 (a0_4)) 100001))) = 0
  ·rw [if_pos c35] at H
   have c35b0 : ((wrap64 ((Int.tmod (wrap64 (a0_3)) 100001) + (Int.tmod (wrap64 (a0_4)) 100001))) == 0) = true := beq_iff_eq.mpr c35
   have c35b1 : ((wrap64 ((Int.tmod (wrap64 (a0_3)) 100001) + (Int.tmod (wrap64 (a0_4)) 100001))) != 0) = false := bne_eq_false_iff_eq.mpr c35
   clear c35
   simp only [Option.some.injEq, Prod.mk.injEq] at H
   obtain ⟨rfl, rfl, rfl, rfl, rfl, rfl, rfl, rfl⟩ := H
   go_enter Try.func37, Try.ntmps37
   try go_wp2_with (first | ((with_reducible refine gate_dst (N := 1) rfl ?_); refine box_event ?hg (N := 1) ?hd (cs := #[.int .u16 a0_0, .int .u16 a0_1, .int .u16 a0_2, .int .u16 a0_3, .int .u16 a0_4, .int .u8 a0_5, .int .u8 a0_6, .bool a0_7]) (t := 71) ?hr ?_; (case hd => rfl); (case hg => rfl); (case hr => first | (go_simp; done) | (go_simp; rfl)); intro gb485 hg w36 hbox hb; have BK485 := Aside0.mk (hbox); have GW485 := Aside0.mk ((by rw [hg]; exact (below_size HB.out) : w.heap.size ≤ gb485)); have GE485 := GW485; replace HB := Aside0.mk (below_step HB.out hb); clear hb hbox hg) | ((with_reducible refine gate_dst (N := 2) rfl ?_); refine box_event ?hg (N := 2) ?hd (cs := #[.int .i64 0, .int .i64 0, .int .i64 0, .int .i64 0, .int .i64 0, .int .i64 0, .bool false, .int .i64 0]) (t := 23) ?hr ?_; (case hd => rfl); (case hg => rfl); (case hr => first | (go_simp; done) | (go_simp; rfl)); intro gb486 hg w37 hbox hb; have BK486 := Aside0.mk (hbox); have GW486 := Aside0.mk ((by rw [hg]; exact (below_size (by repeat (first | (with_reducible first | exact HB.out | apply below_alloc | apply pw_below_drewN | apply below_drew1 | refine below_set ?_ (Aside0.out (by assumption))) | exact HB.out))) : w.heap.size ≤ gb486)); have GE486 := GW486; replace HB := Aside0.mk (below_step (by repeat (first | (with_reducible first | exact HB.out | apply below_alloc | apply pw_below_drewN | apply below_drew1 | refine below_set ?_ (Aside0.out (by assumption))) | exact HB.out)) hb); have NB485_486 := Aside0.mk ((by rw [hg]; exact Nat.ne_of_lt (blk_lt BK485.out) : gb485 ≠ gb486)); have NB486_485 := Aside0.mk ((by rw [hg]; exact Nat.ne_of_gt (blk_lt BK485.out) : gb486 ≠ gb485)); replace BK485 := Aside0.mk (blk_below (g := gb485) (o := .cells #[.int .u16 a0_0, .int .u16 a0_1, .int .u16 a0_2, .int .u16 a0_3, .int .u16 a0_4, .int .u8 a0_5, .int .u8 a0_6, .bool a0_7] 71 (0, 0)) (by repeat (first | (with_reducible first | exact BK485.out | refine blk_drewN ?_ _ | refine blk_drew ?_ | refine blk_alloc ?_ _) | exact BK485.out)) hb); clear hb hbox hg; have hnb38 := NB485_486.out; have hnc38 := NB486_485.out; obtain ⟨hcz39_0, hcz39_1, hcz39_2, hcz39_3, hcz39_4, hcz39_5, hcz39_6, hcz39_7⟩ := bc8 BK485.out; obtain ⟨hfz39_0, hfz39_1, hfz39_2, hfz39_3, hfz39_4, hfz39_5, hfz39_6, hfz39_7⟩ := bf8 BK485.out) | ((with_reducible refine gate_dst (N := 3) rfl ?_); refine box_event ?hg (N := 3) ?hd (cs := #[.int .i64 0, .int .i64 0, .int .i64 0, .int .i64 0, .int .i64 0, .int .i64 0, .bool false, .int .i64 0]) (t := 23) ?hr ?_; (case hd => rfl); (case hg => rfl); (case hr => first | (go_simp; done) | (go_simp; rfl)); intro gb487 hg w40 hbox hb; have BK487 := Aside0.mk (hbox); have GW487 := Aside0.mk ((by rw [hg]; exact (below_size (by repeat (first | (with_reducible first | exact HB.out | apply below_alloc | apply pw_below_drewN | apply below_drew1 | refine below_set ?_ (Aside0.out (by assumption))) | exact HB.out))) : w.heap.size ≤ gb487)); have GE487 := GW487; replace HB := Aside0.mk (below_step (by repeat (first | (with_reducible first | exact HB.out | apply below_alloc | apply pw_below_drewN | apply below_drew1 | refine below_set ?_ (Aside0.out (by assumption))) | exact HB.out)) hb); have NB485_487 := Aside0.mk ((by rw [hg]; exact Nat.ne_of_lt (blk_lt BK485.out) : gb485 ≠ gb487)); have NB487_485 := Aside0.mk ((by rw [hg]; exact Nat.ne_of_gt (blk_lt BK485.out) : gb487 ≠ gb485)); replace BK485 := Aside0.mk (blk_below (g := gb485) (o := .cells #[.int .u16 a0_0, .int .u16 a0_1, .int .u16 a0_2, .int .u16 a0_3, .int .u16 a0_4, .int .u8 a0_5, .int .u8 a0_6, .bool a0_7] 71 (0, 0)) (by repeat (first | (with_reducible first | exact BK485.out | refine blk_drewN ?_ _ | refine blk_drew ?_ | refine blk_alloc ?_ _) | exact BK485.out)) hb); have NB486_487 := Aside0.mk ((by rw [hg]; exact Nat.ne_of_lt (blk_lt BK486.out) : gb486 ≠ gb487)); have NB487_486 := Aside0.mk ((by rw [hg]; exact Nat.ne_of_gt (blk_lt BK486.out) : gb487 ≠ gb486)); replace BK486 := Aside0.mk (blk_below (g := gb486) (o := .cells #[.int .i64 0, .int .i64 0, .int .i64 0, .int .i64 0, .int .i64 0, .int .i64 0, .bool false, .int .i64 0] 23 (0, 0)) (by repeat (first | (with_reducible first | exact BK486.out | refine blk_drewN ?_ _ | refine blk_drew ?_ | refine blk_alloc ?_ _) | exact BK486.out)) hb); clear hb hbox hg; have hnb41 := NB487_485.out; have hnc41 := NB485_487.out; have hnb42 := NB487_486.out; have hnc42 := NB486_487.out; obtain ⟨hcz43_0, hcz43_1, hcz43_2, hcz43_3, hcz43_4, hcz43_5, hcz43_6, hcz43_7⟩ := bc8 BK487.out; obtain ⟨hfz43_0, hfz43_1, hfz43_2, hfz43_3, hfz43_4, hfz43_5, hfz43_6, hfz43_7⟩ := bf8 BK487.out))
   have n0_ : Aside0 (((((((((w40.setCell ⟨gb487, 0, none⟩ (.int .i64 (wrap64 (100 + (wrap64 (a0_0)))))).setCell ⟨gb487, 1, none⟩ (.int .i64 (Int.tmod (wrap64 (a0_1)) 1200))).setCell ⟨gb487, 2, none⟩ (.int .i64 (Int.tmod (wrap64 (a0_2)) 1200))).setCell ⟨gb487, 3, none⟩ (.int .i64 0)).setCell ⟨gb487, 4, none⟩ (.int .i64 0)).setCell ⟨gb487, 5, none⟩ (.int .i64 (wrap64 (1 + (Int.tmod (wrap64 (a0_5)) 8))))).setCell ⟨gb487, 6, none⟩ (.bool a0_7)).setCell ⟨gb487, 7, none⟩ (.int .i64 (Int.tmod (wrap64 (a0_6)) 101))).heap[gb485]? = some (.cells #[.int .u16 a0_0, .int .u16 a0_1, .int .u16 a0_2, .int .u16 a0_3, .int .u16 a0_4, .int .u8 a0_5, .int .u8 a0_6, .bool a0_7] 71 (0, 0))) := ⟨by repeat (first | (with_reducible first | exact BK485.out | refine blk_drewN ?_ _ | refine blk_drew ?_ | refine blk_alloc ?_ _) | refine blk_far ?_ NB485_487.out _ | exact BK485.out)⟩
   have n1_ : Aside0 (((((((((w40.setCell ⟨gb487, 0, none⟩ (.int .i64 (wrap64 (100 + (wrap64 (a0_0)))))).setCell ⟨gb487, 1, none⟩ (.int .i64 (Int.tmod (wrap64 (a0_1)) 1200))).setCell ⟨gb487, 2, none⟩ (.int .i64 (Int.tmod (wrap64 (a0_2)) 1200))).setCell ⟨gb487, 3, none⟩ (.int .i64 0)).setCell ⟨gb487, 4, none⟩ (.int .i64 0)).setCell ⟨gb487, 5, none⟩ (.int .i64 (wrap64 (1 + (Int.tmod (wrap64 (a0_5)) 8))))).setCell ⟨gb487, 6, none⟩ (.bool a0_7)).setCell ⟨gb487, 7, none⟩ (.int .i64 (Int.tmod (wrap64 (a0_6)) 101))).heap[gb486]? = some (.cells #[.int .i64 0, .int .i64 0, .int .i64 0, .int .i64 0, .int .i64 0, .int .i64 0, .bool false, .int .i64 0] 23 (0, 0))) := ⟨by repeat (first | (with_reducible first | exact BK486.out | refine blk_drewN ?_ _ | refine blk_drew ?_ | refine blk_alloc ?_ _) | refine blk_far ?_ NB486_487.out _ | exact BK486.out)⟩
   have n2_ : Aside0 (((((((((w40.setCell ⟨gb487, 0, none⟩ (.int .i64 (wrap64 (100 + (wrap64 (a0_0)))))).setCell ⟨gb487, 1, none⟩ (.int .i64 (Int.tmod (wrap64 (a0_1)) 1200))).setCell ⟨gb487, 2, none⟩ (.int .i64 (Int.tmod (wrap64 (a0_2)) 1200))).setCell ⟨gb487, 3, none⟩ (.int .i64 0)).setCell ⟨gb487, 4, none⟩ (.int .i64 0)).setCell ⟨gb487, 5, none⟩ (.int .i64 (wrap64 (1 + (Int.tmod (wrap64 (a0_5)) 8))))).setCell ⟨gb487, 6, none⟩ (.bool a0_7)).setCell ⟨gb487, 7, none⟩ (.int .i64 (Int.tmod (wrap64 (a0_6)) 101))).heap[gb487]? = some (.cells #[.int .i64 (wrap64 (100 + (wrap64 (a0_0)))), .int .i64 (Int.tmod (wrap64 (a0_1)) 1200), .int .i64 (Int.tmod (wrap64 (a0_2)) 1200), .int .i64 0, .int .i64 0, .int .i64 (wrap64 (1 + (Int.tmod (wrap64 (a0_5)) 8))), .bool a0_7, .int .i64 (Int.tmod (wrap64 (a0_6)) 101)] 23 (0, 0))) := ⟨by exact bto (bput (bput (bput (bput (bput (bput (bput (bput (BK487.out) _ _) _ _) _ _) _ _) _ _) _ _) _ _) _ _) rfl⟩
   have n3_ : Aside0 (Below w.heap.size w ((((((((w40.setCell ⟨gb487, 0, none⟩ (.int .i64 (wrap64 (100 + (wrap64 (a0_0)))))).setCell ⟨gb487, 1, none⟩ (.int .i64 (Int.tmod (wrap64 (a0_1)) 1200))).setCell ⟨gb487, 2, none⟩ (.int .i64 (Int.tmod (wrap64 (a0_2)) 1200))).setCell ⟨gb487, 3, none⟩ (.int .i64 0)).setCell ⟨gb487, 4, none⟩ (.int .i64 0)).setCell ⟨gb487, 5, none⟩ (.int .i64 (wrap64 (1 + (Int.tmod (wrap64 (a0_5)) 8))))).setCell ⟨gb487, 6, none⟩ (.bool a0_7)).setCell ⟨gb487, 7, none⟩ (.int .i64 (Int.tmod (wrap64 (a0_6)) 101)))) := ⟨by repeat (first | (with_reducible first | exact HB.out | apply below_alloc | apply pw_below_drewN | apply below_drew1 | refine below_set ?_ (Aside0.out (by assumption))) | exact HB.out)⟩
   (try clear BK485)
   (try clear BK486)
   (try clear BK487)
   (try clear HB)
   generalize ((((((((w40.setCell ⟨gb487, 0, none⟩ (.int .i64 (wrap64 (100 + (wrap64 (a0_0)))))).setCell ⟨gb487, 1, none⟩ (.int .i64 (Int.tmod (wrap64 (a0_1)) 1200))).setCell ⟨gb487, 2, none⟩ (.int .i64 (Int.tmod (wrap64 (a0_2)) 1200))).setCell ⟨gb487, 3, none⟩ (.int .i64 0)).setCell ⟨gb487, 4, none⟩ (.int .i64 0)).setCell ⟨gb487, 5, none⟩ (.int .i64 (wrap64 (1 + (Int.tmod (wrap64 (a0_5)) 8))))).setCell ⟨gb487, 6, none⟩ (.bool a0_7)).setCell ⟨gb487, 7, none⟩ (.int .i64 (Int.tmod (wrap64 (a0_6)) 101))) = w44 at n0_ n1_ n2_ n3_ ⊢
   have BK485 := n0_
   have BK486 := n1_
   have BK487 := n2_
   have HB := n3_
   clear n0_ n1_ n2_ n3_
   have n0_ := Aside0.mk (blk_drew BK485.out)
   have n1_ := Aside0.mk (blk_drew BK486.out)
   have n2_ := Aside0.mk (blk_drew BK487.out)
   have n3_ := Aside0.mk (below_drew1 HB.out)
   clear BK485
   clear BK486
   clear BK487
   clear HB
   have BK485 := n0_
   have BK486 := n1_
   have BK487 := n2_
   have HB := n3_
   clear n0_ n1_ n2_ n3_
   refine start_ (n := 16) (S := fun w' => w'.cell? ⟨gb485, 0, none⟩ = some (.int .u16 a0_0) ∧ w'.cell? ⟨gb485, 1, none⟩ = some (.int .u16 a0_1) ∧ w'.cell? ⟨gb485, 2, none⟩ = some (.int .u16 a0_2) ∧ w'.cell? ⟨gb485, 3, none⟩ = some (.int .u16 a0_3) ∧ w'.cell? ⟨gb485, 4, none⟩ = some (.int .u16 a0_4) ∧ w'.cell? ⟨gb485, 5, none⟩ = some (.int .u8 a0_5) ∧ w'.cell? ⟨gb485, 6, none⟩ = some (.int .u8 a0_6) ∧ w'.cell? ⟨gb485, 7, none⟩ = some (.bool a0_7)) (ds := []) #[false, false, false, false, false, false, false, false, false, false, false, false, false, false, false, false] (by kernel_rfl) rfl rfl ⟨(blk_cell BK485.out 0).trans rfl, (blk_cell BK485.out 1).trans rfl, (blk_cell BK485.out 2).trans rfl, (blk_cell BK485.out 3).trans rfl, (blk_cell BK485.out 4).trans rfl, (blk_cell BK485.out 5).trans rfl, (blk_cell BK485.out 6).trans rfl, (blk_cell BK485.out 7).trans rfl⟩ (fun hHeld => ?_); refine with_tabW acmelaw01_Cut_form.tab6 acmelaw01_Cut_form.bits6 (fun HT_ HW_ => ?_)
   generalize w44.drew = w45 at BK485 BK486 BK487 HB hHeld ⊢
   refine pure_ (i := 0) (N := some 44) (v := ?_) (a' := ?_) #[true, false, false, false, false, false, false, false, false, false, false, false, false, false, false, false] rfl rfl (any_of HT_.out (by kernel_rfl)) (fun _ _ _ h => h) (Or.inl ⟨by rfl, ?_⟩) ?_ ?_
   rotate_left
   ·intro w'
    go_simp
    with_reducible rfl
   rotate_left
   ·simp only [Act.put, List.setIfInBounds_toArray, List.set_cons_zero, List.set_cons_succ, i64_w, i32_w]
    rfl
   refine pure_ (i := 3) (N := some 47) (v := ?_) (a' := ?_) #[true, false, false, true, false, false, false, false, false, false, false, false, false, false, false, false] rfl rfl (any_of HT_.out (by kernel_rfl)) (fun _ _ _ h => h) (Or.inl ⟨by rfl, ?_⟩) ?_ ?_
   rotate_left
   ·intro w'
    go_simp
    with_reducible rfl
   rotate_left
   ·simp only [Act.put, List.setIfInBounds_toArray, List.set_cons_zero, List.set_cons_succ, i64_w, i32_w]
    rfl
   refine pure_ (i := 4) (N := some 48) (v := ?_) (a' := ?_) #[true, false, false, true, true, false, false, false, false, false, false, false, false, false, false, false] rfl rfl (any_of HT_.out (by kernel_rfl)) (fun _ _ _ h => h) (Or.inl ⟨by rfl, ?_⟩) ?_ ?_
   rotate_left
   ·intro w'
    go_simp
    with_reducible rfl
   rotate_left
   ·simp only [Act.put, List.setIfInBounds_toArray, List.set_cons_zero, List.set_cons_succ, i64_w, i32_w]
    rfl
   refine pure_ (i := 6) (N := some 50) (v := ?_) (a' := ?_) #[true, false, false, true, true, false, true, false, false, false, false, false, false, false, false, false] rfl rfl (any_of HT_.out (by kernel_rfl)) (fun _ _ _ h => h) (Or.inl ⟨by rfl, ?_⟩) ?_ ?_
   rotate_left
   ·intro w'
    go_simp
    with_reducible rfl
   rotate_left
   ·simp only [Act.put, List.setIfInBounds_toArray, List.set_cons_zero, List.set_cons_succ, i64_w, i32_w]
    rfl
   refine pure_ (i := 9) (N := some 53) (v := ?_) (a' := ?_) #[true, false, false, true, true, false, true, false, false, true, false, false, false, false, false, false] rfl rfl (any_of HT_.out (by kernel_rfl)) (fun _ _ _ h => h) (Or.inl ⟨by rfl, ?_⟩) ?_ ?_
   rotate_left
   ·intro w'
    go_simp
    with_reducible rfl
   rotate_left
   ·simp only [Act.put, List.setIfInBounds_toArray, List.set_cons_zero, List.set_cons_succ, i64_w, i32_w]
    rfl
   refine pure_ (i := 10) (N := some 54) (v := ?_) (a' := ?_) #[true, false, false, true, true, false, true, false, false, true, true, false, false, false, false, false] rfl rfl (any_of HT_.out (by kernel_rfl)) (fun _ _ _ h => h) (Or.inl ⟨by rfl, ?_⟩) ?_ ?_
   rotate_left
   ·intro w'
    go_simp
    with_reducible rfl
   rotate_left
   ·simp only [Act.put, List.setIfInBounds_toArray, List.set_cons_zero, List.set_cons_succ, i64_w, i32_w]
    rfl
   refine take_ (i := 1) (N := some 45) (v := ?_) (a' := ?_) #[true, true, false, true, true, false, true, false, false, true, true, false, false, false, false, false] rfl rfl (take_ofW HT_.out HW_.out (by kernel_rfl)) (fun _ _ _ h => h) (Or.inl ⟨by rfl, ?_⟩) hHeld ?_ ?_
   rotate_left
   ·rintro w' ⟨s0, s1, s2, s3, s4, s5, s6, s7⟩
    go_simp
    with_reducible rfl
   rotate_left
   ·simp only [Act.put, List.setIfInBounds_toArray, List.set_cons_zero, List.set_cons_succ, i64_w, i32_w]
    rfl
   refine pure_ (i := 2) (N := some 46) (v := ?_) (a' := ?_) #[true, true, true, true, true, false, true, false, false, true, true, false, false, false, false, false] rfl rfl (any_of HT_.out (by kernel_rfl)) (fun _ _ _ h => h) (Or.inl ⟨by rfl, ?_⟩) ?_ ?_
   rotate_left
   ·intro w'
    go_simp
    with_reducible rfl
   rotate_left
   ·simp only [Act.put, List.setIfInBounds_toArray, List.set_cons_zero, List.set_cons_succ, i64_w, i32_w]
    rfl
   refine pure_ (i := 5) (N := some 49) (v := ?_) (a' := ?_) #[true, true, true, true, true, true, true, false, false, true, true, false, false, false, false, false] rfl rfl (any_of HT_.out (by kernel_rfl)) (fun _ _ _ h => h) (Or.inl ⟨by rfl, ?_⟩) ?_ ?_
   rotate_left
   ·intro w'
    go_simp
    with_reducible rfl
   rotate_left
   ·simp only [Act.put, List.setIfInBounds_toArray, List.set_cons_zero, List.set_cons_succ, i64_w, i32_w]
    rfl
   refine pure_ (i := 12) (N := some 56) (v := ?_) (a' := ?_) #[true, true, true, true, true, true, true, false, false, true, true, false, true, false, false, false] rfl rfl (any_of HT_.out (by kernel_rfl)) (fun _ _ _ h => h) (Or.inl ⟨by rfl, ?_⟩) ?_ ?_
   rotate_left
   ·intro w'
    go_simp
    with_reducible rfl
   rotate_left
   ·simp only [Act.put, List.setIfInBounds_toArray, List.set_cons_zero, List.set_cons_succ, i64_w, i32_w]
    rfl
   refine take_ (i := 7) (N := some 51) (v := ?_) (a' := ?_) #[true, true, true, true, true, true, true, true, false, true, true, false, true, false, false, false] rfl rfl (take_ofW HT_.out HW_.out (by kernel_rfl)) (fun _ _ _ h => h) (Or.inl ⟨by rfl, ?_⟩) hHeld ?_ ?_
   rotate_left
   ·rintro w' ⟨s0, s1, s2, s3, s4, s5, s6, s7⟩
    go_simp
    with_reducible rfl
   rotate_left
   ·simp only [Act.put, List.setIfInBounds_toArray, List.set_cons_zero, List.set_cons_succ, i64_w, i32_w]
    rfl
   refine pure_ (i := 8) (N := some 52) (v := ?_) (a' := ?_) #[true, true, true, true, true, true, true, true, true, true, true, false, true, false, false, false] rfl rfl (any_of HT_.out (by kernel_rfl)) (fun _ _ _ h => h) (Or.inl ⟨by rfl, ?_⟩) ?_ ?_
   rotate_left
   ·intro w'
    go_simp
    with_reducible rfl
   rotate_left
   ·simp only [Act.put, List.setIfInBounds_toArray, List.set_cons_zero, List.set_cons_succ, i64_w, i32_w]
    rfl
   refine pure_ (i := 11) (N := some 55) (v := ?_) (a' := ?_) #[true, true, true, true, true, true, true, true, true, true, true, true, true, false, false, false] rfl rfl (any_of HT_.out (by kernel_rfl)) (fun _ _ _ h => h) (Or.inl ⟨by rfl, ?_⟩) ?_ ?_
   rotate_left
   ·intro w'
    go_simp
    with_reducible rfl
   rotate_left
   ·simp only [Act.put, List.setIfInBounds_toArray, List.set_cons_zero, List.set_cons_succ, i64_w, i32_w]
    rfl
   refine one_ (i := 13) (N := none) #[true, true, true, true, true, true, true, true, true, true, true, true, true, true, false, false] rfl rfl (one_of HT_.out (by kernel_rfl)) (by decide) (fun K hK => ?_)
   have hs46 : w45.cell? ⟨gb487, 3, none⟩ = some (.int .i64 0) := (blk_cell BK487.out 3).trans rfl
   have hfs46 := blk_frozen BK487.out 3
   have hns46_0 := NB485_487.out
   have hns46_1 := NB486_487.out
   have hms46_0 := NB487_485.out
   have hms46_1 := NB487_486.out
   refine skip_ (w1 := ?_) (by rfl) rfl ?_ ?_
   rotate_left
   ·go_simp
    rfl
   refine hK.out _ _ ⟨((cell_far (p := ⟨gb487, _, none⟩) NB485_487.out _).trans (hHeld.1)), ((cell_far (p := ⟨gb487, _, none⟩) NB485_487.out _).trans (hHeld.2.1)), ((cell_far (p := ⟨gb487, _, none⟩) NB485_487.out _).trans (hHeld.2.2.1)), ((cell_far (p := ⟨gb487, _, none⟩) NB485_487.out _).trans (hHeld.2.2.2.1)), ((cell_far (p := ⟨gb487, _, none⟩) NB485_487.out _).trans (hHeld.2.2.2.2.1)), ((cell_far (p := ⟨gb487, _, none⟩) NB485_487.out _).trans (hHeld.2.2.2.2.2.1)), ((cell_far (p := ⟨gb487, _, none⟩) NB485_487.out _).trans (hHeld.2.2.2.2.2.2.1)), ((cell_far (p := ⟨gb487, _, none⟩) NB485_487.out _).trans (hHeld.2.2.2.2.2.2.2))⟩ (fun hHeld => ?_)
   clear hK K
   refine pure_ (i := 14) (N := some 57) (v := ?_) (a' := ?_) #[true, true, true, true, true, true, true, true, true, true, true, true, true, true, true, false] rfl rfl (any_of HT_.out (by kernel_rfl)) (fun _ _ _ h => h) (Or.inl ⟨by rfl, ?_⟩) ?_ ?_
   rotate_left
   ·intro w'
    go_simp
    with_reducible rfl
   rotate_left
   ·simp only [Act.put, List.setIfInBounds_toArray, List.set_cons_zero, List.set_cons_succ, i64_w, i32_w]
    rfl
   refine one_ (i := 15) (N := none) #[true, true, true, true, true, true, true, true, true, true, true, true, true, true, true, true] rfl rfl (one_of HT_.out (by kernel_rfl)) (by decide) (fun K hK => ?_)
   have hs47 : w45.cell? ⟨gb487, 4, none⟩ = some (.int .i64 0) := (blk_cell BK487.out 4).trans rfl
   have hfs47 := blk_frozen BK487.out 4
   have hns47_0 := NB485_487.out
   have hns47_1 := NB486_487.out
   have hms47_0 := NB487_485.out
   have hms47_1 := NB487_486.out
   refine skip_ (w1 := ?_) (by rfl) rfl ?_ ?_
   rotate_left
   ·go_simp
    rfl
   refine hK.out _ _ ⟨((cell_far (p := ⟨gb487, _, none⟩) NB485_487.out _).trans (hHeld.1)), ((cell_far (p := ⟨gb487, _, none⟩) NB485_487.out _).trans (hHeld.2.1)), ((cell_far (p := ⟨gb487, _, none⟩) NB485_487.out _).trans (hHeld.2.2.1)), ((cell_far (p := ⟨gb487, _, none⟩) NB485_487.out _).trans (hHeld.2.2.2.1)), ((cell_far (p := ⟨gb487, _, none⟩) NB485_487.out _).trans (hHeld.2.2.2.2.1)), ((cell_far (p := ⟨gb487, _, none⟩) NB485_487.out _).trans (hHeld.2.2.2.2.2.1)), ((cell_far (p := ⟨gb487, _, none⟩) NB485_487.out _).trans (hHeld.2.2.2.2.2.2.1)), ((cell_far (p := ⟨gb487, _, none⟩) NB485_487.out _).trans (hHeld.2.2.2.2.2.2.2))⟩ (fun hHeld => ?_)
   clear hK K
   refine done_ (done_of HT_.out (by kernel_rfl)) ?_
   obtain ⟨hcz48_0, hcz48_1, hcz48_2, hcz48_3, hcz48_4, hcz48_5, hcz48_6, hcz48_7⟩ := bc8 BK487.out
   obtain ⟨hfz48_0, hfz48_1, hfz48_2, hfz48_3, hfz48_4, hfz48_5, hfz48_6, hfz48_7⟩ := bf8 BK487.out
   obtain ⟨hcz49_0, hcz49_1, hcz49_2, hcz49_3, hcz49_4, hcz49_5, hcz49_6, hcz49_7⟩ := bc8 BK486.out
   obtain ⟨hfz49_0, hfz49_1, hfz49_2, hfz49_3, hfz49_4, hfz49_5, hfz49_6, hfz49_7⟩ := bf8 BK486.out
   try go_wp2
   refine bodyPost_ret (results_cell_row rfl _ _ gb486 23 #[.int .i64 (wrap64 (100 + (wrap64 (a0_0)))), .int .i64 (Int.tmod (wrap64 (a0_1)) 1200), .int .i64 (Int.tmod (wrap64 (a0_2)) 1200), .int .i64 1, .int .i64 (Int.tmod (wrap64 (a0_4)) 100001), .int .i64 (wrap64 (1 + (Int.tmod (wrap64 (a0_5)) 8))), .bool a0_7, .int .i64 (Int.tmod (wrap64 (a0_6)) 101)] (0, 0) _ rfl (by exact bto (bput (bput (bput (bput (bput (bput (bput (bput (blk_far (blk_far (blk_far (BK486.out) NB486_487.out _) NB486_487.out _) NB486_487.out _) _ _) _ _) _ _) _ _) _ _) _ _) _ _) _ _) rfl) Try.underlying23 rfl (by kernel_rfl)) rfl ?_
   exact ⟨by first | rfl | (simp [errW_none, errW_some] <;> rfl) | (simp [*, errW_none, errW_some] <;> rfl), by repeat (first | (with_reducible first | exact HB.out | apply below_alloc | apply pw_below_drewN | apply below_drew1 | refine below_set ?_ (Aside0.out (by assumption))) | exact HB.out)⟩
  ·rw [if_neg c35] at H
   have c35b0 : ((wrap64 ((Int.tmod (wrap64 (a0_3)) 100001) + (Int.tmod (wrap64 (a0_4)) 100001))) == 0) = false := beq_eq_false_iff_ne.mpr c35
   have c35b1 : ((wrap64 ((Int.tmod (wrap64 (a0_3)) 100001) + (Int.tmod (wrap64 (a0_4)) 100001))) != 0) = true := bne_iff_ne.mpr c35
   simp only [Option.some.injEq, Prod.mk.injEq] at H
   obtain ⟨rfl, rfl, rfl, rfl, rfl, rfl, rfl, rfl⟩ := H
   go_enter Try.func37, Try.ntmps37
   try go_wp2_with (first | ((with_reducible refine gate_dst (N := 1) rfl ?_); refine box_event ?hg (N := 1) ?hd (cs := #[.int .u16 a0_0, .int .u16 a0_1, .int .u16 a0_2, .int .u16 a0_3, .int .u16 a0_4, .int .u8 a0_5, .int .u8 a0_6, .bool a0_7]) (t := 71) ?hr ?_; (case hd => rfl); (case hg => rfl); (case hr => first | (go_simp; done) | (go_simp; rfl)); intro gb485 hg w50 hbox hb; have BK485 := Aside0.mk (hbox); have GW485 := Aside0.mk ((by rw [hg]; exact (below_size HB.out) : w.heap.size ≤ gb485)); have GE485 := GW485; replace HB := Aside0.mk (below_step HB.out hb); clear hb hbox hg) | ((with_reducible refine gate_dst (N := 2) rfl ?_); refine box_event ?hg (N := 2) ?hd (cs := #[.int .i64 0, .int .i64 0, .int .i64 0, .int .i64 0, .int .i64 0, .int .i64 0, .bool false, .int .i64 0]) (t := 23) ?hr ?_; (case hd => rfl); (case hg => rfl); (case hr => first | (go_simp; done) | (go_simp; rfl)); intro gb486 hg w51 hbox hb; have BK486 := Aside0.mk (hbox); have GW486 := Aside0.mk ((by rw [hg]; exact (below_size (by repeat (first | (with_reducible first | exact HB.out | apply below_alloc | apply pw_below_drewN | apply below_drew1 | refine below_set ?_ (Aside0.out (by assumption))) | exact HB.out))) : w.heap.size ≤ gb486)); have GE486 := GW486; replace HB := Aside0.mk (below_step (by repeat (first | (with_reducible first | exact HB.out | apply below_alloc | apply pw_below_drewN | apply below_drew1 | refine below_set ?_ (Aside0.out (by assumption))) | exact HB.out)) hb); have NB485_486 := Aside0.mk ((by rw [hg]; exact Nat.ne_of_lt (blk_lt BK485.out) : gb485 ≠ gb486)); have NB486_485 := Aside0.mk ((by rw [hg]; exact Nat.ne_of_gt (blk_lt BK485.out) : gb486 ≠ gb485)); replace BK485 := Aside0.mk (blk_below (g := gb485) (o := .cells #[.int .u16 a0_0, .int .u16 a0_1, .int .u16 a0_2, .int .u16 a0_3, .int .u16 a0_4, .int .u8 a0_5, .int .u8 a0_6, .bool a0_7] 71 (0, 0)) (by repeat (first | (with_reducible first | exact BK485.out | refine blk_drewN ?_ _ | refine blk_drew ?_ | refine blk_alloc ?_ _) | exact BK485.out)) hb); clear hb hbox hg; have hnb52 := NB485_486.out; have hnc52 := NB486_485.out; obtain ⟨hcz53_0, hcz53_1, hcz53_2, hcz53_3, hcz53_4, hcz53_5, hcz53_6, hcz53_7⟩ := bc8 BK485.out; obtain ⟨hfz53_0, hfz53_1, hfz53_2, hfz53_3, hfz53_4, hfz53_5, hfz53_6, hfz53_7⟩ := bf8 BK485.out) | ((with_reducible refine gate_dst (N := 3) rfl ?_); refine box_event ?hg (N := 3) ?hd (cs := #[.int .i64 0, .int .i64 0, .int .i64 0, .int .i64 0, .int .i64 0, .int .i64 0, .bool false, .int .i64 0]) (t := 23) ?hr ?_; (case hd => rfl); (case hg => rfl); (case hr => first | (go_simp; done) | (go_simp; rfl)); intro gb487 hg w54 hbox hb; have BK487 := Aside0.mk (hbox); have GW487 := Aside0.mk ((by rw [hg]; exact (below_size (by repeat (first | (with_reducible first | exact HB.out | apply below_alloc | apply pw_below_drewN | apply below_drew1 | refine below_set ?_ (Aside0.out (by assumption))) | exact HB.out))) : w.heap.size ≤ gb487)); have GE487 := GW487; replace HB := Aside0.mk (below_step (by repeat (first | (with_reducible first | exact HB.out | apply below_alloc | apply pw_below_drewN | apply below_drew1 | refine below_set ?_ (Aside0.out (by assumption))) | exact HB.out)) hb); have NB485_487 := Aside0.mk ((by rw [hg]; exact Nat.ne_of_lt (blk_lt BK485.out) : gb485 ≠ gb487)); have NB487_485 := Aside0.mk ((by rw [hg]; exact Nat.ne_of_gt (blk_lt BK485.out) : gb487 ≠ gb485)); replace BK485 := Aside0.mk (blk_below (g := gb485) (o := .cells #[.int .u16 a0_0, .int .u16 a0_1, .int .u16 a0_2, .int .u16 a0_3, .int .u16 a0_4, .int .u8 a0_5, .int .u8 a0_6, .bool a0_7] 71 (0, 0)) (by repeat (first | (with_reducible first | exact BK485.out | refine blk_drewN ?_ _ | refine blk_drew ?_ | refine blk_alloc ?_ _) | exact BK485.out)) hb); have NB486_487 := Aside0.mk ((by rw [hg]; exact Nat.ne_of_lt (blk_lt BK486.out) : gb486 ≠ gb487)); have NB487_486 := Aside0.mk ((by rw [hg]; exact Nat.ne_of_gt (blk_lt BK486.out) : gb487 ≠ gb486)); replace BK486 := Aside0.mk (blk_below (g := gb486) (o := .cells #[.int .i64 0, .int .i64 0, .int .i64 0, .int .i64 0, .int .i64 0, .int .i64 0, .bool false, .int .i64 0] 23 (0, 0)) (by repeat (first | (with_reducible first | exact BK486.out | refine blk_drewN ?_ _ | refine blk_drew ?_ | refine blk_alloc ?_ _) | exact BK486.out)) hb); clear hb hbox hg; have hnb55 := NB487_485.out; have hnc55 := NB485_487.out; have hnb56 := NB487_486.out; have hnc56 := NB486_487.out; obtain ⟨hcz57_0, hcz57_1, hcz57_2, hcz57_3, hcz57_4, hcz57_5, hcz57_6, hcz57_7⟩ := bc8 BK487.out; obtain ⟨hfz57_0, hfz57_1, hfz57_2, hfz57_3, hfz57_4, hfz57_5, hfz57_6, hfz57_7⟩ := bf8 BK487.out))
   have n0_ : Aside0 (((((((((w54.setCell ⟨gb487, 0, none⟩ (.int .i64 (wrap64 (100 + (wrap64 (a0_0)))))).setCell ⟨gb487, 1, none⟩ (.int .i64 (Int.tmod (wrap64 (a0_1)) 1200))).setCell ⟨gb487, 2, none⟩ (.int .i64 (Int.tmod (wrap64 (a0_2)) 1200))).setCell ⟨gb487, 3, none⟩ (.int .i64 0)).setCell ⟨gb487, 4, none⟩ (.int .i64 0)).setCell ⟨gb487, 5, none⟩ (.int .i64 (wrap64 (1 + (Int.tmod (wrap64 (a0_5)) 8))))).setCell ⟨gb487, 6, none⟩ (.bool a0_7)).setCell ⟨gb487, 7, none⟩ (.int .i64 (Int.tmod (wrap64 (a0_6)) 101))).heap[gb485]? = some (.cells #[.int .u16 a0_0, .int .u16 a0_1, .int .u16 a0_2, .int .u16 a0_3, .int .u16 a0_4, .int .u8 a0_5, .int .u8 a0_6, .bool a0_7] 71 (0, 0))) := ⟨by repeat (first | (with_reducible first | exact BK485.out | refine blk_drewN ?_ _ | refine blk_drew ?_ | refine blk_alloc ?_ _) | refine blk_far ?_ NB485_487.out _ | exact BK485.out)⟩
   have n1_ : Aside0 (((((((((w54.setCell ⟨gb487, 0, none⟩ (.int .i64 (wrap64 (100 + (wrap64 (a0_0)))))).setCell ⟨gb487, 1, none⟩ (.int .i64 (Int.tmod (wrap64 (a0_1)) 1200))).setCell ⟨gb487, 2, none⟩ (.int .i64 (Int.tmod (wrap64 (a0_2)) 1200))).setCell ⟨gb487, 3, none⟩ (.int .i64 0)).setCell ⟨gb487, 4, none⟩ (.int .i64 0)).setCell ⟨gb487, 5, none⟩ (.int .i64 (wrap64 (1 + (Int.tmod (wrap64 (a0_5)) 8))))).setCell ⟨gb487, 6, none⟩ (.bool a0_7)).setCell ⟨gb487, 7, none⟩ (.int .i64 (Int.tmod (wrap64 (a0_6)) 101))).heap[gb486]? = some (.cells #[.int .i64 0, .int .i64 0, .int .i64 0, .int .i64 0, .int .i64 0, .int .i64 0, .bool false, .int .i64 0] 23 (0, 0))) := ⟨by repeat (first | (with_reducible first | exact BK486.out | refine blk_drewN ?_ _ | refine blk_drew ?_ | refine blk_alloc ?_ _) | refine blk_far ?_ NB486_487.out _ | exact BK486.out)⟩
   have n2_ : Aside0 (((((((((w54.setCell ⟨gb487, 0, none⟩ (.int .i64 (wrap64 (100 + (wrap64 (a0_0)))))).setCell ⟨gb487, 1, none⟩ (.int .i64 (Int.tmod (wrap64 (a0_1)) 1200))).setCell ⟨gb487, 2, none⟩ (.int .i64 (Int.tmod (wrap64 (a0_2)) 1200))).setCell ⟨gb487, 3, none⟩ (.int .i64 0)).setCell ⟨gb487, 4, none⟩ (.int .i64 0)).setCell ⟨gb487, 5, none⟩ (.int .i64 (wrap64 (1 + (Int.tmod (wrap64 (a0_5)) 8))))).setCell ⟨gb487, 6, none⟩ (.bool a0_7)).setCell ⟨gb487, 7, none⟩ (.int .i64 (Int.tmod (wrap64 (a0_6)) 101))).heap[gb487]? = some (.cells #[.int .i64 (wrap64 (100 + (wrap64 (a0_0)))), .int .i64 (Int.tmod (wrap64 (a0_1)) 1200), .int .i64 (Int.tmod (wrap64 (a0_2)) 1200), .int .i64 0, .int .i64 0, .int .i64 (wrap64 (1 + (Int.tmod (wrap64 (a0_5)) 8))), .bool a0_7, .int .i64 (Int.tmod (wrap64 (a0_6)) 101)] 23 (0, 0))) := ⟨by exact bto (bput (bput (bput (bput (bput (bput (bput (bput (BK487.out) _ _) _ _) _ _) _ _) _ _) _ _) _ _) _ _) rfl⟩
   have n3_ : Aside0 (Below w.heap.size w ((((((((w54.setCell ⟨gb487, 0, none⟩ (.int .i64 (wrap64 (100 + (wrap64 (a0_0)))))).setCell ⟨gb487, 1, none⟩ (.int .i64 (Int.tmod (wrap64 (a0_1)) 1200))).setCell ⟨gb487, 2, none⟩ (.int .i64 (Int.tmod (wrap64 (a0_2)) 1200))).setCell ⟨gb487, 3, none⟩ (.int .i64 0)).setCell ⟨gb487, 4, none⟩ (.int .i64 0)).setCell ⟨gb487, 5, none⟩ (.int .i64 (wrap64 (1 + (Int.tmod (wrap64 (a0_5)) 8))))).setCell ⟨gb487, 6, none⟩ (.bool a0_7)).setCell ⟨gb487, 7, none⟩ (.int .i64 (Int.tmod (wrap64 (a0_6)) 101)))) := ⟨by repeat (first | (with_reducible first | exact HB.out | apply below_alloc | apply pw_below_drewN | apply below_drew1 | refine below_set ?_ (Aside0.out (by assumption))) | exact HB.out)⟩
   (try clear BK485)
   (try clear BK486)
   (try clear BK487)
   (try clear HB)
   generalize ((((((((w54.setCell ⟨gb487, 0, none⟩ (.int .i64 (wrap64 (100 + (wrap64 (a0_0)))))).setCell ⟨gb487, 1, none⟩ (.int .i64 (Int.tmod (wrap64 (a0_1)) 1200))).setCell ⟨gb487, 2, none⟩ (.int .i64 (Int.tmod (wrap64 (a0_2)) 1200))).setCell ⟨gb487, 3, none⟩ (.int .i64 0)).setCell ⟨gb487, 4, none⟩ (.int .i64 0)).setCell ⟨gb487, 5, none⟩ (.int .i64 (wrap64 (1 + (Int.tmod (wrap64 (a0_5)) 8))))).setCell ⟨gb487, 6, none⟩ (.bool a0_7)).setCell ⟨gb487, 7, none⟩ (.int .i64 (Int.tmod (wrap64 (a0_6)) 101))) = w58 at n0_ n1_ n2_ n3_ ⊢
   have BK485 := n0_
   have BK486 := n1_
   have BK487 := n2_
   have HB := n3_
   clear n0_ n1_ n2_ n3_
   have n0_ := Aside0.mk (blk_drew BK485.out)
   have n1_ := Aside0.mk (blk_drew BK486.out)
   have n2_ := Aside0.mk (blk_drew BK487.out)
   have n3_ := Aside0.mk (below_drew1 HB.out)
   clear BK485
   clear BK486
   clear BK487
   clear HB
   have BK485 := n0_
   have BK486 := n1_
   have BK487 := n2_
   have HB := n3_
   clear n0_ n1_ n2_ n3_
   refine start_ (n := 16) (S := fun w' => w'.cell? ⟨gb485, 0, none⟩ = some (.int .u16 a0_0) ∧ w'.cell? ⟨gb485, 1, none⟩ = some (.int .u16 a0_1) ∧ w'.cell? ⟨gb485, 2, none⟩ = some (.int .u16 a0_2) ∧ w'.cell? ⟨gb485, 3, none⟩ = some (.int .u16 a0_3) ∧ w'.cell? ⟨gb485, 4, none⟩ = some (.int .u16 a0_4) ∧ w'.cell? ⟨gb485, 5, none⟩ = some (.int .u8 a0_5) ∧ w'.cell? ⟨gb485, 6, none⟩ = some (.int .u8 a0_6) ∧ w'.cell? ⟨gb485, 7, none⟩ = some (.bool a0_7)) (ds := []) #[false, false, false, false, false, false, false, false, false, false, false, false, false, false, false, false] (by kernel_rfl) rfl rfl ⟨(blk_cell BK485.out 0).trans rfl, (blk_cell BK485.out 1).trans rfl, (blk_cell BK485.out 2).trans rfl, (blk_cell BK485.out 3).trans rfl, (blk_cell BK485.out 4).trans rfl, (blk_cell BK485.out 5).trans rfl, (blk_cell BK485.out 6).trans rfl, (blk_cell BK485.out 7).trans rfl⟩ (fun hHeld => ?_); refine with_tabW acmelaw01_Cut_form.tab6 acmelaw01_Cut_form.bits6 (fun HT_ HW_ => ?_)
   generalize w58.drew = w59 at BK485 BK486 BK487 HB hHeld ⊢
   refine pure_ (i := 0) (N := some 44) (v := ?_) (a' := ?_) #[true, false, false, false, false, false, false, false, false, false, false, false, false, false, false, false] rfl rfl (any_of HT_.out (by kernel_rfl)) (fun _ _ _ h => h) (Or.inl ⟨by rfl, ?_⟩) ?_ ?_
   rotate_left
   ·intro w'
    go_simp
    with_reducible rfl
   rotate_left
   ·simp only [Act.put, List.setIfInBounds_toArray, List.set_cons_zero, List.set_cons_succ, i64_w, i32_w]
    rfl
   refine pure_ (i := 3) (N := some 47) (v := ?_) (a' := ?_) #[true, false, false, true, false, false, false, false, false, false, false, false, false, false, false, false] rfl rfl (any_of HT_.out (by kernel_rfl)) (fun _ _ _ h => h) (Or.inl ⟨by rfl, ?_⟩) ?_ ?_
   rotate_left
   ·intro w'
    go_simp
    with_reducible rfl
   rotate_left
   ·simp only [Act.put, List.setIfInBounds_toArray, List.set_cons_zero, List.set_cons_succ, i64_w, i32_w]
    rfl
   refine pure_ (i := 4) (N := some 48) (v := ?_) (a' := ?_) #[true, false, false, true, true, false, false, false, false, false, false, false, false, false, false, false] rfl rfl (any_of HT_.out (by kernel_rfl)) (fun _ _ _ h => h) (Or.inl ⟨by rfl, ?_⟩) ?_ ?_
   rotate_left
   ·intro w'
    go_simp
    with_reducible rfl
   rotate_left
   ·simp only [Act.put, List.setIfInBounds_toArray, List.set_cons_zero, List.set_cons_succ, i64_w, i32_w]
    rfl
   refine pure_ (i := 6) (N := some 50) (v := ?_) (a' := ?_) #[true, false, false, true, true, false, true, false, false, false, false, false, false, false, false, false] rfl rfl (any_of HT_.out (by kernel_rfl)) (fun _ _ _ h => h) (Or.inl ⟨by rfl, ?_⟩) ?_ ?_
   rotate_left
   ·intro w'
    go_simp
    with_reducible rfl
   rotate_left
   ·simp only [Act.put, List.setIfInBounds_toArray, List.set_cons_zero, List.set_cons_succ, i64_w, i32_w]
    rfl
   refine pure_ (i := 9) (N := some 53) (v := ?_) (a' := ?_) #[true, false, false, true, true, false, true, false, false, true, false, false, false, false, false, false] rfl rfl (any_of HT_.out (by kernel_rfl)) (fun _ _ _ h => h) (Or.inl ⟨by rfl, ?_⟩) ?_ ?_
   rotate_left
   ·intro w'
    go_simp
    with_reducible rfl
   rotate_left
   ·simp only [Act.put, List.setIfInBounds_toArray, List.set_cons_zero, List.set_cons_succ, i64_w, i32_w]
    rfl
   refine pure_ (i := 10) (N := some 54) (v := ?_) (a' := ?_) #[true, false, false, true, true, false, true, false, false, true, true, false, false, false, false, false] rfl rfl (any_of HT_.out (by kernel_rfl)) (fun _ _ _ h => h) (Or.inl ⟨by rfl, ?_⟩) ?_ ?_
   rotate_left
   ·intro w'
    go_simp
    with_reducible rfl
   rotate_left
   ·simp only [Act.put, List.setIfInBounds_toArray, List.set_cons_zero, List.set_cons_succ, i64_w, i32_w]
    rfl
   refine take_ (i := 1) (N := some 45) (v := ?_) (a' := ?_) #[true, true, false, true, true, false, true, false, false, true, true, false, false, false, false, false] rfl rfl (take_ofW HT_.out HW_.out (by kernel_rfl)) (fun _ _ _ h => h) (Or.inl ⟨by rfl, ?_⟩) hHeld ?_ ?_
   rotate_left
   ·rintro w' ⟨s0, s1, s2, s3, s4, s5, s6, s7⟩
    go_simp
    with_reducible rfl
   rotate_left
   ·simp only [Act.put, List.setIfInBounds_toArray, List.set_cons_zero, List.set_cons_succ, i64_w, i32_w]
    rfl
   refine pure_ (i := 2) (N := some 46) (v := ?_) (a' := ?_) #[true, true, true, true, true, false, true, false, false, true, true, false, false, false, false, false] rfl rfl (any_of HT_.out (by kernel_rfl)) (fun _ _ _ h => h) (Or.inl ⟨by rfl, ?_⟩) ?_ ?_
   rotate_left
   ·intro w'
    go_simp
    with_reducible rfl
   rotate_left
   ·simp only [Act.put, List.setIfInBounds_toArray, List.set_cons_zero, List.set_cons_succ, i64_w, i32_w]
    rfl
   refine pure_ (i := 5) (N := some 49) (v := ?_) (a' := ?_) #[true, true, true, true, true, true, true, false, false, true, true, false, false, false, false, false] rfl rfl (any_of HT_.out (by kernel_rfl)) (fun _ _ _ h => h) (Or.inl ⟨by rfl, ?_⟩) ?_ ?_
   rotate_left
   ·intro w'
    go_simp
    with_reducible rfl
   rotate_left
   ·simp only [Act.put, List.setIfInBounds_toArray, List.set_cons_zero, List.set_cons_succ, i64_w, i32_w]
    rfl
   refine pure_ (i := 12) (N := some 56) (v := ?_) (a' := ?_) #[true, true, true, true, true, true, true, false, false, true, true, false, true, false, false, false] rfl rfl (any_of HT_.out (by kernel_rfl)) (fun _ _ _ h => h) (Or.inl ⟨by rfl, ?_⟩) ?_ ?_
   rotate_left
   ·intro w'
    go_simp
    with_reducible rfl
   rotate_left
   ·simp only [Act.put, List.setIfInBounds_toArray, List.set_cons_zero, List.set_cons_succ, i64_w, i32_w]
    rfl
   refine take_ (i := 7) (N := some 51) (v := ?_) (a' := ?_) #[true, true, true, true, true, true, true, true, false, true, true, false, true, false, false, false] rfl rfl (take_ofW HT_.out HW_.out (by kernel_rfl)) (fun _ _ _ h => h) (Or.inl ⟨by rfl, ?_⟩) hHeld ?_ ?_
   rotate_left
   ·rintro w' ⟨s0, s1, s2, s3, s4, s5, s6, s7⟩
    go_simp
    with_reducible rfl
   rotate_left
   ·simp only [Act.put, List.setIfInBounds_toArray, List.set_cons_zero, List.set_cons_succ, i64_w, i32_w]
    rfl
   refine pure_ (i := 8) (N := some 52) (v := ?_) (a' := ?_) #[true, true, true, true, true, true, true, true, true, true, true, false, true, false, false, false] rfl rfl (any_of HT_.out (by kernel_rfl)) (fun _ _ _ h => h) (Or.inl ⟨by rfl, ?_⟩) ?_ ?_
   rotate_left
   ·intro w'
    go_simp
    with_reducible rfl
   rotate_left
   ·simp only [Act.put, List.setIfInBounds_toArray, List.set_cons_zero, List.set_cons_succ, i64_w, i32_w]
    rfl
   refine pure_ (i := 11) (N := some 55) (v := ?_) (a' := ?_) #[true, true, true, true, true, true, true, true, true, true, true, true, true, false, false, false] rfl rfl (any_of HT_.out (by kernel_rfl)) (fun _ _ _ h => h) (Or.inl ⟨by rfl, ?_⟩) ?_ ?_
   rotate_left
   ·intro w'
    go_simp
    with_reducible rfl
   rotate_left
   ·simp only [Act.put, List.setIfInBounds_toArray, List.set_cons_zero, List.set_cons_succ, i64_w, i32_w]
    rfl
   refine one_ (i := 13) (N := none) #[true, true, true, true, true, true, true, true, true, true, true, true, true, true, false, false] rfl rfl (one_of HT_.out (by kernel_rfl)) (by decide) (fun K hK => ?_)
   have hs60 : w59.cell? ⟨gb487, 3, none⟩ = some (.int .i64 0) := (blk_cell BK487.out 3).trans rfl
   have hfs60 := blk_frozen BK487.out 3
   have hns60_0 := NB485_487.out
   have hns60_1 := NB486_487.out
   have hms60_0 := NB487_485.out
   have hms60_1 := NB487_486.out
   refine skip_ (w1 := ?_) (by rfl) rfl ?_ ?_
   rotate_left
   ·go_simp
    rfl
   refine hK.out _ _ ⟨((cell_far (p := ⟨gb487, _, none⟩) NB485_487.out _).trans (hHeld.1)), ((cell_far (p := ⟨gb487, _, none⟩) NB485_487.out _).trans (hHeld.2.1)), ((cell_far (p := ⟨gb487, _, none⟩) NB485_487.out _).trans (hHeld.2.2.1)), ((cell_far (p := ⟨gb487, _, none⟩) NB485_487.out _).trans (hHeld.2.2.2.1)), ((cell_far (p := ⟨gb487, _, none⟩) NB485_487.out _).trans (hHeld.2.2.2.2.1)), ((cell_far (p := ⟨gb487, _, none⟩) NB485_487.out _).trans (hHeld.2.2.2.2.2.1)), ((cell_far (p := ⟨gb487, _, none⟩) NB485_487.out _).trans (hHeld.2.2.2.2.2.2.1)), ((cell_far (p := ⟨gb487, _, none⟩) NB485_487.out _).trans (hHeld.2.2.2.2.2.2.2))⟩ (fun hHeld => ?_)
   clear hK K
   refine pure_ (i := 14) (N := some 57) (v := ?_) (a' := ?_) #[true, true, true, true, true, true, true, true, true, true, true, true, true, true, true, false] rfl rfl (any_of HT_.out (by kernel_rfl)) (fun _ _ _ h => h) (Or.inl ⟨by rfl, ?_⟩) ?_ ?_
   rotate_left
   ·intro w'
    go_simp
    with_reducible rfl
   rotate_left
   ·simp only [Act.put, List.setIfInBounds_toArray, List.set_cons_zero, List.set_cons_succ, i64_w, i32_w]
    rfl
   refine one_ (i := 15) (N := none) #[true, true, true, true, true, true, true, true, true, true, true, true, true, true, true, true] rfl rfl (one_of HT_.out (by kernel_rfl)) (by decide) (fun K hK => ?_)
   have hs61 : w59.cell? ⟨gb487, 4, none⟩ = some (.int .i64 0) := (blk_cell BK487.out 4).trans rfl
   have hfs61 := blk_frozen BK487.out 4
   have hns61_0 := NB485_487.out
   have hns61_1 := NB486_487.out
   have hms61_0 := NB487_485.out
   have hms61_1 := NB487_486.out
   refine skip_ (w1 := ?_) (by rfl) rfl ?_ ?_
   rotate_left
   ·go_simp
    rfl
   refine hK.out _ _ ⟨((cell_far (p := ⟨gb487, _, none⟩) NB485_487.out _).trans (hHeld.1)), ((cell_far (p := ⟨gb487, _, none⟩) NB485_487.out _).trans (hHeld.2.1)), ((cell_far (p := ⟨gb487, _, none⟩) NB485_487.out _).trans (hHeld.2.2.1)), ((cell_far (p := ⟨gb487, _, none⟩) NB485_487.out _).trans (hHeld.2.2.2.1)), ((cell_far (p := ⟨gb487, _, none⟩) NB485_487.out _).trans (hHeld.2.2.2.2.1)), ((cell_far (p := ⟨gb487, _, none⟩) NB485_487.out _).trans (hHeld.2.2.2.2.2.1)), ((cell_far (p := ⟨gb487, _, none⟩) NB485_487.out _).trans (hHeld.2.2.2.2.2.2.1)), ((cell_far (p := ⟨gb487, _, none⟩) NB485_487.out _).trans (hHeld.2.2.2.2.2.2.2))⟩ (fun hHeld => ?_)
   clear hK K
   refine done_ (done_of HT_.out (by kernel_rfl)) ?_
   obtain ⟨hcz62_0, hcz62_1, hcz62_2, hcz62_3, hcz62_4, hcz62_5, hcz62_6, hcz62_7⟩ := bc8 BK487.out
   obtain ⟨hfz62_0, hfz62_1, hfz62_2, hfz62_3, hfz62_4, hfz62_5, hfz62_6, hfz62_7⟩ := bf8 BK487.out
   obtain ⟨hcz63_0, hcz63_1, hcz63_2, hcz63_3, hcz63_4, hcz63_5, hcz63_6, hcz63_7⟩ := bc8 BK486.out
   obtain ⟨hfz63_0, hfz63_1, hfz63_2, hfz63_3, hfz63_4, hfz63_5, hfz63_6, hfz63_7⟩ := bf8 BK486.out
   try go_wp2
   refine bodyPost_ret (results_cell_row rfl _ _ gb486 23 #[.int .i64 (wrap64 (100 + (wrap64 (a0_0)))), .int .i64 (Int.tmod (wrap64 (a0_1)) 1200), .int .i64 (Int.tmod (wrap64 (a0_2)) 1200), .int .i64 (Int.tmod (wrap64 (a0_3)) 100001), .int .i64 (Int.tmod (wrap64 (a0_4)) 100001), .int .i64 (wrap64 (1 + (Int.tmod (wrap64 (a0_5)) 8))), .bool a0_7, .int .i64 (Int.tmod (wrap64 (a0_6)) 101)] (0, 0) _ rfl (by exact bto (bput (bput (bput (bput (bput (bput (bput (bput (blk_far (blk_far (BK486.out) NB486_487.out _) NB486_487.out _) _ _) _ _) _ _) _ _) _ _) _ _) _ _) _ _) rfl) Try.underlying23 rfl (by kernel_rfl)) rfl ?_
   exact ⟨by first | rfl | (simp [errW_none, errW_some] <;> rfl) | (simp [*, errW_none, errW_some] <;> rfl), by repeat (first | (with_reducible first | exact HB.out | apply below_alloc | apply pw_below_drewN | apply below_drew1 | refine below_set ?_ (Aside0.out (by assumption))) | exact HB.out)⟩

end Go.Proofs.Yticbhgjenidjlaa.T
namespace Go.Proofs.Yticbhgjenidjlaa.T
open Go.RowKit Go.Proofs.YticbhgjenidjlaaW.PrintWords Go.Proofs.YticbhgjenidjlaaW.PrintLast Go.Proofs.YticbhgjenidjlaaW.PrintMore
attribute [local go_sem] max2_int min2_int max_two min_two max_three min_three max_four min_four   -- for this text's walks alone
set_option linter.unusedVariables false
set_option linter.unusedSimpArgs false
attribute [local go_sem] wl_100001

def acmelaw01_at.f (a0_0 : Int) (a0_1 : Int) (a0_2 : Int) (a0_3 : Int) (a0_4 : Int) (a0_5 : Int) (a0_6 : Bool) (a0_7 : Int) (a1 : Int) : Option (Int) := if (wrap64 ((wrap64 (a0_3 + a0_4)) + 1)) = 0 then (none) else (some (wrap64 ((wrap64 (-a0_4)) + (Int.tmod (wrap64 (a1)) (wrap64 ((wrap64 (a0_3 + a0_4)) + 1))))))
set_option maxHeartbeats 8000000 in
set_option maxRecDepth 100000 in
theorem acmelaw01_at.calls (a0_0 : Int) (a0_1 : Int) (a0_2 : Int) (a0_3 : Int) (a0_4 : Int) (a0_5 : Int) (a0_6 : Bool) (a0_7 : Int) (a1 : Int) (r : Int) (w : World) (h : acmelaw01_at.f a0_0 a0_1 a0_2 a0_3 a0_4 a0_5 a0_6 a0_7 a1 = some r) :
  Calls Try.prog 38 #[.agg #[.int .i64 a0_0, .int .i64 a0_1, .int .i64 a0_2, .int .i64 a0_3, .int .i64 a0_4, .int .i64 a0_5, .bool a0_6, .int .i64 a0_7], .int .u16 a1] w fun e w' => e = .returned (.int .i64 r) ∧ Below w.heap.size w w' := by
 have hu23 := Try.underlying23
 have HB := Aside0.mk (Below.refl w.heap.size w)
 have H : (if (wrap64 ((wrap64 (a0_3 + a0_4)) + 1)) = 0 then (none) else (some (wrap64 ((wrap64 (-a0_4)) + (Int.tmod (wrap64 (a1)) (wrap64 ((wrap64 (a0_3 + a0_4)) + 1))))))) = some r := h
 clear h
 by_cases c3 : (wrap64 ((wrap64 (a0_3 + a0_4)) + 1)) = 0
 ·rw [if_pos c3] at H
  exact absurd H (by simp)
 ·rw [if_neg c3] at H
  have c3b0 : ((wrap64 ((wrap64 (a0_3 + a0_4)) + 1)) == 0) = false := beq_eq_false_iff_ne.mpr c3
  have c3b1 : ((wrap64 ((wrap64 (a0_3 + a0_4)) + 1)) != 0) = true := bne_iff_ne.mpr c3
  obtain rfl := Option.some.inj H
  go_enter Try.func38, Try.ntmps38
  go_wp2_with (first | ((with_reducible refine gate_dst (N := 2) rfl ?_); refine box_event ?hg (N := 2) ?hd (cs := #[.int .i64 a0_0, .int .i64 a0_1, .int .i64 a0_2, .int .i64 a0_3, .int .i64 a0_4, .int .i64 a0_5, .bool a0_6, .int .i64 a0_7]) (t := 23) ?hr ?_; (case hd => rfl); (case hg => rfl); (case hr => first | (go_simp; done) | (go_simp; rfl)); intro gb488 hg w4 hbox hb; have BK488 := Aside0.mk (hbox); have GW488 := Aside0.mk ((by rw [hg]; exact (below_size HB.out) : w.heap.size ≤ gb488)); have GE488 := GW488; replace HB := Aside0.mk (below_step HB.out hb); clear hb hbox hg; obtain ⟨hcz5_0, hcz5_1, hcz5_2, hcz5_3, hcz5_4, hcz5_5, hcz5_6, hcz5_7⟩ := bc8 BK488.out; obtain ⟨hfz5_0, hfz5_1, hfz5_2, hfz5_3, hfz5_4, hfz5_5, hfz5_6, hfz5_7⟩ := bf8 BK488.out))
  repeat (go_quiet (first | ((with_reducible refine gate_dst (N := 2) rfl ?_); refine box_event ?hg (N := 2) ?hd (cs := #[.int .i64 a0_0, .int .i64 a0_1, .int .i64 a0_2, .int .i64 a0_3, .int .i64 a0_4, .int .i64 a0_5, .bool a0_6, .int .i64 a0_7]) (t := 23) ?hr ?_; (case hd => rfl); (case hg => rfl); (case hr => first | (go_simp; done) | (go_simp; rfl)); intro gb488 hg w4 hbox hb; have BK488 := Aside0.mk (hbox); have GW488 := Aside0.mk ((by rw [hg]; exact (below_size HB.out) : w.heap.size ≤ gb488)); have GE488 := GW488; replace HB := Aside0.mk (below_step HB.out hb); clear hb hbox hg; obtain ⟨hcz5_0, hcz5_1, hcz5_2, hcz5_3, hcz5_4, hcz5_5, hcz5_6, hcz5_7⟩ := bc8 BK488.out; obtain ⟨hfz5_0, hfz5_1, hfz5_2, hfz5_3, hfz5_4, hfz5_5, hfz5_6, hfz5_7⟩ := bf8 BK488.out)); try go_wp2_with (first | ((with_reducible refine gate_dst (N := 2) rfl ?_); refine box_event ?hg (N := 2) ?hd (cs := #[.int .i64 a0_0, .int .i64 a0_1, .int .i64 a0_2, .int .i64 a0_3, .int .i64 a0_4, .int .i64 a0_5, .bool a0_6, .int .i64 a0_7]) (t := 23) ?hr ?_; (case hd => rfl); (case hg => rfl); (case hr => first | (go_simp; done) | (go_simp; rfl)); intro gb488 hg w4 hbox hb; have BK488 := Aside0.mk (hbox); have GW488 := Aside0.mk ((by rw [hg]; exact (below_size HB.out) : w.heap.size ≤ gb488)); have GE488 := GW488; replace HB := Aside0.mk (below_step HB.out hb); clear hb hbox hg; obtain ⟨hcz5_0, hcz5_1, hcz5_2, hcz5_3, hcz5_4, hcz5_5, hcz5_6, hcz5_7⟩ := bc8 BK488.out; obtain ⟨hfz5_0, hfz5_1, hfz5_2, hfz5_3, hfz5_4, hfz5_5, hfz5_6, hfz5_7⟩ := bf8 BK488.out)))
  go_ret
  exact ⟨by first | rfl | (simp [errW_none, errW_some] <;> rfl) | (simp [*, errW_none, errW_some] <;> rfl), by repeat (first | (with_reducible first | exact HB.out | apply below_alloc | apply pw_below_drewN | apply below_drew1 | refine below_set ?_ (Aside0.out (by assumption))) | exact HB.out)⟩

end Go.Proofs.Yticbhgjenidjlaa.T
namespace Go.Proofs.Yticbhgjenidjlaa.T
open Go.RowKit
def putB (w : World) (r : Nat) (o : Obj) : World := { w with heap := w.heap.setIfInBounds r o }
theorem putB_at (w : World) (r : Nat) (o : Obj) (h : r < w.heap.size) : (putB w r o).heap[r]? = some o := by simp [putB, h]
theorem putB_ne (w : World) (r k : Nat) (o : Obj) (h : k ≠ r) : (putB w r o).heap[k]? = w.heap[k]? := by
  simp only [putB, Array.getElem?_setIfInBounds]; rw [if_neg (by omega)]
theorem putB_cell (w : World) (r : Nat) (o : Obj) (a : Addr) (h : a.block ≠ r) : (putB w r o).cell? a = w.cell? a := World.cell?_of_block (w := w) (putB_ne w r a.block o h)
theorem below_putB {B : Nat} {a w : World} (h : Below B a w) {r : Nat} (hr : B ≤ r) (o : Obj) : Below B a (putB w r o) :=
  h.trans ⟨rfl, rfl, rfl, by simp [putB], fun k hk => putB_ne _ _ _ _ (by omega)⟩

theorem run_mapUpdate_new {P : Program} {w : World} {t kt et : TypeId} {td : TypeDesc} {r clock : Nat} {es : Array MapEntry} {key val : Value} (hm : P.underlying t = some (.map kt et)) (hb : w.heap[r]? = some (.map es clock))
    (hk : MapKept.IsKey td key) (ht : P.underlying kt = some td) (hf : Instr.findNow td key es.toList 0 = some none) :
    (Instr.mapUpdate t (.map (some r)) key val).run P w = .ok () (putB w r (.map (es.push ⟨key, val, clock⟩) (clock + 1))) := by
  have hc := MapKept.run_checkKey (P := P) (w := w) ht hk false 9999
  simp [Instr.mapUpdate, run_underlying hm, MapKept.run_getObj_map hb, hc, MapKept.run_findKey ht hf, MapKept.run_setObj_map _ hb, Result.andThen, putB]
theorem run_lookup_at {P : Program} {w : World} {t kt et : TypeId} {td : TypeDesc} {r clock i : Nat} {es : Array MapEntry} {key val : Value} (hm : P.underlying t = some (.map kt et)) (hb : w.heap[r]? = some (.map es clock))
    (hk : MapKept.IsKey td key) (ht : P.underlying kt = some td) (hf : Instr.findNow td key es.toList 0 = some (some (i, val))) :
    (Instr.lookup t (.map (some r)) key false).run P w = .ok val w := by
  have hc := MapKept.run_checkKey (P := P) (w := w) ht hk es.isEmpty 9999
  simp [Instr.lookup, run_underlying hm, MapKept.run_getObj_map hb, hc, MapKept.run_findKey ht hf, Result.andThen]
end Go.Proofs.Yticbhgjenidjlaa.T
