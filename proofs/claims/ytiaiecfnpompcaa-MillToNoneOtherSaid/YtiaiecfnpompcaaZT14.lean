-- cut down, squeezed and laid together by pack.py (a program of this repository) out of this seat's texts
import Derived.ChangeKeysEq
import Derived.Test.YtiaiecfnpompcaaZT2
import Derived.Test.YtiaiecfnpompcaaZT8
import Derived.Test.YtiaiecfnpompcaaZT4
import Derived.Test.YtiaiecfnpompcaaZT7
import Derived.Test.YtiaiecfnpompcaaZT3
import Derived.Test.YtiaiecfnpompcaaZT6
import Derived.Test.YtiaiecfnpompcaaZT5
import Derived.Test.YtiaiecfnpompcaaZT1
namespace Go.Proofs.Ytiaiecfnpompcaa.T
open Go.RowKit Go.Proofs.YtiaiecfnpompcaaW.PrintWords Go.Proofs.YtiaiecfnpompcaaW.PrintLast Go.Proofs.YtiaiecfnpompcaaW.PrintMore
attribute [local go_sem] max2_int min2_int max_two min_two max_three min_three max_four min_four   -- for this text's walks alone
set_option linter.unusedVariables false
set_option linter.unusedSimpArgs false
attribute [local go_sem] wl_100001

mutual
def acmelaw12_has.l0 : Nat → List (S144) → Int → Int → Int → Int → Int → Int → Int → Option (Bool)
 | 0, _, _, _, _, _, _, _, _ => none
 | k + 1, x0, x7, x584000, x584001, x584002, x585000, x585001, x585002 => if x7 ≤ x584002 then (acmelaw12_has.l1 k x0 x7 0 x584000 x584001 x584002 x585000 x585001 x585002) else (some false)
def acmelaw12_has.l1 : Nat → List (S144) → Int → Int → Int → Int → Int → Int → Int → Int → Option (Bool)
 | 0, _, _, _, _, _, _, _, _, _ => none
 | k + 1, x0, x7, x8, x584000, x584001, x584002, x585000, x585001, x585002 => if x8 < (x0.length : Int) then (if 0 ≤ x8 then (if ((rd_T144 x0 x8).f0) = x584000 then (if ((rd_T144 x0 x8).f1) ≤ x7 then (if x7 ≤ ((rd_T144 x0 x8).f2) then (if x585000 = 1 then (if x585002 = ((rd_T144 x0 x8).f3) then (some true) else (if x585000 = 2 then (if x585002 = ((rd_T144 x0 x8).f4) then (some true) else (if x585000 = 3 then (if x585001 = ((rd_T144 x0 x8).f0) then (if x585002 = x7 then (some true) else (acmelaw12_has.l1 k x0 x7 (wrap64 (x8 + 1)) x584000 x584001 x584002 x585000 x585001 x585002)) else (acmelaw12_has.l1 k x0 x7 (wrap64 (x8 + 1)) x584000 x584001 x584002 x585000 x585001 x585002)) else (acmelaw12_has.l1 k x0 x7 (wrap64 (x8 + 1)) x584000 x584001 x584002 x585000 x585001 x585002))) else (if x585000 = 3 then (if x585001 = ((rd_T144 x0 x8).f0) then (if x585002 = x7 then (some true) else (acmelaw12_has.l1 k x0 x7 (wrap64 (x8 + 1)) x584000 x584001 x584002 x585000 x585001 x585002)) else (acmelaw12_has.l1 k x0 x7 (wrap64 (x8 + 1)) x584000 x584001 x584002 x585000 x585001 x585002)) else (acmelaw12_has.l1 k x0 x7 (wrap64 (x8 + 1)) x584000 x584001 x584002 x585000 x585001 x585002)))) else (if x585000 = 2 then (if x585002 = ((rd_T144 x0 x8).f4) then (some true) else (if x585000 = 3 then (if x585001 = ((rd_T144 x0 x8).f0) then (if x585002 = x7 then (some true) else (acmelaw12_has.l1 k x0 x7 (wrap64 (x8 + 1)) x584000 x584001 x584002 x585000 x585001 x585002)) else (acmelaw12_has.l1 k x0 x7 (wrap64 (x8 + 1)) x584000 x584001 x584002 x585000 x585001 x585002)) else (acmelaw12_has.l1 k x0 x7 (wrap64 (x8 + 1)) x584000 x584001 x584002 x585000 x585001 x585002))) else (if x585000 = 3 then (if x585001 = ((rd_T144 x0 x8).f0) then (if x585002 = x7 then (some true) else (acmelaw12_has.l1 k x0 x7 (wrap64 (x8 + 1)) x584000 x584001 x584002 x585000 x585001 x585002)) else (acmelaw12_has.l1 k x0 x7 (wrap64 (x8 + 1)) x584000 x584001 x584002 x585000 x585001 x585002)) else (acmelaw12_has.l1 k x0 x7 (wrap64 (x8 + 1)) x584000 x584001 x584002 x585000 x585001 x585002)))) else (acmelaw12_has.l1 k x0 x7 (wrap64 (x8 + 1)) x584000 x584001 x584002 x585000 x585001 x585002)) else (acmelaw12_has.l1 k x0 x7 (wrap64 (x8 + 1)) x584000 x584001 x584002 x585000 x585001 x585002)) else (acmelaw12_has.l1 k x0 x7 (wrap64 (x8 + 1)) x584000 x584001 x584002 x585000 x585001 x585002)) else (none)) else (acmelaw12_has.l0 k x0 (wrap64 (x7 + 1)) x584000 x584001 x584002 x585000 x585001 x585002)
end
def acmelaw12_has.f (k : Nat) (l0 : List (S144)) (a1_0 : Int) (a1_1 : Int) (a1_2 : Int) (a2_0 : Int) (a2_1 : Int) (a2_2 : Int) : Option (Bool) := acmelaw12_has.l0 k l0 a1_1 a1_0 a1_1 a1_2 a2_0 a2_1 a2_2
set_option maxHeartbeats 8000000 in
set_option maxRecDepth 100000 in
theorem acmelaw12_has.calls (k : Nat) (A0 : Option Addr) (c0 : Nat) (l0 : List (S144)) (a1_0 : Int) (a1_1 : Int) (a1_2 : Int) (a2_0 : Int) (a2_1 : Int) (a2_2 : Int) (r : Bool) (w : World) (hr0 : Kd.C k144 w A0 l0.length l0) (hc0 : l0.length ≤ c0) (h : acmelaw12_has.f k l0 a1_0 a1_1 a1_2 a2_0 a2_1 a2_2 = some r) :
  Calls Try.prog 53 #[.slice A0 l0.length c0, .agg #[.int .i64 a1_0, .int .i64 a1_1, .int .i64 a1_2], .agg #[.int .i64 a2_0, .int .i64 a2_1, .int .i64 a2_2]] w fun e w' => e = .returned (.bool r) ∧ Below w.heap.size w w' := by
 have hu58 := Try.underlying58
 have hu79 := Try.underlying79
 have hu144 := Try.underlying144
 have HR0 := Aside0.mk hr0
 have HC0 := Aside0.mk hc0
 clear hr0 hc0
 have HB := Aside0.mk (Below.refl w.heap.size w)
 have H : (acmelaw12_has.l0 k l0 a1_1 a1_0 a1_1 a1_2 a2_0 a2_1 a2_2) = some r := h
 clear h
 have H' := Aside0.mk H
 clear H
 go_enter Try.func53, Try.ntmps53
 go_wp2_with (first | ((with_reducible refine gate_dst (N := 4) rfl ?_); refine box_event ?hg (N := 4) ?hd (cs := #[.int .i64 a1_0, .int .i64 a1_1, .int .i64 a1_2]) (t := 58) ?hr ?_; (case hd => rfl); (case hg => rfl); (case hr => first | (go_simp; done) | (go_simp; rfl)); intro gb583 hg w4 hbox hb; have BK583 := Aside0.mk (hbox); have GW583 := Aside0.mk ((by rw [hg]; exact (below_size HB.out) : w.heap.size ≤ gb583)); have GE583 := GW583; replace HB := Aside0.mk (below_step HB.out hb); clear hb hbox hg) | ((with_reducible refine gate_dst (N := 5) rfl ?_); refine box_event ?hg (N := 5) ?hd (cs := #[.int .i64 a2_0, .int .i64 a2_1, .int .i64 a2_2]) (t := 79) ?hr ?_; (case hd => rfl); (case hg => rfl); (case hr => first | (go_simp; done) | (go_simp; rfl)); intro gb584 hg w5 hbox hb; have BK584 := Aside0.mk (hbox); have GW584 := Aside0.mk ((by rw [hg]; exact (below_size (by repeat (first | (with_reducible first | exact HB.out | apply below_alloc | apply pw_below_drewN | apply below_drew1 | refine below_set ?_ (Aside0.out (by assumption))) | exact HB.out))) : w.heap.size ≤ gb584)); have GE584 := GW584; replace HB := Aside0.mk (below_step (by repeat (first | (with_reducible first | exact HB.out | apply below_alloc | apply pw_below_drewN | apply below_drew1 | refine below_set ?_ (Aside0.out (by assumption))) | exact HB.out)) hb); have NB583_584 := Aside0.mk ((by rw [hg]; exact Nat.ne_of_lt (blk_lt BK583.out) : gb583 ≠ gb584)); have NB584_583 := Aside0.mk ((by rw [hg]; exact Nat.ne_of_gt (blk_lt BK583.out) : gb584 ≠ gb583)); replace BK583 := Aside0.mk (blk_below (g := gb583) (o := .cells #[.int .i64 a1_0, .int .i64 a1_1, .int .i64 a1_2] 58 (0, 0)) (by repeat (first | (with_reducible first | exact BK583.out | refine blk_drewN ?_ _ | refine blk_drew ?_ | refine blk_alloc ?_ _) | exact BK583.out)) hb); clear hb hbox hg; have hnb6 := NB583_584.out; have hnc6 := NB584_583.out; obtain ⟨hcz7_0, hcz7_1, hcz7_2⟩ := bc3 BK583.out; obtain ⟨hfz7_0, hfz7_1, hfz7_2⟩ := bf3 BK583.out))
 go_loopg [7] k (fun kq v7 w' => ∃ (x7_1 : Int), v7 = .int .i64 x7_1 ∧ Aside0 (acmelaw12_has.l0 kq l0 x7_1 a1_0 a1_1 a1_2 a2_0 a2_1 a2_2 = some r) ∧ Aside0 (kq ≤ k) ∧ Aside0 (w'.heap[gb583]? = some (.cells #[.int .i64 a1_0, .int .i64 a1_1, .int .i64 a1_2] 58 (0, 0))) ∧ Aside0 (w'.heap[gb584]? = some (.cells #[.int .i64 a2_0, .int .i64 a2_1, .int .i64 a2_2] 79 (0, 0))) ∧ Aside0 (Below w.heap.size w w'))
 case atStart => exact ⟨(a1_1), (by first | rfl | (simp; done) | (simp [*]; done)), H', ⟨Nat.le_refl _⟩, BK583, BK584, ⟨by repeat (first | (with_reducible first | exact HB.out | apply below_alloc | apply pw_below_drewN | apply below_drew1 | refine below_set ?_ (Aside0.out (by assumption))) | exact HB.out)⟩⟩
 case round =>
  clear H'
  try clear p2; try clear c5; try clear c6; try clear hcz7_0; try clear hcz7_1; try clear hcz7_2; try clear hfz7_0; try clear hfz7_1; try clear hfz7_2
  obtain ⟨x7_1, rfl, HA, HK1, BK583, BK584, HB⟩ := hrel
  cases gk with
  | zero => exact absurd HA.out (by simp [acmelaw12_has.l0])
  | succ k1 =>
   have H := HA.out
   clear HA
   simp only [acmelaw12_has.l0] at H
   by_cases c8 : x7_1 ≤ a1_2
   ·rw [if_pos c8] at H
    have c8b0 : decide (x7_1 ≤ a1_2) = true := decide_eq_true c8
    clear c8
    have H' := Aside0.mk H
    clear H
    have hnb9 := NB583_584.out
    have hnc9 := NB584_583.out
    obtain ⟨hcz10_0, hcz10_1, hcz10_2⟩ := bc3 BK583.out
    obtain ⟨hfz10_0, hfz10_1, hfz10_2⟩ := bf3 BK583.out
    go_wp2
    go_loopg [8] k1 (fun kq v8 w' => ∃ (x8_2 : Int), v8 = .int .i64 x8_2 ∧ Aside0 (acmelaw12_has.l1 kq l0 x7_1 x8_2 a1_0 a1_1 a1_2 a2_0 a2_1 a2_2 = some r) ∧ Aside0 (kq ≤ k1) ∧ Aside0 (w'.heap[gb583]? = some (.cells #[.int .i64 a1_0, .int .i64 a1_1, .int .i64 a1_2] 58 (0, 0))) ∧ Aside0 (w'.heap[gb584]? = some (.cells #[.int .i64 a2_0, .int .i64 a2_1, .int .i64 a2_2] 79 (0, 0))) ∧ Aside0 (Below w.heap.size w w'))
    case atStart => exact ⟨(0), (by first | rfl | (simp; done) | (simp [*]; done)), H', ⟨Nat.le_refl _⟩, BK583, BK584, ⟨by repeat (first | (with_reducible first | exact HB.out | apply below_alloc | apply pw_below_drewN | apply below_drew1 | refine below_set ?_ (Aside0.out (by assumption))) | exact HB.out)⟩⟩
    case round =>
     clear H'
     try clear p2; try clear c5; try clear c6; try clear c8; try clear c8b0; try clear c9; try clear hcz10_0; try clear hcz10_1; try clear hcz10_2; try clear hcz7_0; try clear hcz7_1; try clear hcz7_2; try clear hfz10_0; try clear hfz10_1; try clear hfz10_2; try clear hfz7_0; try clear hfz7_1; try clear hfz7_2; try clear p2
     obtain ⟨x8_2, rfl, HA, HK2, BK583, BK584, HB⟩ := hrel
     cases gk with
     | zero => exact absurd HA.out (by simp [acmelaw12_has.l1])
     | succ k2 =>
      have H := HA.out
      clear HA
      simp only [acmelaw12_has.l1] at H
      by_cases c11 : x8_2 < (l0.length : Int)
      ·rw [if_pos c11] at H
       have c11b0 : decide (x8_2 < (l0.length : Int)) = true := decide_eq_true c11
       clear c11
       by_cases c12 : 0 ≤ x8_2
       ·rw [if_pos c12] at H
        have c12b0 : decide (0 ≤ x8_2) = true := decide_eq_true c12
        clear c12
        by_cases c13 : ((rd_T144 l0 x8_2).f0) = a1_0
        ·rw [if_pos c13] at H
         have c13b0 : (((rd_T144 l0 x8_2).f0) == a1_0) = true := beq_iff_eq.mpr c13
         have c13b1 : (((rd_T144 l0 x8_2).f0) != a1_0) = false := bne_eq_false_iff_eq.mpr c13
         clear c13
         by_cases c14 : ((rd_T144 l0 x8_2).f1) ≤ x7_1
         ·rw [if_pos c14] at H
          have c14b0 : decide (((rd_T144 l0 x8_2).f1) ≤ x7_1) = true := decide_eq_true c14
          clear c14
          by_cases c15 : x7_1 ≤ ((rd_T144 l0 x8_2).f2)
          ·rw [if_pos c15] at H
           have c15b0 : decide (x7_1 ≤ ((rd_T144 l0 x8_2).f2)) = true := decide_eq_true c15
           clear c15
           by_cases c16 : a2_0 = 1
           ·rw [if_pos c16] at H
            have c16b0 : (a2_0 == 1) = true := beq_iff_eq.mpr c16
            have c16b1 : (a2_0 != 1) = false := bne_eq_false_iff_eq.mpr c16
            clear c16
            by_cases c17 : a2_2 = ((rd_T144 l0 x8_2).f3)
            ·rw [if_pos c17] at H
             have c17b0 : (a2_2 == ((rd_T144 l0 x8_2).f3)) = true := beq_iff_eq.mpr c17
             have c17b1 : (a2_2 != ((rd_T144 l0 x8_2).f3)) = false := bne_eq_false_iff_eq.mpr c17
             clear c17
             obtain rfl := Option.some.inj H
             have p585 : 0 ≤ (x8_2 : Int) := of_decide_eq_true ‹_›
             have q585 : x8_2 < (l0.length : Int) := of_decide_eq_true ‹_›
             obtain ⟨ad585, e585, hx585_0, hx585_1, hx585_2, hx585_3, hx585_4⟩ := at_T144 HR0.out x8_2 p585 q585
             cases e585
             replace hx585_0 := bl_ HB hx585_0
             replace hx585_1 := bl_ HB hx585_1
             replace hx585_2 := bl_ HB hx585_2
             replace hx585_3 := bl_ HB hx585_3
             replace hx585_4 := bl_ HB hx585_4
             replace p585 := eq_true p585
             replace q585 := eq_true q585
             go_wp2_with (first | ((with_reducible refine gate_dst (N := 9) rfl ?_); refine box_event ?hg (N := 9) ?hd (cs := #[.int .i64 0, .int .i64 0, .int .i64 0, .int .i64 0, .int .i64 0]) (t := 144) ?hr ?_; (case hd => rfl); (case hg => rfl); (case hr => first | (go_simp; done) | (go_simp; rfl)); intro gb586 hg w18 hbox hb; have BK586 := Aside0.mk (hbox); have GW586 := Aside0.mk ((by rw [hg]; exact (below_size (by repeat (first | (with_reducible first | exact HB.out | apply below_alloc | apply pw_below_drewN | apply below_drew1 | refine below_set ?_ (Aside0.out (by assumption))) | exact HB.out))) : w.heap.size ≤ gb586)); have GE586 := GW586; replace HB := Aside0.mk (below_step (by repeat (first | (with_reducible first | exact HB.out | apply below_alloc | apply pw_below_drewN | apply below_drew1 | refine below_set ?_ (Aside0.out (by assumption))) | exact HB.out)) hb); have NB583_586 := Aside0.mk ((by rw [hg]; exact Nat.ne_of_lt (blk_lt BK583.out) : gb583 ≠ gb586)); have NB586_583 := Aside0.mk ((by rw [hg]; exact Nat.ne_of_gt (blk_lt BK583.out) : gb586 ≠ gb583)); replace BK583 := Aside0.mk (blk_below (g := gb583) (o := .cells #[.int .i64 a1_0, .int .i64 a1_1, .int .i64 a1_2] 58 (0, 0)) (by repeat (first | (with_reducible first | exact BK583.out | refine blk_drewN ?_ _ | refine blk_drew ?_ | refine blk_alloc ?_ _) | exact BK583.out)) hb); have NB584_586 := Aside0.mk ((by rw [hg]; exact Nat.ne_of_lt (blk_lt BK584.out) : gb584 ≠ gb586)); have NB586_584 := Aside0.mk ((by rw [hg]; exact Nat.ne_of_gt (blk_lt BK584.out) : gb586 ≠ gb584)); replace BK584 := Aside0.mk (blk_below (g := gb584) (o := .cells #[.int .i64 a2_0, .int .i64 a2_1, .int .i64 a2_2] 79 (0, 0)) (by repeat (first | (with_reducible first | exact BK584.out | refine blk_drewN ?_ _ | refine blk_drew ?_ | refine blk_alloc ?_ _) | exact BK584.out)) hb); clear hb hbox hg; have hnb19 := NB586_583.out; have hnc19 := NB583_586.out; have hnb20 := NB586_584.out; have hnc20 := NB584_586.out; obtain ⟨hcz21_0, hcz21_1, hcz21_2, hcz21_3, hcz21_4⟩ := bc5 BK586.out; obtain ⟨hfz21_0, hfz21_1, hfz21_2, hfz21_3, hfz21_4⟩ := bf5 BK586.out; have hnb22 := NB583_584.out; have hnc22 := NB584_583.out; obtain ⟨hcz23_0, hcz23_1, hcz23_2⟩ := bc3 BK583.out; obtain ⟨hfz23_0, hfz23_1, hfz23_2⟩ := bf3 BK583.out; obtain ⟨hcz24_0, hcz24_1, hcz24_2⟩ := bc3 BK584.out; obtain ⟨hfz24_0, hfz24_1, hfz24_2⟩ := bf3 BK584.out))
             go_ret
             exact ⟨by first | rfl | (simp [errW_none, errW_some] <;> rfl) | (simp [*, errW_none, errW_some] <;> rfl), by repeat (first | (with_reducible first | exact HB.out | apply below_alloc | apply pw_below_drewN | apply below_drew1 | refine below_set ?_ (Aside0.out (by assumption))) | exact HB.out)⟩
            ·rw [if_neg c17] at H
             have c17b0 : (a2_2 == ((rd_T144 l0 x8_2).f3)) = false := beq_eq_false_iff_ne.mpr c17
             have c17b1 : (a2_2 != ((rd_T144 l0 x8_2).f3)) = true := bne_iff_ne.mpr c17
             by_cases c25 : a2_0 = 2
             ·rw [if_pos c25] at H
              have c25b0 : (a2_0 == 2) = true := beq_iff_eq.mpr c25
              have c25b1 : (a2_0 != 2) = false := bne_eq_false_iff_eq.mpr c25
              clear c25
              by_cases c26 : a2_2 = ((rd_T144 l0 x8_2).f4)
              ·rw [if_pos c26] at H
               have c26b0 : (a2_2 == ((rd_T144 l0 x8_2).f4)) = true := beq_iff_eq.mpr c26
               have c26b1 : (a2_2 != ((rd_T144 l0 x8_2).f4)) = false := bne_eq_false_iff_eq.mpr c26
               clear c26
               obtain rfl := Option.some.inj H
               have p585 : 0 ≤ (x8_2 : Int) := of_decide_eq_true ‹_›
               have q585 : x8_2 < (l0.length : Int) := of_decide_eq_true ‹_›
               obtain ⟨ad585, e585, hx585_0, hx585_1, hx585_2, hx585_3, hx585_4⟩ := at_T144 HR0.out x8_2 p585 q585
               cases e585
               replace hx585_0 := bl_ HB hx585_0
               replace hx585_1 := bl_ HB hx585_1
               replace hx585_2 := bl_ HB hx585_2
               replace hx585_3 := bl_ HB hx585_3
               replace hx585_4 := bl_ HB hx585_4
               replace p585 := eq_true p585
               replace q585 := eq_true q585
               go_wp2_with (first | ((with_reducible refine gate_dst (N := 9) rfl ?_); refine box_event ?hg (N := 9) ?hd (cs := #[.int .i64 0, .int .i64 0, .int .i64 0, .int .i64 0, .int .i64 0]) (t := 144) ?hr ?_; (case hd => rfl); (case hg => rfl); (case hr => first | (go_simp; done) | (go_simp; rfl)); intro gb586 hg w27 hbox hb; have BK586 := Aside0.mk (hbox); have GW586 := Aside0.mk ((by rw [hg]; exact (below_size (by repeat (first | (with_reducible first | exact HB.out | apply below_alloc | apply pw_below_drewN | apply below_drew1 | refine below_set ?_ (Aside0.out (by assumption))) | exact HB.out))) : w.heap.size ≤ gb586)); have GE586 := GW586; replace HB := Aside0.mk (below_step (by repeat (first | (with_reducible first | exact HB.out | apply below_alloc | apply pw_below_drewN | apply below_drew1 | refine below_set ?_ (Aside0.out (by assumption))) | exact HB.out)) hb); have NB583_586 := Aside0.mk ((by rw [hg]; exact Nat.ne_of_lt (blk_lt BK583.out) : gb583 ≠ gb586)); have NB586_583 := Aside0.mk ((by rw [hg]; exact Nat.ne_of_gt (blk_lt BK583.out) : gb586 ≠ gb583)); replace BK583 := Aside0.mk (blk_below (g := gb583) (o := .cells #[.int .i64 a1_0, .int .i64 a1_1, .int .i64 a1_2] 58 (0, 0)) (by repeat (first | (with_reducible first | exact BK583.out | refine blk_drewN ?_ _ | refine blk_drew ?_ | refine blk_alloc ?_ _) | exact BK583.out)) hb); have NB584_586 := Aside0.mk ((by rw [hg]; exact Nat.ne_of_lt (blk_lt BK584.out) : gb584 ≠ gb586)); have NB586_584 := Aside0.mk ((by rw [hg]; exact Nat.ne_of_gt (blk_lt BK584.out) : gb586 ≠ gb584)); replace BK584 := Aside0.mk (blk_below (g := gb584) (o := .cells #[.int .i64 a2_0, .int .i64 a2_1, .int .i64 a2_2] 79 (0, 0)) (by repeat (first | (with_reducible first | exact BK584.out | refine blk_drewN ?_ _ | refine blk_drew ?_ | refine blk_alloc ?_ _) | exact BK584.out)) hb); clear hb hbox hg; have hnb28 := NB586_583.out; have hnc28 := NB583_586.out; have hnb29 := NB586_584.out; have hnc29 := NB584_586.out; obtain ⟨hcz30_0, hcz30_1, hcz30_2, hcz30_3, hcz30_4⟩ := bc5 BK586.out; obtain ⟨hfz30_0, hfz30_1, hfz30_2, hfz30_3, hfz30_4⟩ := bf5 BK586.out; have hnb31 := NB583_584.out; have hnc31 := NB584_583.out; obtain ⟨hcz32_0, hcz32_1, hcz32_2⟩ := bc3 BK583.out; obtain ⟨hfz32_0, hfz32_1, hfz32_2⟩ := bf3 BK583.out; obtain ⟨hcz33_0, hcz33_1, hcz33_2⟩ := bc3 BK584.out; obtain ⟨hfz33_0, hfz33_1, hfz33_2⟩ := bf3 BK584.out))
               go_ret
               exact ⟨by first | rfl | (simp [errW_none, errW_some] <;> rfl) | (simp [*, errW_none, errW_some] <;> rfl), by repeat (first | (with_reducible first | exact HB.out | apply below_alloc | apply pw_below_drewN | apply below_drew1 | refine below_set ?_ (Aside0.out (by assumption))) | exact HB.out)⟩
              ·rw [if_neg c26] at H
               have c26b0 : (a2_2 == ((rd_T144 l0 x8_2).f4)) = false := beq_eq_false_iff_ne.mpr c26
               have c26b1 : (a2_2 != ((rd_T144 l0 x8_2).f4)) = true := bne_iff_ne.mpr c26
               by_cases c34 : a2_0 = 3
               ·rw [if_pos c34] at H
                have c34b0 : (a2_0 == 3) = true := beq_iff_eq.mpr c34
                have c34b1 : (a2_0 != 3) = false := bne_eq_false_iff_eq.mpr c34
                clear c34
                by_cases c35 : a2_1 = ((rd_T144 l0 x8_2).f0)
                ·rw [if_pos c35] at H
                 have c35b0 : (a2_1 == ((rd_T144 l0 x8_2).f0)) = true := beq_iff_eq.mpr c35
                 have c35b1 : (a2_1 != ((rd_T144 l0 x8_2).f0)) = false := bne_eq_false_iff_eq.mpr c35
                 clear c35
                 by_cases c36 : a2_2 = x7_1
                 ·rw [if_pos c36] at H
                  have c36b0 : (a2_2 == x7_1) = true := beq_iff_eq.mpr c36
                  have c36b1 : (a2_2 != x7_1) = false := bne_eq_false_iff_eq.mpr c36
                  clear c36
                  obtain rfl := Option.some.inj H
                  have p585 : 0 ≤ (x8_2 : Int) := of_decide_eq_true ‹_›
                  have q585 : x8_2 < (l0.length : Int) := of_decide_eq_true ‹_›
                  obtain ⟨ad585, e585, hx585_0, hx585_1, hx585_2, hx585_3, hx585_4⟩ := at_T144 HR0.out x8_2 p585 q585
                  cases e585
                  replace hx585_0 := bl_ HB hx585_0
                  replace hx585_1 := bl_ HB hx585_1
                  replace hx585_2 := bl_ HB hx585_2
                  replace hx585_3 := bl_ HB hx585_3
                  replace hx585_4 := bl_ HB hx585_4
                  replace p585 := eq_true p585
                  replace q585 := eq_true q585
                  go_wp2_with (first | ((with_reducible refine gate_dst (N := 9) rfl ?_); refine box_event ?hg (N := 9) ?hd (cs := #[.int .i64 0, .int .i64 0, .int .i64 0, .int .i64 0, .int .i64 0]) (t := 144) ?hr ?_; (case hd => rfl); (case hg => rfl); (case hr => first | (go_simp; done) | (go_simp; rfl)); intro gb586 hg w37 hbox hb; have BK586 := Aside0.mk (hbox); have GW586 := Aside0.mk ((by rw [hg]; exact (below_size (by repeat (first | (with_reducible first | exact HB.out | apply below_alloc | apply pw_below_drewN | apply below_drew1 | refine below_set ?_ (Aside0.out (by assumption))) | exact HB.out))) : w.heap.size ≤ gb586)); have GE586 := GW586; replace HB := Aside0.mk (below_step (by repeat (first | (with_reducible first | exact HB.out | apply below_alloc | apply pw_below_drewN | apply below_drew1 | refine below_set ?_ (Aside0.out (by assumption))) | exact HB.out)) hb); have NB583_586 := Aside0.mk ((by rw [hg]; exact Nat.ne_of_lt (blk_lt BK583.out) : gb583 ≠ gb586)); have NB586_583 := Aside0.mk ((by rw [hg]; exact Nat.ne_of_gt (blk_lt BK583.out) : gb586 ≠ gb583)); replace BK583 := Aside0.mk (blk_below (g := gb583) (o := .cells #[.int .i64 a1_0, .int .i64 a1_1, .int .i64 a1_2] 58 (0, 0)) (by repeat (first | (with_reducible first | exact BK583.out | refine blk_drewN ?_ _ | refine blk_drew ?_ | refine blk_alloc ?_ _) | exact BK583.out)) hb); have NB584_586 := Aside0.mk ((by rw [hg]; exact Nat.ne_of_lt (blk_lt BK584.out) : gb584 ≠ gb586)); have NB586_584 := Aside0.mk ((by rw [hg]; exact Nat.ne_of_gt (blk_lt BK584.out) : gb586 ≠ gb584)); replace BK584 := Aside0.mk (blk_below (g := gb584) (o := .cells #[.int .i64 a2_0, .int .i64 a2_1, .int .i64 a2_2] 79 (0, 0)) (by repeat (first | (with_reducible first | exact BK584.out | refine blk_drewN ?_ _ | refine blk_drew ?_ | refine blk_alloc ?_ _) | exact BK584.out)) hb); clear hb hbox hg; have hnb38 := NB586_583.out; have hnc38 := NB583_586.out; have hnb39 := NB586_584.out; have hnc39 := NB584_586.out; obtain ⟨hcz40_0, hcz40_1, hcz40_2, hcz40_3, hcz40_4⟩ := bc5 BK586.out; obtain ⟨hfz40_0, hfz40_1, hfz40_2, hfz40_3, hfz40_4⟩ := bf5 BK586.out; have hnb41 := NB583_584.out; have hnc41 := NB584_583.out; obtain ⟨hcz42_0, hcz42_1, hcz42_2⟩ := bc3 BK583.out; obtain ⟨hfz42_0, hfz42_1, hfz42_2⟩ := bf3 BK583.out; obtain ⟨hcz43_0, hcz43_1, hcz43_2⟩ := bc3 BK584.out; obtain ⟨hfz43_0, hfz43_1, hfz43_2⟩ := bf3 BK584.out))
                  go_ret
                  exact ⟨by first | rfl | (simp [errW_none, errW_some] <;> rfl) | (simp [*, errW_none, errW_some] <;> rfl), by repeat (first | (with_reducible first | exact HB.out | apply below_alloc | apply pw_below_drewN | apply below_drew1 | refine below_set ?_ (Aside0.out (by assumption))) | exact HB.out)⟩
                 ·rw [if_neg c36] at H
                  have c36b0 : (a2_2 == x7_1) = false := beq_eq_false_iff_ne.mpr c36
                  have c36b1 : (a2_2 != x7_1) = true := bne_iff_ne.mpr c36
                  have H' := Aside0.mk H
                  clear H
                  have p585 : 0 ≤ (x8_2 : Int) := of_decide_eq_true ‹_›
                  have q585 : x8_2 < (l0.length : Int) := of_decide_eq_true ‹_›
                  obtain ⟨ad585, e585, hx585_0, hx585_1, hx585_2, hx585_3, hx585_4⟩ := at_T144 HR0.out x8_2 p585 q585
                  cases e585
                  replace hx585_0 := bl_ HB hx585_0
                  replace hx585_1 := bl_ HB hx585_1
                  replace hx585_2 := bl_ HB hx585_2
                  replace hx585_3 := bl_ HB hx585_3
                  replace hx585_4 := bl_ HB hx585_4
                  replace p585 := eq_true p585
                  replace q585 := eq_true q585
                  go_wp2_with (first | ((with_reducible refine gate_dst (N := 9) rfl ?_); refine box_event ?hg (N := 9) ?hd (cs := #[.int .i64 0, .int .i64 0, .int .i64 0, .int .i64 0, .int .i64 0]) (t := 144) ?hr ?_; (case hd => rfl); (case hg => rfl); (case hr => first | (go_simp; done) | (go_simp; rfl)); intro gb586 hg w44 hbox hb; have BK586 := Aside0.mk (hbox); have GW586 := Aside0.mk ((by rw [hg]; exact (below_size (by repeat (first | (with_reducible first | exact HB.out | apply below_alloc | apply pw_below_drewN | apply below_drew1 | refine below_set ?_ (Aside0.out (by assumption))) | exact HB.out))) : w.heap.size ≤ gb586)); have GE586 := GW586; replace HB := Aside0.mk (below_step (by repeat (first | (with_reducible first | exact HB.out | apply below_alloc | apply pw_below_drewN | apply below_drew1 | refine below_set ?_ (Aside0.out (by assumption))) | exact HB.out)) hb); have NB583_586 := Aside0.mk ((by rw [hg]; exact Nat.ne_of_lt (blk_lt BK583.out) : gb583 ≠ gb586)); have NB586_583 := Aside0.mk ((by rw [hg]; exact Nat.ne_of_gt (blk_lt BK583.out) : gb586 ≠ gb583)); replace BK583 := Aside0.mk (blk_below (g := gb583) (o := .cells #[.int .i64 a1_0, .int .i64 a1_1, .int .i64 a1_2] 58 (0, 0)) (by repeat (first | (with_reducible first | exact BK583.out | refine blk_drewN ?_ _ | refine blk_drew ?_ | refine blk_alloc ?_ _) | exact BK583.out)) hb); have NB584_586 := Aside0.mk ((by rw [hg]; exact Nat.ne_of_lt (blk_lt BK584.out) : gb584 ≠ gb586)); have NB586_584 := Aside0.mk ((by rw [hg]; exact Nat.ne_of_gt (blk_lt BK584.out) : gb586 ≠ gb584)); replace BK584 := Aside0.mk (blk_below (g := gb584) (o := .cells #[.int .i64 a2_0, .int .i64 a2_1, .int .i64 a2_2] 79 (0, 0)) (by repeat (first | (with_reducible first | exact BK584.out | refine blk_drewN ?_ _ | refine blk_drew ?_ | refine blk_alloc ?_ _) | exact BK584.out)) hb); clear hb hbox hg; have hnb45 := NB586_583.out; have hnc45 := NB583_586.out; have hnb46 := NB586_584.out; have hnc46 := NB584_586.out; obtain ⟨hcz47_0, hcz47_1, hcz47_2, hcz47_3, hcz47_4⟩ := bc5 BK586.out; obtain ⟨hfz47_0, hfz47_1, hfz47_2, hfz47_3, hfz47_4⟩ := bf5 BK586.out; have hnb48 := NB583_584.out; have hnc48 := NB584_583.out; obtain ⟨hcz49_0, hcz49_1, hcz49_2⟩ := bc3 BK583.out; obtain ⟨hfz49_0, hfz49_1, hfz49_2⟩ := bf3 BK583.out; obtain ⟨hcz50_0, hcz50_1, hcz50_2⟩ := bc3 BK584.out; obtain ⟨hfz50_0, hfz50_1, hfz50_2⟩ := bf3 BK584.out))
                  go_roundg k2
                  case measure => have := HK1.out; have := HK2.out; omega
                  case rel => exact ⟨(wrap64 (x8_2 + 1)), (by first | rfl | (simp; done) | (simp [*]; done)), H', ⟨by have := HK1.out; have := HK2.out; omega⟩, ⟨by repeat (first | (with_reducible first | exact BK583.out | refine blk_drewN ?_ _ | refine blk_drew ?_ | refine blk_alloc ?_ _) | refine blk_far ?_ NB583_586.out _ | exact BK583.out)⟩, ⟨by repeat (first | (with_reducible first | exact BK584.out | refine blk_drewN ?_ _ | refine blk_drew ?_ | refine blk_alloc ?_ _) | refine blk_far ?_ NB584_586.out _ | exact BK584.out)⟩, ⟨by repeat (first | (with_reducible first | exact HB.out | apply below_alloc | apply pw_below_drewN | apply below_drew1 | refine below_set ?_ (Aside0.out (by assumption))) | exact HB.out)⟩⟩
                ·rw [if_neg c35] at H
                 have c35b0 : (a2_1 == ((rd_T144 l0 x8_2).f0)) = false := beq_eq_false_iff_ne.mpr c35
                 have c35b1 : (a2_1 != ((rd_T144 l0 x8_2).f0)) = true := bne_iff_ne.mpr c35
                 have H' := Aside0.mk H
                 clear H
                 have p585 : 0 ≤ (x8_2 : Int) := of_decide_eq_true ‹_›
                 have q585 : x8_2 < (l0.length : Int) := of_decide_eq_true ‹_›
                 obtain ⟨ad585, e585, hx585_0, hx585_1, hx585_2, hx585_3, hx585_4⟩ := at_T144 HR0.out x8_2 p585 q585
                 cases e585
                 replace hx585_0 := bl_ HB hx585_0
                 replace hx585_1 := bl_ HB hx585_1
                 replace hx585_2 := bl_ HB hx585_2
                 replace hx585_3 := bl_ HB hx585_3
                 replace hx585_4 := bl_ HB hx585_4
                 replace p585 := eq_true p585
                 replace q585 := eq_true q585
                 go_wp2_with (first | ((with_reducible refine gate_dst (N := 9) rfl ?_); refine box_event ?hg (N := 9) ?hd (cs := #[.int .i64 0, .int .i64 0, .int .i64 0, .int .i64 0, .int .i64 0]) (t := 144) ?hr ?_; (case hd => rfl); (case hg => rfl); (case hr => first | (go_simp; done) | (go_simp; rfl)); intro gb586 hg w51 hbox hb; have BK586 := Aside0.mk (hbox); have GW586 := Aside0.mk ((by rw [hg]; exact (below_size (by repeat (first | (with_reducible first | exact HB.out | apply below_alloc | apply pw_below_drewN | apply below_drew1 | refine below_set ?_ (Aside0.out (by assumption))) | exact HB.out))) : w.heap.size ≤ gb586)); have GE586 := GW586; replace HB := Aside0.mk (below_step (by repeat (first | (with_reducible first | exact HB.out | apply below_alloc | apply pw_below_drewN | apply below_drew1 | refine below_set ?_ (Aside0.out (by assumption))) | exact HB.out)) hb); have NB583_586 := Aside0.mk ((by rw [hg]; exact Nat.ne_of_lt (blk_lt BK583.out) : gb583 ≠ gb586)); have NB586_583 := Aside0.mk ((by rw [hg]; exact Nat.ne_of_gt (blk_lt BK583.out) : gb586 ≠ gb583)); replace BK583 := Aside0.mk (blk_below (g := gb583) (o := .cells #[.int .i64 a1_0, .int .i64 a1_1, .int .i64 a1_2] 58 (0, 0)) (by repeat (first | (with_reducible first | exact BK583.out | refine blk_drewN ?_ _ | refine blk_drew ?_ | refine blk_alloc ?_ _) | exact BK583.out)) hb); have NB584_586 := Aside0.mk ((by rw [hg]; exact Nat.ne_of_lt (blk_lt BK584.out) : gb584 ≠ gb586)); have NB586_584 := Aside0.mk ((by rw [hg]; exact Nat.ne_of_gt (blk_lt BK584.out) : gb586 ≠ gb584)); replace BK584 := Aside0.mk (blk_below (g := gb584) (o := .cells #[.int .i64 a2_0, .int .i64 a2_1, .int .i64 a2_2] 79 (0, 0)) (by repeat (first | (with_reducible first | exact BK584.out | refine blk_drewN ?_ _ | refine blk_drew ?_ | refine blk_alloc ?_ _) | exact BK584.out)) hb); clear hb hbox hg; have hnb52 := NB586_583.out; have hnc52 := NB583_586.out; have hnb53 := NB586_584.out; have hnc53 := NB584_586.out; obtain ⟨hcz54_0, hcz54_1, hcz54_2, hcz54_3, hcz54_4⟩ := bc5 BK586.out; obtain ⟨hfz54_0, hfz54_1, hfz54_2, hfz54_3, hfz54_4⟩ := bf5 BK586.out; have hnb55 := NB583_584.out; have hnc55 := NB584_583.out; obtain ⟨hcz56_0, hcz56_1, hcz56_2⟩ := bc3 BK583.out; obtain ⟨hfz56_0, hfz56_1, hfz56_2⟩ := bf3 BK583.out; obtain ⟨hcz57_0, hcz57_1, hcz57_2⟩ := bc3 BK584.out; obtain ⟨hfz57_0, hfz57_1, hfz57_2⟩ := bf3 BK584.out))
                 go_roundg k2
                 case measure => have := HK1.out; have := HK2.out; omega
                 case rel => exact ⟨(wrap64 (x8_2 + 1)), (by first | rfl | (simp; done) | (simp [*]; done)), H', ⟨by have := HK1.out; have := HK2.out; omega⟩, ⟨by repeat (first | (with_reducible first | exact BK583.out | refine blk_drewN ?_ _ | refine blk_drew ?_ | refine blk_alloc ?_ _) | refine blk_far ?_ NB583_586.out _ | exact BK583.out)⟩, ⟨by repeat (first | (with_reducible first | exact BK584.out | refine blk_drewN ?_ _ | refine blk_drew ?_ | refine blk_alloc ?_ _) | refine blk_far ?_ NB584_586.out _ | exact BK584.out)⟩, ⟨by repeat (first | (with_reducible first | exact HB.out | apply below_alloc | apply pw_below_drewN | apply below_drew1 | refine below_set ?_ (Aside0.out (by assumption))) | exact HB.out)⟩⟩
               ·rw [if_neg c34] at H
                have c34b0 : (a2_0 == 3) = false := beq_eq_false_iff_ne.mpr c34
                have c34b1 : (a2_0 != 3) = true := bne_iff_ne.mpr c34
                have H' := Aside0.mk H
                clear H
                have p585 : 0 ≤ (x8_2 : Int) := of_decide_eq_true ‹_›
                have q585 : x8_2 < (l0.length : Int) := of_decide_eq_true ‹_›
                obtain ⟨ad585, e585, hx585_0, hx585_1, hx585_2, hx585_3, hx585_4⟩ := at_T144 HR0.out x8_2 p585 q585
                cases e585
                replace hx585_0 := bl_ HB hx585_0
                replace hx585_1 := bl_ HB hx585_1
                replace hx585_2 := bl_ HB hx585_2
                replace hx585_3 := bl_ HB hx585_3
                replace hx585_4 := bl_ HB hx585_4
                replace p585 := eq_true p585
                replace q585 := eq_true q585
                go_wp2_with (first | ((with_reducible refine gate_dst (N := 9) rfl ?_); refine box_event ?hg (N := 9) ?hd (cs := #[.int .i64 0, .int .i64 0, .int .i64 0, .int .i64 0, .int .i64 0]) (t := 144) ?hr ?_; (case hd => rfl); (case hg => rfl); (case hr => first | (go_simp; done) | (go_simp; rfl)); intro gb586 hg w58 hbox hb; have BK586 := Aside0.mk (hbox); have GW586 := Aside0.mk ((by rw [hg]; exact (below_size (by repeat (first | (with_reducible first | exact HB.out | apply below_alloc | apply pw_below_drewN | apply below_drew1 | refine below_set ?_ (Aside0.out (by assumption))) | exact HB.out))) : w.heap.size ≤ gb586)); have GE586 := GW586; replace HB := Aside0.mk (below_step (by repeat (first | (with_reducible first | exact HB.out | apply below_alloc | apply pw_below_drewN | apply below_drew1 | refine below_set ?_ (Aside0.out (by assumption))) | exact HB.out)) hb); have NB583_586 := Aside0.mk ((by rw [hg]; exact Nat.ne_of_lt (blk_lt BK583.out) : gb583 ≠ gb586)); have NB586_583 := Aside0.mk ((by rw [hg]; exact Nat.ne_of_gt (blk_lt BK583.out) : gb586 ≠ gb583)); replace BK583 := Aside0.mk (blk_below (g := gb583) (o := .cells #[.int .i64 a1_0, .int .i64 a1_1, .int .i64 a1_2] 58 (0, 0)) (by repeat (first | (with_reducible first | exact BK583.out | refine blk_drewN ?_ _ | refine blk_drew ?_ | refine blk_alloc ?_ _) | exact BK583.out)) hb); have NB584_586 := Aside0.mk ((by rw [hg]; exact Nat.ne_of_lt (blk_lt BK584.out) : gb584 ≠ gb586)); have NB586_584 := Aside0.mk ((by rw [hg]; exact Nat.ne_of_gt (blk_lt BK584.out) : gb586 ≠ gb584)); replace BK584 := Aside0.mk (blk_below (g := gb584) (o := .cells #[.int .i64 a2_0, .int .i64 a2_1, .int .i64 a2_2] 79 (0, 0)) (by repeat (first | (with_reducible first | exact BK584.out | refine blk_drewN ?_ _ | refine blk_drew ?_ | refine blk_alloc ?_ _) | exact BK584.out)) hb); clear hb hbox hg; have hnb59 := NB586_583.out; have hnc59 := NB583_586.out; have hnb60 := NB586_584.out; have hnc60 := NB584_586.out; obtain ⟨hcz61_0, hcz61_1, hcz61_2, hcz61_3, hcz61_4⟩ := bc5 BK586.out; obtain ⟨hfz61_0, hfz61_1, hfz61_2, hfz61_3, hfz61_4⟩ := bf5 BK586.out; have hnb62 := NB583_584.out; have hnc62 := NB584_583.out; obtain ⟨hcz63_0, hcz63_1, hcz63_2⟩ := bc3 BK583.out; obtain ⟨hfz63_0, hfz63_1, hfz63_2⟩ := bf3 BK583.out; obtain ⟨hcz64_0, hcz64_1, hcz64_2⟩ := bc3 BK584.out; obtain ⟨hfz64_0, hfz64_1, hfz64_2⟩ := bf3 BK584.out))
                go_roundg k2
                case measure => have := HK1.out; have := HK2.out; omega
                case rel => exact ⟨(wrap64 (x8_2 + 1)), (by first | rfl | (simp; done) | (simp [*]; done)), H', ⟨by have := HK1.out; have := HK2.out; omega⟩, ⟨by repeat (first | (with_reducible first | exact BK583.out | refine blk_drewN ?_ _ | refine blk_drew ?_ | refine blk_alloc ?_ _) | refine blk_far ?_ NB583_586.out _ | exact BK583.out)⟩, ⟨by repeat (first | (with_reducible first | exact BK584.out | refine blk_drewN ?_ _ | refine blk_drew ?_ | refine blk_alloc ?_ _) | refine blk_far ?_ NB584_586.out _ | exact BK584.out)⟩, ⟨by repeat (first | (with_reducible first | exact HB.out | apply below_alloc | apply pw_below_drewN | apply below_drew1 | refine below_set ?_ (Aside0.out (by assumption))) | exact HB.out)⟩⟩
             ·rw [if_neg c25] at H
              have c25b0 : (a2_0 == 2) = false := beq_eq_false_iff_ne.mpr c25
              have c25b1 : (a2_0 != 2) = true := bne_iff_ne.mpr c25
              by_cases c65 : a2_0 = 3
              ·rw [if_pos c65] at H
               have c65b0 : (a2_0 == 3) = true := beq_iff_eq.mpr c65
               have c65b1 : (a2_0 != 3) = false := bne_eq_false_iff_eq.mpr c65
               clear c65
               by_cases c66 : a2_1 = ((rd_T144 l0 x8_2).f0)
               ·rw [if_pos c66] at H
                have c66b0 : (a2_1 == ((rd_T144 l0 x8_2).f0)) = true := beq_iff_eq.mpr c66
                have c66b1 : (a2_1 != ((rd_T144 l0 x8_2).f0)) = false := bne_eq_false_iff_eq.mpr c66
                clear c66
                by_cases c67 : a2_2 = x7_1
                ·rw [if_pos c67] at H
                 have c67b0 : (a2_2 == x7_1) = true := beq_iff_eq.mpr c67
                 have c67b1 : (a2_2 != x7_1) = false := bne_eq_false_iff_eq.mpr c67
                 clear c67
                 obtain rfl := Option.some.inj H
                 have p585 : 0 ≤ (x8_2 : Int) := of_decide_eq_true ‹_›
                 have q585 : x8_2 < (l0.length : Int) := of_decide_eq_true ‹_›
                 obtain ⟨ad585, e585, hx585_0, hx585_1, hx585_2, hx585_3, hx585_4⟩ := at_T144 HR0.out x8_2 p585 q585
                 cases e585
                 replace hx585_0 := bl_ HB hx585_0
                 replace hx585_1 := bl_ HB hx585_1
                 replace hx585_2 := bl_ HB hx585_2
                 replace hx585_3 := bl_ HB hx585_3
                 replace hx585_4 := bl_ HB hx585_4
                 replace p585 := eq_true p585
                 replace q585 := eq_true q585
                 go_wp2_with (first | ((with_reducible refine gate_dst (N := 9) rfl ?_); refine box_event ?hg (N := 9) ?hd (cs := #[.int .i64 0, .int .i64 0, .int .i64 0, .int .i64 0, .int .i64 0]) (t := 144) ?hr ?_; (case hd => rfl); (case hg => rfl); (case hr => first | (go_simp; done) | (go_simp; rfl)); intro gb586 hg w68 hbox hb; have BK586 := Aside0.mk (hbox); have GW586 := Aside0.mk ((by rw [hg]; exact (below_size (by repeat (first | (with_reducible first | exact HB.out | apply below_alloc | apply pw_below_drewN | apply below_drew1 | refine below_set ?_ (Aside0.out (by assumption))) | exact HB.out))) : w.heap.size ≤ gb586)); have GE586 := GW586; replace HB := Aside0.mk (below_step (by repeat (first | (with_reducible first | exact HB.out | apply below_alloc | apply pw_below_drewN | apply below_drew1 | refine below_set ?_ (Aside0.out (by assumption))) | exact HB.out)) hb); have NB583_586 := Aside0.mk ((by rw [hg]; exact Nat.ne_of_lt (blk_lt BK583.out) : gb583 ≠ gb586)); have NB586_583 := Aside0.mk ((by rw [hg]; exact Nat.ne_of_gt (blk_lt BK583.out) : gb586 ≠ gb583)); replace BK583 := Aside0.mk (blk_below (g := gb583) (o := .cells #[.int .i64 a1_0, .int .i64 a1_1, .int .i64 a1_2] 58 (0, 0)) (by repeat (first | (with_reducible first | exact BK583.out | refine blk_drewN ?_ _ | refine blk_drew ?_ | refine blk_alloc ?_ _) | exact BK583.out)) hb); have NB584_586 := Aside0.mk ((by rw [hg]; exact Nat.ne_of_lt (blk_lt BK584.out) : gb584 ≠ gb586)); have NB586_584 := Aside0.mk ((by rw [hg]; exact Nat.ne_of_gt (blk_lt BK584.out) : gb586 ≠ gb584)); replace BK584 := Aside0.mk (blk_below (g := gb584) (o := .cells #[.int .i64 a2_0, .int .i64 a2_1, .int .i64 a2_2] 79 (0, 0)) (by repeat (first | (with_reducible first | exact BK584.out | refine blk_drewN ?_ _ | refine blk_drew ?_ | refine blk_alloc ?_ _) | exact BK584.out)) hb); clear hb hbox hg; have hnb69 := NB586_583.out; have hnc69 := NB583_586.out; have hnb70 := NB586_584.out; have hnc70 := NB584_586.out; obtain ⟨hcz71_0, hcz71_1, hcz71_2, hcz71_3, hcz71_4⟩ := bc5 BK586.out; obtain ⟨hfz71_0, hfz71_1, hfz71_2, hfz71_3, hfz71_4⟩ := bf5 BK586.out; have hnb72 := NB583_584.out; have hnc72 := NB584_583.out; obtain ⟨hcz73_0, hcz73_1, hcz73_2⟩ := bc3 BK583.out; obtain ⟨hfz73_0, hfz73_1, hfz73_2⟩ := bf3 BK583.out; obtain ⟨hcz74_0, hcz74_1, hcz74_2⟩ := bc3 BK584.out; obtain ⟨hfz74_0, hfz74_1, hfz74_2⟩ := bf3 BK584.out))
                 go_ret
                 exact ⟨by first | rfl | (simp [errW_none, errW_some] <;> rfl) | (simp [*, errW_none, errW_some] <;> rfl), by repeat (first | (with_reducible first | exact HB.out | apply below_alloc | apply pw_below_drewN | apply below_drew1 | refine below_set ?_ (Aside0.out (by assumption))) | exact HB.out)⟩
                ·rw [if_neg c67] at H
                 have c67b0 : (a2_2 == x7_1) = false := beq_eq_false_iff_ne.mpr c67
                 have c67b1 : (a2_2 != x7_1) = true := bne_iff_ne.mpr c67
                 have H' := Aside0.mk H
                 clear H
                 have p585 : 0 ≤ (x8_2 : Int) := of_decide_eq_true ‹_›
                 have q585 : x8_2 < (l0.length : Int) := of_decide_eq_true ‹_›
                 obtain ⟨ad585, e585, hx585_0, hx585_1, hx585_2, hx585_3, hx585_4⟩ := at_T144 HR0.out x8_2 p585 q585
                 cases e585
                 replace hx585_0 := bl_ HB hx585_0
                 replace hx585_1 := bl_ HB hx585_1
                 replace hx585_2 := bl_ HB hx585_2
                 replace hx585_3 := bl_ HB hx585_3
                 replace hx585_4 := bl_ HB hx585_4
                 replace p585 := eq_true p585
                 replace q585 := eq_true q585
                 go_wp2_with (first | ((with_reducible refine gate_dst (N := 9) rfl ?_); refine box_event ?hg (N := 9) ?hd (cs := #[.int .i64 0, .int .i64 0, .int .i64 0, .int .i64 0, .int .i64 0]) (t := 144) ?hr ?_; (case hd => rfl); (case hg => rfl); (case hr => first | (go_simp; done) | (go_simp; rfl)); intro gb586 hg w75 hbox hb; have BK586 := Aside0.mk (hbox); have GW586 := Aside0.mk ((by rw [hg]; exact (below_size (by repeat (first | (with_reducible first | exact HB.out | apply below_alloc | apply pw_below_drewN | apply below_drew1 | refine below_set ?_ (Aside0.out (by assumption))) | exact HB.out))) : w.heap.size ≤ gb586)); have GE586 := GW586; replace HB := Aside0.mk (below_step (by repeat (first | (with_reducible first | exact HB.out | apply below_alloc | apply pw_below_drewN | apply below_drew1 | refine below_set ?_ (Aside0.out (by assumption))) | exact HB.out)) hb); have NB583_586 := Aside0.mk ((by rw [hg]; exact Nat.ne_of_lt (blk_lt BK583.out) : gb583 ≠ gb586)); have NB586_583 := Aside0.mk ((by rw [hg]; exact Nat.ne_of_gt (blk_lt BK583.out) : gb586 ≠ gb583)); replace BK583 := Aside0.mk (blk_below (g := gb583) (o := .cells #[.int .i64 a1_0, .int .i64 a1_1, .int .i64 a1_2] 58 (0, 0)) (by repeat (first | (with_reducible first | exact BK583.out | refine blk_drewN ?_ _ | refine blk_drew ?_ | refine blk_alloc ?_ _) | exact BK583.out)) hb); have NB584_586 := Aside0.mk ((by rw [hg]; exact Nat.ne_of_lt (blk_lt BK584.out) : gb584 ≠ gb586)); have NB586_584 := Aside0.mk ((by rw [hg]; exact Nat.ne_of_gt (blk_lt BK584.out) : gb586 ≠ gb584)); replace BK584 := Aside0.mk (blk_below (g := gb584) (o := .cells #[.int .i64 a2_0, .int .i64 a2_1, .int .i64 a2_2] 79 (0, 0)) (by repeat (first | (with_reducible first | exact BK584.out | refine blk_drewN ?_ _ | refine blk_drew ?_ | refine blk_alloc ?_ _) | exact BK584.out)) hb); clear hb hbox hg; have hnb76 := NB586_583.out; have hnc76 := NB583_586.out; have hnb77 := NB586_584.out; have hnc77 := NB584_586.out; obtain ⟨hcz78_0, hcz78_1, hcz78_2, hcz78_3, hcz78_4⟩ := bc5 BK586.out; obtain ⟨hfz78_0, hfz78_1, hfz78_2, hfz78_3, hfz78_4⟩ := bf5 BK586.out; have hnb79 := NB583_584.out; have hnc79 := NB584_583.out; obtain ⟨hcz80_0, hcz80_1, hcz80_2⟩ := bc3 BK583.out; obtain ⟨hfz80_0, hfz80_1, hfz80_2⟩ := bf3 BK583.out; obtain ⟨hcz81_0, hcz81_1, hcz81_2⟩ := bc3 BK584.out; obtain ⟨hfz81_0, hfz81_1, hfz81_2⟩ := bf3 BK584.out))
                 go_roundg k2
                 case measure => have := HK1.out; have := HK2.out; omega
                 case rel => exact ⟨(wrap64 (x8_2 + 1)), (by first | rfl | (simp; done) | (simp [*]; done)), H', ⟨by have := HK1.out; have := HK2.out; omega⟩, ⟨by repeat (first | (with_reducible first | exact BK583.out | refine blk_drewN ?_ _ | refine blk_drew ?_ | refine blk_alloc ?_ _) | refine blk_far ?_ NB583_586.out _ | exact BK583.out)⟩, ⟨by repeat (first | (with_reducible first | exact BK584.out | refine blk_drewN ?_ _ | refine blk_drew ?_ | refine blk_alloc ?_ _) | refine blk_far ?_ NB584_586.out _ | exact BK584.out)⟩, ⟨by repeat (first | (with_reducible first | exact HB.out | apply below_alloc | apply pw_below_drewN | apply below_drew1 | refine below_set ?_ (Aside0.out (by assumption))) | exact HB.out)⟩⟩
               ·rw [if_neg c66] at H
                have c66b0 : (a2_1 == ((rd_T144 l0 x8_2).f0)) = false := beq_eq_false_iff_ne.mpr c66
                have c66b1 : (a2_1 != ((rd_T144 l0 x8_2).f0)) = true := bne_iff_ne.mpr c66
                have H' := Aside0.mk H
                clear H
                have p585 : 0 ≤ (x8_2 : Int) := of_decide_eq_true ‹_›
                have q585 : x8_2 < (l0.length : Int) := of_decide_eq_true ‹_›
                obtain ⟨ad585, e585, hx585_0, hx585_1, hx585_2, hx585_3, hx585_4⟩ := at_T144 HR0.out x8_2 p585 q585
                cases e585
                replace hx585_0 := bl_ HB hx585_0
                replace hx585_1 := bl_ HB hx585_1
                replace hx585_2 := bl_ HB hx585_2
                replace hx585_3 := bl_ HB hx585_3
                replace hx585_4 := bl_ HB hx585_4
                replace p585 := eq_true p585
                replace q585 := eq_true q585
                go_wp2_with (first | ((with_reducible refine gate_dst (N := 9) rfl ?_); refine box_event ?hg (N := 9) ?hd (cs := #[.int .i64 0, .int .i64 0, .int .i64 0, .int .i64 0, .int .i64 0]) (t := 144) ?hr ?_; (case hd => rfl); (case hg => rfl); (case hr => first | (go_simp; done) | (go_simp; rfl)); intro gb586 hg w82 hbox hb; have BK586 := Aside0.mk (hbox); have GW586 := Aside0.mk ((by rw [hg]; exact (below_size (by repeat (first | (with_reducible first | exact HB.out | apply below_alloc | apply pw_below_drewN | apply below_drew1 | refine below_set ?_ (Aside0.out (by assumption))) | exact HB.out))) : w.heap.size ≤ gb586)); have GE586 := GW586; replace HB := Aside0.mk (below_step (by repeat (first | (with_reducible first | exact HB.out | apply below_alloc | apply pw_below_drewN | apply below_drew1 | refine below_set ?_ (Aside0.out (by assumption))) | exact HB.out)) hb); have NB583_586 := Aside0.mk ((by rw [hg]; exact Nat.ne_of_lt (blk_lt BK583.out) : gb583 ≠ gb586)); have NB586_583 := Aside0.mk ((by rw [hg]; exact Nat.ne_of_gt (blk_lt BK583.out) : gb586 ≠ gb583)); replace BK583 := Aside0.mk (blk_below (g := gb583) (o := .cells #[.int .i64 a1_0, .int .i64 a1_1, .int .i64 a1_2] 58 (0, 0)) (by repeat (first | (with_reducible first | exact BK583.out | refine blk_drewN ?_ _ | refine blk_drew ?_ | refine blk_alloc ?_ _) | exact BK583.out)) hb); have NB584_586 := Aside0.mk ((by rw [hg]; exact Nat.ne_of_lt (blk_lt BK584.out) : gb584 ≠ gb586)); have NB586_584 := Aside0.mk ((by rw [hg]; exact Nat.ne_of_gt (blk_lt BK584.out) : gb586 ≠ gb584)); replace BK584 := Aside0.mk (blk_below (g := gb584) (o := .cells #[.int .i64 a2_0, .int .i64 a2_1, .int .i64 a2_2] 79 (0, 0)) (by repeat (first | (with_reducible first | exact BK584.out | refine blk_drewN ?_ _ | refine blk_drew ?_ | refine blk_alloc ?_ _) | exact BK584.out)) hb); clear hb hbox hg; have hnb83 := NB586_583.out; have hnc83 := NB583_586.out; have hnb84 := NB586_584.out; have hnc84 := NB584_586.out; obtain ⟨hcz85_0, hcz85_1, hcz85_2, hcz85_3, hcz85_4⟩ := bc5 BK586.out; obtain ⟨hfz85_0, hfz85_1, hfz85_2, hfz85_3, hfz85_4⟩ := bf5 BK586.out; have hnb86 := NB583_584.out; have hnc86 := NB584_583.out; obtain ⟨hcz87_0, hcz87_1, hcz87_2⟩ := bc3 BK583.out; obtain ⟨hfz87_0, hfz87_1, hfz87_2⟩ := bf3 BK583.out; obtain ⟨hcz88_0, hcz88_1, hcz88_2⟩ := bc3 BK584.out; obtain ⟨hfz88_0, hfz88_1, hfz88_2⟩ := bf3 BK584.out))
                go_roundg k2
                case measure => have := HK1.out; have := HK2.out; omega
                case rel => exact ⟨(wrap64 (x8_2 + 1)), (by first | rfl | (simp; done) | (simp [*]; done)), H', ⟨by have := HK1.out; have := HK2.out; omega⟩, ⟨by repeat (first | (with_reducible first | exact BK583.out | refine blk_drewN ?_ _ | refine blk_drew ?_ | refine blk_alloc ?_ _) | refine blk_far ?_ NB583_586.out _ | exact BK583.out)⟩, ⟨by repeat (first | (with_reducible first | exact BK584.out | refine blk_drewN ?_ _ | refine blk_drew ?_ | refine blk_alloc ?_ _) | refine blk_far ?_ NB584_586.out _ | exact BK584.out)⟩, ⟨by repeat (first | (with_reducible first | exact HB.out | apply below_alloc | apply pw_below_drewN | apply below_drew1 | refine below_set ?_ (Aside0.out (by assumption))) | exact HB.out)⟩⟩
              ·rw [if_neg c65] at H
               have c65b0 : (a2_0 == 3) = false := beq_eq_false_iff_ne.mpr c65
               have c65b1 : (a2_0 != 3) = true := bne_iff_ne.mpr c65
               have H' := Aside0.mk H
               clear H
               have p585 : 0 ≤ (x8_2 : Int) := of_decide_eq_true ‹_›
               have q585 : x8_2 < (l0.length : Int) := of_decide_eq_true ‹_›
               obtain ⟨ad585, e585, hx585_0, hx585_1, hx585_2, hx585_3, hx585_4⟩ := at_T144 HR0.out x8_2 p585 q585
               cases e585
               replace hx585_0 := bl_ HB hx585_0
               replace hx585_1 := bl_ HB hx585_1
               replace hx585_2 := bl_ HB hx585_2
               replace hx585_3 := bl_ HB hx585_3
               replace hx585_4 := bl_ HB hx585_4
               replace p585 := eq_true p585
               replace q585 := eq_true q585
               go_wp2_with (first | ((with_reducible refine gate_dst (N := 9) rfl ?_); refine box_event ?hg (N := 9) ?hd (cs := #[.int .i64 0, .int .i64 0, .int .i64 0, .int .i64 0, .int .i64 0]) (t := 144) ?hr ?_; (case hd => rfl); (case hg => rfl); (case hr => first | (go_simp; done) | (go_simp; rfl)); intro gb586 hg w89 hbox hb; have BK586 := Aside0.mk (hbox); have GW586 := Aside0.mk ((by rw [hg]; exact (below_size (by repeat (first | (with_reducible first | exact HB.out | apply below_alloc | apply pw_below_drewN | apply below_drew1 | refine below_set ?_ (Aside0.out (by assumption))) | exact HB.out))) : w.heap.size ≤ gb586)); have GE586 := GW586; replace HB := Aside0.mk (below_step (by repeat (first | (with_reducible first | exact HB.out | apply below_alloc | apply pw_below_drewN | apply below_drew1 | refine below_set ?_ (Aside0.out (by assumption))) | exact HB.out)) hb); have NB583_586 := Aside0.mk ((by rw [hg]; exact Nat.ne_of_lt (blk_lt BK583.out) : gb583 ≠ gb586)); have NB586_583 := Aside0.mk ((by rw [hg]; exact Nat.ne_of_gt (blk_lt BK583.out) : gb586 ≠ gb583)); replace BK583 := Aside0.mk (blk_below (g := gb583) (o := .cells #[.int .i64 a1_0, .int .i64 a1_1, .int .i64 a1_2] 58 (0, 0)) (by repeat (first | (with_reducible first | exact BK583.out | refine blk_drewN ?_ _ | refine blk_drew ?_ | refine blk_alloc ?_ _) | exact BK583.out)) hb); have NB584_586 := Aside0.mk ((by rw [hg]; exact Nat.ne_of_lt (blk_lt BK584.out) : gb584 ≠ gb586)); have NB586_584 := Aside0.mk ((by rw [hg]; exact Nat.ne_of_gt (blk_lt BK584.out) : gb586 ≠ gb584)); replace BK584 := Aside0.mk (blk_below (g := gb584) (o := .cells #[.int .i64 a2_0, .int .i64 a2_1, .int .i64 a2_2] 79 (0, 0)) (by repeat (first | (with_reducible first | exact BK584.out | refine blk_drewN ?_ _ | refine blk_drew ?_ | refine blk_alloc ?_ _) | exact BK584.out)) hb); clear hb hbox hg; have hnb90 := NB586_583.out; have hnc90 := NB583_586.out; have hnb91 := NB586_584.out; have hnc91 := NB584_586.out; obtain ⟨hcz92_0, hcz92_1, hcz92_2, hcz92_3, hcz92_4⟩ := bc5 BK586.out; obtain ⟨hfz92_0, hfz92_1, hfz92_2, hfz92_3, hfz92_4⟩ := bf5 BK586.out; have hnb93 := NB583_584.out; have hnc93 := NB584_583.out; obtain ⟨hcz94_0, hcz94_1, hcz94_2⟩ := bc3 BK583.out; obtain ⟨hfz94_0, hfz94_1, hfz94_2⟩ := bf3 BK583.out; obtain ⟨hcz95_0, hcz95_1, hcz95_2⟩ := bc3 BK584.out; obtain ⟨hfz95_0, hfz95_1, hfz95_2⟩ := bf3 BK584.out))
               go_roundg k2
               case measure => have := HK1.out; have := HK2.out; omega
               case rel => exact ⟨(wrap64 (x8_2 + 1)), (by first | rfl | (simp; done) | (simp [*]; done)), H', ⟨by have := HK1.out; have := HK2.out; omega⟩, ⟨by repeat (first | (with_reducible first | exact BK583.out | refine blk_drewN ?_ _ | refine blk_drew ?_ | refine blk_alloc ?_ _) | refine blk_far ?_ NB583_586.out _ | exact BK583.out)⟩, ⟨by repeat (first | (with_reducible first | exact BK584.out | refine blk_drewN ?_ _ | refine blk_drew ?_ | refine blk_alloc ?_ _) | refine blk_far ?_ NB584_586.out _ | exact BK584.out)⟩, ⟨by repeat (first | (with_reducible first | exact HB.out | apply below_alloc | apply pw_below_drewN | apply below_drew1 | refine below_set ?_ (Aside0.out (by assumption))) | exact HB.out)⟩⟩
           ·rw [if_neg c16] at H
            have c16b0 : (a2_0 == 1) = false := beq_eq_false_iff_ne.mpr c16
            have c16b1 : (a2_0 != 1) = true := bne_iff_ne.mpr c16
            by_cases c96 : a2_0 = 2
            ·rw [if_pos c96] at H
             have c96b0 : (a2_0 == 2) = true := beq_iff_eq.mpr c96
             have c96b1 : (a2_0 != 2) = false := bne_eq_false_iff_eq.mpr c96
             clear c96
             by_cases c97 : a2_2 = ((rd_T144 l0 x8_2).f4)
             ·rw [if_pos c97] at H
              have c97b0 : (a2_2 == ((rd_T144 l0 x8_2).f4)) = true := beq_iff_eq.mpr c97
              have c97b1 : (a2_2 != ((rd_T144 l0 x8_2).f4)) = false := bne_eq_false_iff_eq.mpr c97
              clear c97
              obtain rfl := Option.some.inj H
              have p585 : 0 ≤ (x8_2 : Int) := of_decide_eq_true ‹_›
              have q585 : x8_2 < (l0.length : Int) := of_decide_eq_true ‹_›
              obtain ⟨ad585, e585, hx585_0, hx585_1, hx585_2, hx585_3, hx585_4⟩ := at_T144 HR0.out x8_2 p585 q585
              cases e585
              replace hx585_0 := bl_ HB hx585_0
              replace hx585_1 := bl_ HB hx585_1
              replace hx585_2 := bl_ HB hx585_2
              replace hx585_3 := bl_ HB hx585_3
              replace hx585_4 := bl_ HB hx585_4
              replace p585 := eq_true p585
              replace q585 := eq_true q585
              go_wp2_with (first | ((with_reducible refine gate_dst (N := 9) rfl ?_); refine box_event ?hg (N := 9) ?hd (cs := #[.int .i64 0, .int .i64 0, .int .i64 0, .int .i64 0, .int .i64 0]) (t := 144) ?hr ?_; (case hd => rfl); (case hg => rfl); (case hr => first | (go_simp; done) | (go_simp; rfl)); intro gb586 hg w98 hbox hb; have BK586 := Aside0.mk (hbox); have GW586 := Aside0.mk ((by rw [hg]; exact (below_size (by repeat (first | (with_reducible first | exact HB.out | apply below_alloc | apply pw_below_drewN | apply below_drew1 | refine below_set ?_ (Aside0.out (by assumption))) | exact HB.out))) : w.heap.size ≤ gb586)); have GE586 := GW586; replace HB := Aside0.mk (below_step (by repeat (first | (with_reducible first | exact HB.out | apply below_alloc | apply pw_below_drewN | apply below_drew1 | refine below_set ?_ (Aside0.out (by assumption))) | exact HB.out)) hb); have NB583_586 := Aside0.mk ((by rw [hg]; exact Nat.ne_of_lt (blk_lt BK583.out) : gb583 ≠ gb586)); have NB586_583 := Aside0.mk ((by rw [hg]; exact Nat.ne_of_gt (blk_lt BK583.out) : gb586 ≠ gb583)); replace BK583 := Aside0.mk (blk_below (g := gb583) (o := .cells #[.int .i64 a1_0, .int .i64 a1_1, .int .i64 a1_2] 58 (0, 0)) (by repeat (first | (with_reducible first | exact BK583.out | refine blk_drewN ?_ _ | refine blk_drew ?_ | refine blk_alloc ?_ _) | exact BK583.out)) hb); have NB584_586 := Aside0.mk ((by rw [hg]; exact Nat.ne_of_lt (blk_lt BK584.out) : gb584 ≠ gb586)); have NB586_584 := Aside0.mk ((by rw [hg]; exact Nat.ne_of_gt (blk_lt BK584.out) : gb586 ≠ gb584)); replace BK584 := Aside0.mk (blk_below (g := gb584) (o := .cells #[.int .i64 a2_0, .int .i64 a2_1, .int .i64 a2_2] 79 (0, 0)) (by repeat (first | (with_reducible first | exact BK584.out | refine blk_drewN ?_ _ | refine blk_drew ?_ | refine blk_alloc ?_ _) | exact BK584.out)) hb); clear hb hbox hg; have hnb99 := NB586_583.out; have hnc99 := NB583_586.out; have hnb100 := NB586_584.out; have hnc100 := NB584_586.out; obtain ⟨hcz101_0, hcz101_1, hcz101_2, hcz101_3, hcz101_4⟩ := bc5 BK586.out; obtain ⟨hfz101_0, hfz101_1, hfz101_2, hfz101_3, hfz101_4⟩ := bf5 BK586.out; have hnb102 := NB583_584.out; have hnc102 := NB584_583.out; obtain ⟨hcz103_0, hcz103_1, hcz103_2⟩ := bc3 BK583.out; obtain ⟨hfz103_0, hfz103_1, hfz103_2⟩ := bf3 BK583.out; obtain ⟨hcz104_0, hcz104_1, hcz104_2⟩ := bc3 BK584.out; obtain ⟨hfz104_0, hfz104_1, hfz104_2⟩ := bf3 BK584.out))
              go_ret
              exact ⟨by first | rfl | (simp [errW_none, errW_some] <;> rfl) | (simp [*, errW_none, errW_some] <;> rfl), by repeat (first | (with_reducible first | exact HB.out | apply below_alloc | apply pw_below_drewN | apply below_drew1 | refine below_set ?_ (Aside0.out (by assumption))) | exact HB.out)⟩
             ·rw [if_neg c97] at H
              have c97b0 : (a2_2 == ((rd_T144 l0 x8_2).f4)) = false := beq_eq_false_iff_ne.mpr c97
              have c97b1 : (a2_2 != ((rd_T144 l0 x8_2).f4)) = true := bne_iff_ne.mpr c97
              by_cases c105 : a2_0 = 3
              ·rw [if_pos c105] at H
               have c105b0 : (a2_0 == 3) = true := beq_iff_eq.mpr c105
               have c105b1 : (a2_0 != 3) = false := bne_eq_false_iff_eq.mpr c105
               clear c105
               by_cases c106 : a2_1 = ((rd_T144 l0 x8_2).f0)
               ·rw [if_pos c106] at H
                have c106b0 : (a2_1 == ((rd_T144 l0 x8_2).f0)) = true := beq_iff_eq.mpr c106
                have c106b1 : (a2_1 != ((rd_T144 l0 x8_2).f0)) = false := bne_eq_false_iff_eq.mpr c106
                clear c106
                by_cases c107 : a2_2 = x7_1
                ·rw [if_pos c107] at H
                 have c107b0 : (a2_2 == x7_1) = true := beq_iff_eq.mpr c107
                 have c107b1 : (a2_2 != x7_1) = false := bne_eq_false_iff_eq.mpr c107
                 clear c107
                 obtain rfl := Option.some.inj H
                 have p585 : 0 ≤ (x8_2 : Int) := of_decide_eq_true ‹_›
                 have q585 : x8_2 < (l0.length : Int) := of_decide_eq_true ‹_›
                 obtain ⟨ad585, e585, hx585_0, hx585_1, hx585_2, hx585_3, hx585_4⟩ := at_T144 HR0.out x8_2 p585 q585
                 cases e585
                 replace hx585_0 := bl_ HB hx585_0
                 replace hx585_1 := bl_ HB hx585_1
                 replace hx585_2 := bl_ HB hx585_2
                 replace hx585_3 := bl_ HB hx585_3
                 replace hx585_4 := bl_ HB hx585_4
                 replace p585 := eq_true p585
                 replace q585 := eq_true q585
                 go_wp2_with (first | ((with_reducible refine gate_dst (N := 9) rfl ?_); refine box_event ?hg (N := 9) ?hd (cs := #[.int .i64 0, .int .i64 0, .int .i64 0, .int .i64 0, .int .i64 0]) (t := 144) ?hr ?_; (case hd => rfl); (case hg => rfl); (case hr => first | (go_simp; done) | (go_simp; rfl)); intro gb586 hg w108 hbox hb; have BK586 := Aside0.mk (hbox); have GW586 := Aside0.mk ((by rw [hg]; exact (below_size (by repeat (first | (with_reducible first | exact HB.out | apply below_alloc | apply pw_below_drewN | apply below_drew1 | refine below_set ?_ (Aside0.out (by assumption))) | exact HB.out))) : w.heap.size ≤ gb586)); have GE586 := GW586; replace HB := Aside0.mk (below_step (by repeat (first | (with_reducible first | exact HB.out | apply below_alloc | apply pw_below_drewN | apply below_drew1 | refine below_set ?_ (Aside0.out (by assumption))) | exact HB.out)) hb); have NB583_586 := Aside0.mk ((by rw [hg]; exact Nat.ne_of_lt (blk_lt BK583.out) : gb583 ≠ gb586)); have NB586_583 := Aside0.mk ((by rw [hg]; exact Nat.ne_of_gt (blk_lt BK583.out) : gb586 ≠ gb583)); replace BK583 := Aside0.mk (blk_below (g := gb583) (o := .cells #[.int .i64 a1_0, .int .i64 a1_1, .int .i64 a1_2] 58 (0, 0)) (by repeat (first | (with_reducible first | exact BK583.out | refine blk_drewN ?_ _ | refine blk_drew ?_ | refine blk_alloc ?_ _) | exact BK583.out)) hb); have NB584_586 := Aside0.mk ((by rw [hg]; exact Nat.ne_of_lt (blk_lt BK584.out) : gb584 ≠ gb586)); have NB586_584 := Aside0.mk ((by rw [hg]; exact Nat.ne_of_gt (blk_lt BK584.out) : gb586 ≠ gb584)); replace BK584 := Aside0.mk (blk_below (g := gb584) (o := .cells #[.int .i64 a2_0, .int .i64 a2_1, .int .i64 a2_2] 79 (0, 0)) (by repeat (first | (with_reducible first | exact BK584.out | refine blk_drewN ?_ _ | refine blk_drew ?_ | refine blk_alloc ?_ _) | exact BK584.out)) hb); clear hb hbox hg; have hnb109 := NB586_583.out; have hnc109 := NB583_586.out; have hnb110 := NB586_584.out; have hnc110 := NB584_586.out; obtain ⟨hcz111_0, hcz111_1, hcz111_2, hcz111_3, hcz111_4⟩ := bc5 BK586.out; obtain ⟨hfz111_0, hfz111_1, hfz111_2, hfz111_3, hfz111_4⟩ := bf5 BK586.out; have hnb112 := NB583_584.out; have hnc112 := NB584_583.out; obtain ⟨hcz113_0, hcz113_1, hcz113_2⟩ := bc3 BK583.out; obtain ⟨hfz113_0, hfz113_1, hfz113_2⟩ := bf3 BK583.out; obtain ⟨hcz114_0, hcz114_1, hcz114_2⟩ := bc3 BK584.out; obtain ⟨hfz114_0, hfz114_1, hfz114_2⟩ := bf3 BK584.out))
                 go_ret
                 exact ⟨by first | rfl | (simp [errW_none, errW_some] <;> rfl) | (simp [*, errW_none, errW_some] <;> rfl), by repeat (first | (with_reducible first | exact HB.out | apply below_alloc | apply pw_below_drewN | apply below_drew1 | refine below_set ?_ (Aside0.out (by assumption))) | exact HB.out)⟩
                ·rw [if_neg c107] at H
                 have c107b0 : (a2_2 == x7_1) = false := beq_eq_false_iff_ne.mpr c107
                 have c107b1 : (a2_2 != x7_1) = true := bne_iff_ne.mpr c107
                 have H' := Aside0.mk H
                 clear H
                 have p585 : 0 ≤ (x8_2 : Int) := of_decide_eq_true ‹_›
                 have q585 : x8_2 < (l0.length : Int) := of_decide_eq_true ‹_›
                 obtain ⟨ad585, e585, hx585_0, hx585_1, hx585_2, hx585_3, hx585_4⟩ := at_T144 HR0.out x8_2 p585 q585
                 cases e585
                 replace hx585_0 := bl_ HB hx585_0
                 replace hx585_1 := bl_ HB hx585_1
                 replace hx585_2 := bl_ HB hx585_2
                 replace hx585_3 := bl_ HB hx585_3
                 replace hx585_4 := bl_ HB hx585_4
                 replace p585 := eq_true p585
                 replace q585 := eq_true q585
                 go_wp2_with (first | ((with_reducible refine gate_dst (N := 9) rfl ?_); refine box_event ?hg (N := 9) ?hd (cs := #[.int .i64 0, .int .i64 0, .int .i64 0, .int .i64 0, .int .i64 0]) (t := 144) ?hr ?_; (case hd => rfl); (case hg => rfl); (case hr => first | (go_simp; done) | (go_simp; rfl)); intro gb586 hg w115 hbox hb; have BK586 := Aside0.mk (hbox); have GW586 := Aside0.mk ((by rw [hg]; exact (below_size (by repeat (first | (with_reducible first | exact HB.out | apply below_alloc | apply pw_below_drewN | apply below_drew1 | refine below_set ?_ (Aside0.out (by assumption))) | exact HB.out))) : w.heap.size ≤ gb586)); have GE586 := GW586; replace HB := Aside0.mk (below_step (by repeat (first | (with_reducible first | exact HB.out | apply below_alloc | apply pw_below_drewN | apply below_drew1 | refine below_set ?_ (Aside0.out (by assumption))) | exact HB.out)) hb); have NB583_586 := Aside0.mk ((by rw [hg]; exact Nat.ne_of_lt (blk_lt BK583.out) : gb583 ≠ gb586)); have NB586_583 := Aside0.mk ((by rw [hg]; exact Nat.ne_of_gt (blk_lt BK583.out) : gb586 ≠ gb583)); replace BK583 := Aside0.mk (blk_below (g := gb583) (o := .cells #[.int .i64 a1_0, .int .i64 a1_1, .int .i64 a1_2] 58 (0, 0)) (by repeat (first | (with_reducible first | exact BK583.out | refine blk_drewN ?_ _ | refine blk_drew ?_ | refine blk_alloc ?_ _) | exact BK583.out)) hb); have NB584_586 := Aside0.mk ((by rw [hg]; exact Nat.ne_of_lt (blk_lt BK584.out) : gb584 ≠ gb586)); have NB586_584 := Aside0.mk ((by rw [hg]; exact Nat.ne_of_gt (blk_lt BK584.out) : gb586 ≠ gb584)); replace BK584 := Aside0.mk (blk_below (g := gb584) (o := .cells #[.int .i64 a2_0, .int .i64 a2_1, .int .i64 a2_2] 79 (0, 0)) (by repeat (first | (with_reducible first | exact BK584.out | refine blk_drewN ?_ _ | refine blk_drew ?_ | refine blk_alloc ?_ _) | exact BK584.out)) hb); clear hb hbox hg; have hnb116 := NB586_583.out; have hnc116 := NB583_586.out; have hnb117 := NB586_584.out; have hnc117 := NB584_586.out; obtain ⟨hcz118_0, hcz118_1, hcz118_2, hcz118_3, hcz118_4⟩ := bc5 BK586.out; obtain ⟨hfz118_0, hfz118_1, hfz118_2, hfz118_3, hfz118_4⟩ := bf5 BK586.out; have hnb119 := NB583_584.out; have hnc119 := NB584_583.out; obtain ⟨hcz120_0, hcz120_1, hcz120_2⟩ := bc3 BK583.out; obtain ⟨hfz120_0, hfz120_1, hfz120_2⟩ := bf3 BK583.out; obtain ⟨hcz121_0, hcz121_1, hcz121_2⟩ := bc3 BK584.out; obtain ⟨hfz121_0, hfz121_1, hfz121_2⟩ := bf3 BK584.out))
                 go_roundg k2
                 case measure => have := HK1.out; have := HK2.out; omega
                 case rel => exact ⟨(wrap64 (x8_2 + 1)), (by first | rfl | (simp; done) | (simp [*]; done)), H', ⟨by have := HK1.out; have := HK2.out; omega⟩, ⟨by repeat (first | (with_reducible first | exact BK583.out | refine blk_drewN ?_ _ | refine blk_drew ?_ | refine blk_alloc ?_ _) | refine blk_far ?_ NB583_586.out _ | exact BK583.out)⟩, ⟨by repeat (first | (with_reducible first | exact BK584.out | refine blk_drewN ?_ _ | refine blk_drew ?_ | refine blk_alloc ?_ _) | refine blk_far ?_ NB584_586.out _ | exact BK584.out)⟩, ⟨by repeat (first | (with_reducible first | exact HB.out | apply below_alloc | apply pw_below_drewN | apply below_drew1 | refine below_set ?_ (Aside0.out (by assumption))) | exact HB.out)⟩⟩
               ·rw [if_neg c106] at H
                have c106b0 : (a2_1 == ((rd_T144 l0 x8_2).f0)) = false := beq_eq_false_iff_ne.mpr c106
                have c106b1 : (a2_1 != ((rd_T144 l0 x8_2).f0)) = true := bne_iff_ne.mpr c106
                have H' := Aside0.mk H
                clear H
                have p585 : 0 ≤ (x8_2 : Int) := of_decide_eq_true ‹_›
                have q585 : x8_2 < (l0.length : Int) := of_decide_eq_true ‹_›
                obtain ⟨ad585, e585, hx585_0, hx585_1, hx585_2, hx585_3, hx585_4⟩ := at_T144 HR0.out x8_2 p585 q585
                cases e585
                replace hx585_0 := bl_ HB hx585_0
                replace hx585_1 := bl_ HB hx585_1
                replace hx585_2 := bl_ HB hx585_2
                replace hx585_3 := bl_ HB hx585_3
                replace hx585_4 := bl_ HB hx585_4
                replace p585 := eq_true p585
                replace q585 := eq_true q585
                go_wp2_with (first | ((with_reducible refine gate_dst (N := 9) rfl ?_); refine box_event ?hg (N := 9) ?hd (cs := #[.int .i64 0, .int .i64 0, .int .i64 0, .int .i64 0, .int .i64 0]) (t := 144) ?hr ?_; (case hd => rfl); (case hg => rfl); (case hr => first | (go_simp; done) | (go_simp; rfl)); intro gb586 hg w122 hbox hb; have BK586 := Aside0.mk (hbox); have GW586 := Aside0.mk ((by rw [hg]; exact (below_size (by repeat (first | (with_reducible first | exact HB.out | apply below_alloc | apply pw_below_drewN | apply below_drew1 | refine below_set ?_ (Aside0.out (by assumption))) | exact HB.out))) : w.heap.size ≤ gb586)); have GE586 := GW586; replace HB := Aside0.mk (below_step (by repeat (first | (with_reducible first | exact HB.out | apply below_alloc | apply pw_below_drewN | apply below_drew1 | refine below_set ?_ (Aside0.out (by assumption))) | exact HB.out)) hb); have NB583_586 := Aside0.mk ((by rw [hg]; exact Nat.ne_of_lt (blk_lt BK583.out) : gb583 ≠ gb586)); have NB586_583 := Aside0.mk ((by rw [hg]; exact Nat.ne_of_gt (blk_lt BK583.out) : gb586 ≠ gb583)); replace BK583 := Aside0.mk (blk_below (g := gb583) (o := .cells #[.int .i64 a1_0, .int .i64 a1_1, .int .i64 a1_2] 58 (0, 0)) (by repeat (first | (with_reducible first | exact BK583.out | refine blk_drewN ?_ _ | refine blk_drew ?_ | refine blk_alloc ?_ _) | exact BK583.out)) hb); have NB584_586 := Aside0.mk ((by rw [hg]; exact Nat.ne_of_lt (blk_lt BK584.out) : gb584 ≠ gb586)); have NB586_584 := Aside0.mk ((by rw [hg]; exact Nat.ne_of_gt (blk_lt BK584.out) : gb586 ≠ gb584)); replace BK584 := Aside0.mk (blk_below (g := gb584) (o := .cells #[.int .i64 a2_0, .int .i64 a2_1, .int .i64 a2_2] 79 (0, 0)) (by repeat (first | (with_reducible first | exact BK584.out | refine blk_drewN ?_ _ | refine blk_drew ?_ | refine blk_alloc ?_ _) | exact BK584.out)) hb); clear hb hbox hg; have hnb123 := NB586_583.out; have hnc123 := NB583_586.out; have hnb124 := NB586_584.out; have hnc124 := NB584_586.out; obtain ⟨hcz125_0, hcz125_1, hcz125_2, hcz125_3, hcz125_4⟩ := bc5 BK586.out; obtain ⟨hfz125_0, hfz125_1, hfz125_2, hfz125_3, hfz125_4⟩ := bf5 BK586.out; have hnb126 := NB583_584.out; have hnc126 := NB584_583.out; obtain ⟨hcz127_0, hcz127_1, hcz127_2⟩ := bc3 BK583.out; obtain ⟨hfz127_0, hfz127_1, hfz127_2⟩ := bf3 BK583.out; obtain ⟨hcz128_0, hcz128_1, hcz128_2⟩ := bc3 BK584.out; obtain ⟨hfz128_0, hfz128_1, hfz128_2⟩ := bf3 BK584.out))
                go_roundg k2
                case measure => have := HK1.out; have := HK2.out; omega
                case rel => exact ⟨(wrap64 (x8_2 + 1)), (by first | rfl | (simp; done) | (simp [*]; done)), H', ⟨by have := HK1.out; have := HK2.out; omega⟩, ⟨by repeat (first | (with_reducible first | exact BK583.out | refine blk_drewN ?_ _ | refine blk_drew ?_ | refine blk_alloc ?_ _) | refine blk_far ?_ NB583_586.out _ | exact BK583.out)⟩, ⟨by repeat (first | (with_reducible first | exact BK584.out | refine blk_drewN ?_ _ | refine blk_drew ?_ | refine blk_alloc ?_ _) | refine blk_far ?_ NB584_586.out _ | exact BK584.out)⟩, ⟨by repeat (first | (with_reducible first | exact HB.out | apply below_alloc | apply pw_below_drewN | apply below_drew1 | refine below_set ?_ (Aside0.out (by assumption))) | exact HB.out)⟩⟩
              ·rw [if_neg c105] at H
               have c105b0 : (a2_0 == 3) = false := beq_eq_false_iff_ne.mpr c105
               have c105b1 : (a2_0 != 3) = true := bne_iff_ne.mpr c105
               have H' := Aside0.mk H
               clear H
               have p585 : 0 ≤ (x8_2 : Int) := of_decide_eq_true ‹_›
               have q585 : x8_2 < (l0.length : Int) := of_decide_eq_true ‹_›
               obtain ⟨ad585, e585, hx585_0, hx585_1, hx585_2, hx585_3, hx585_4⟩ := at_T144 HR0.out x8_2 p585 q585
               cases e585
               replace hx585_0 := bl_ HB hx585_0
               replace hx585_1 := bl_ HB hx585_1
               replace hx585_2 := bl_ HB hx585_2
               replace hx585_3 := bl_ HB hx585_3
               replace hx585_4 := bl_ HB hx585_4
               replace p585 := eq_true p585
               replace q585 := eq_true q585
               go_wp2_with (first | ((with_reducible refine gate_dst (N := 9) rfl ?_); refine box_event ?hg (N := 9) ?hd (cs := #[.int .i64 0, .int .i64 0, .int .i64 0, .int .i64 0, .int .i64 0]) (t := 144) ?hr ?_; (case hd => rfl); (case hg => rfl); (case hr => first | (go_simp; done) | (go_simp; rfl)); intro gb586 hg w129 hbox hb; have BK586 := Aside0.mk (hbox); have GW586 := Aside0.mk ((by rw [hg]; exact (below_size (by repeat (first | (with_reducible first | exact HB.out | apply below_alloc | apply pw_below_drewN | apply below_drew1 | refine below_set ?_ (Aside0.out (by assumption))) | exact HB.out))) : w.heap.size ≤ gb586)); have GE586 := GW586; replace HB := Aside0.mk (below_step (by repeat (first | (with_reducible first | exact HB.out | apply below_alloc | apply pw_below_drewN | apply below_drew1 | refine below_set ?_ (Aside0.out (by assumption))) | exact HB.out)) hb); have NB583_586 := Aside0.mk ((by rw [hg]; exact Nat.ne_of_lt (blk_lt BK583.out) : gb583 ≠ gb586)); have NB586_583 := Aside0.mk ((by rw [hg]; exact Nat.ne_of_gt (blk_lt BK583.out) : gb586 ≠ gb583)); replace BK583 := Aside0.mk (blk_below (g := gb583) (o := .cells #[.int .i64 a1_0, .int .i64 a1_1, .int .i64 a1_2] 58 (0, 0)) (by repeat (first | (with_reducible first | exact BK583.out | refine blk_drewN ?_ _ | refine blk_drew ?_ | refine blk_alloc ?_ _) | exact BK583.out)) hb); have NB584_586 := Aside0.mk ((by rw [hg]; exact Nat.ne_of_lt (blk_lt BK584.out) : gb584 ≠ gb586)); have NB586_584 := Aside0.mk ((by rw [hg]; exact Nat.ne_of_gt (blk_lt BK584.out) : gb586 ≠ gb584)); replace BK584 := Aside0.mk (blk_below (g := gb584) (o := .cells #[.int .i64 a2_0, .int .i64 a2_1, .int .i64 a2_2] 79 (0, 0)) (by repeat (first | (with_reducible first | exact BK584.out | refine blk_drewN ?_ _ | refine blk_drew ?_ | refine blk_alloc ?_ _) | exact BK584.out)) hb); clear hb hbox hg; have hnb130 := NB586_583.out; have hnc130 := NB583_586.out; have hnb131 := NB586_584.out; have hnc131 := NB584_586.out; obtain ⟨hcz132_0, hcz132_1, hcz132_2, hcz132_3, hcz132_4⟩ := bc5 BK586.out; obtain ⟨hfz132_0, hfz132_1, hfz132_2, hfz132_3, hfz132_4⟩ := bf5 BK586.out; have hnb133 := NB583_584.out; have hnc133 := NB584_583.out; obtain ⟨hcz134_0, hcz134_1, hcz134_2⟩ := bc3 BK583.out; obtain ⟨hfz134_0, hfz134_1, hfz134_2⟩ := bf3 BK583.out; obtain ⟨hcz135_0, hcz135_1, hcz135_2⟩ := bc3 BK584.out; obtain ⟨hfz135_0, hfz135_1, hfz135_2⟩ := bf3 BK584.out))
               go_roundg k2
               case measure => have := HK1.out; have := HK2.out; omega
               case rel => exact ⟨(wrap64 (x8_2 + 1)), (by first | rfl | (simp; done) | (simp [*]; done)), H', ⟨by have := HK1.out; have := HK2.out; omega⟩, ⟨by repeat (first | (with_reducible first | exact BK583.out | refine blk_drewN ?_ _ | refine blk_drew ?_ | refine blk_alloc ?_ _) | refine blk_far ?_ NB583_586.out _ | exact BK583.out)⟩, ⟨by repeat (first | (with_reducible first | exact BK584.out | refine blk_drewN ?_ _ | refine blk_drew ?_ | refine blk_alloc ?_ _) | refine blk_far ?_ NB584_586.out _ | exact BK584.out)⟩, ⟨by repeat (first | (with_reducible first | exact HB.out | apply below_alloc | apply pw_below_drewN | apply below_drew1 | refine below_set ?_ (Aside0.out (by assumption))) | exact HB.out)⟩⟩
            ·rw [if_neg c96] at H
             have c96b0 : (a2_0 == 2) = false := beq_eq_false_iff_ne.mpr c96
             have c96b1 : (a2_0 != 2) = true := bne_iff_ne.mpr c96
             by_cases c136 : a2_0 = 3
             ·rw [if_pos c136] at H
              have c136b0 : (a2_0 == 3) = true := beq_iff_eq.mpr c136
              have c136b1 : (a2_0 != 3) = false := bne_eq_false_iff_eq.mpr c136
              clear c136
              by_cases c137 : a2_1 = ((rd_T144 l0 x8_2).f0)
              ·rw [if_pos c137] at H
               have c137b0 : (a2_1 == ((rd_T144 l0 x8_2).f0)) = true := beq_iff_eq.mpr c137
               have c137b1 : (a2_1 != ((rd_T144 l0 x8_2).f0)) = false := bne_eq_false_iff_eq.mpr c137
               clear c137
               by_cases c138 : a2_2 = x7_1
               ·rw [if_pos c138] at H
                have c138b0 : (a2_2 == x7_1) = true := beq_iff_eq.mpr c138
                have c138b1 : (a2_2 != x7_1) = false := bne_eq_false_iff_eq.mpr c138
                clear c138
                obtain rfl := Option.some.inj H
                have p585 : 0 ≤ (x8_2 : Int) := of_decide_eq_true ‹_›
                have q585 : x8_2 < (l0.length : Int) := of_decide_eq_true ‹_›
                obtain ⟨ad585, e585, hx585_0, hx585_1, hx585_2, hx585_3, hx585_4⟩ := at_T144 HR0.out x8_2 p585 q585
                cases e585
                replace hx585_0 := bl_ HB hx585_0
                replace hx585_1 := bl_ HB hx585_1
                replace hx585_2 := bl_ HB hx585_2
                replace hx585_3 := bl_ HB hx585_3
                replace hx585_4 := bl_ HB hx585_4
                replace p585 := eq_true p585
                replace q585 := eq_true q585
                go_wp2_with (first | ((with_reducible refine gate_dst (N := 9) rfl ?_); refine box_event ?hg (N := 9) ?hd (cs := #[.int .i64 0, .int .i64 0, .int .i64 0, .int .i64 0, .int .i64 0]) (t := 144) ?hr ?_; (case hd => rfl); (case hg => rfl); (case hr => first | (go_simp; done) | (go_simp; rfl)); intro gb586 hg w139 hbox hb; have BK586 := Aside0.mk (hbox); have GW586 := Aside0.mk ((by rw [hg]; exact (below_size (by repeat (first | (with_reducible first | exact HB.out | apply below_alloc | apply pw_below_drewN | apply below_drew1 | refine below_set ?_ (Aside0.out (by assumption))) | exact HB.out))) : w.heap.size ≤ gb586)); have GE586 := GW586; replace HB := Aside0.mk (below_step (by repeat (first | (with_reducible first | exact HB.out | apply below_alloc | apply pw_below_drewN | apply below_drew1 | refine below_set ?_ (Aside0.out (by assumption))) | exact HB.out)) hb); have NB583_586 := Aside0.mk ((by rw [hg]; exact Nat.ne_of_lt (blk_lt BK583.out) : gb583 ≠ gb586)); have NB586_583 := Aside0.mk ((by rw [hg]; exact Nat.ne_of_gt (blk_lt BK583.out) : gb586 ≠ gb583)); replace BK583 := Aside0.mk (blk_below (g := gb583) (o := .cells #[.int .i64 a1_0, .int .i64 a1_1, .int .i64 a1_2] 58 (0, 0)) (by repeat (first | (with_reducible first | exact BK583.out | refine blk_drewN ?_ _ | refine blk_drew ?_ | refine blk_alloc ?_ _) | exact BK583.out)) hb); have NB584_586 := Aside0.mk ((by rw [hg]; exact Nat.ne_of_lt (blk_lt BK584.out) : gb584 ≠ gb586)); have NB586_584 := Aside0.mk ((by rw [hg]; exact Nat.ne_of_gt (blk_lt BK584.out) : gb586 ≠ gb584)); replace BK584 := Aside0.mk (blk_below (g := gb584) (o := .cells #[.int .i64 a2_0, .int .i64 a2_1, .int .i64 a2_2] 79 (0, 0)) (by repeat (first | (with_reducible first | exact BK584.out | refine blk_drewN ?_ _ | refine blk_drew ?_ | refine blk_alloc ?_ _) | exact BK584.out)) hb); clear hb hbox hg; have hnb140 := NB586_583.out; have hnc140 := NB583_586.out; have hnb141 := NB586_584.out; have hnc141 := NB584_586.out; obtain ⟨hcz142_0, hcz142_1, hcz142_2, hcz142_3, hcz142_4⟩ := bc5 BK586.out; obtain ⟨hfz142_0, hfz142_1, hfz142_2, hfz142_3, hfz142_4⟩ := bf5 BK586.out; have hnb143 := NB583_584.out; have hnc143 := NB584_583.out; obtain ⟨hcz144_0, hcz144_1, hcz144_2⟩ := bc3 BK583.out; obtain ⟨hfz144_0, hfz144_1, hfz144_2⟩ := bf3 BK583.out; obtain ⟨hcz145_0, hcz145_1, hcz145_2⟩ := bc3 BK584.out; obtain ⟨hfz145_0, hfz145_1, hfz145_2⟩ := bf3 BK584.out))
                go_ret
                exact ⟨by first | rfl | (simp [errW_none, errW_some] <;> rfl) | (simp [*, errW_none, errW_some] <;> rfl), by repeat (first | (with_reducible first | exact HB.out | apply below_alloc | apply pw_below_drewN | apply below_drew1 | refine below_set ?_ (Aside0.out (by assumption))) | exact HB.out)⟩
               ·rw [if_neg c138] at H
                have c138b0 : (a2_2 == x7_1) = false := beq_eq_false_iff_ne.mpr c138
                have c138b1 : (a2_2 != x7_1) = true := bne_iff_ne.mpr c138
                have H' := Aside0.mk H
                clear H
                have p585 : 0 ≤ (x8_2 : Int) := of_decide_eq_true ‹_›
                have q585 : x8_2 < (l0.length : Int) := of_decide_eq_true ‹_›
                obtain ⟨ad585, e585, hx585_0, hx585_1, hx585_2, hx585_3, hx585_4⟩ := at_T144 HR0.out x8_2 p585 q585
                cases e585
                replace hx585_0 := bl_ HB hx585_0
                replace hx585_1 := bl_ HB hx585_1
                replace hx585_2 := bl_ HB hx585_2
                replace hx585_3 := bl_ HB hx585_3
                replace hx585_4 := bl_ HB hx585_4
                replace p585 := eq_true p585
                replace q585 := eq_true q585
                go_wp2_with (first | ((with_reducible refine gate_dst (N := 9) rfl ?_); refine box_event ?hg (N := 9) ?hd (cs := #[.int .i64 0, .int .i64 0, .int .i64 0, .int .i64 0, .int .i64 0]) (t := 144) ?hr ?_; (case hd => rfl); (case hg => rfl); (case hr => first | (go_simp; done) | (go_simp; rfl)); intro gb586 hg w146 hbox hb; have BK586 := Aside0.mk (hbox); have GW586 := Aside0.mk ((by rw [hg]; exact (below_size (by repeat (first | (with_reducible first | exact HB.out | apply below_alloc | apply pw_below_drewN | apply below_drew1 | refine below_set ?_ (Aside0.out (by assumption))) | exact HB.out))) : w.heap.size ≤ gb586)); have GE586 := GW586; replace HB := Aside0.mk (below_step (by repeat (first | (with_reducible first | exact HB.out | apply below_alloc | apply pw_below_drewN | apply below_drew1 | refine below_set ?_ (Aside0.out (by assumption))) | exact HB.out)) hb); have NB583_586 := Aside0.mk ((by rw [hg]; exact Nat.ne_of_lt (blk_lt BK583.out) : gb583 ≠ gb586)); have NB586_583 := Aside0.mk ((by rw [hg]; exact Nat.ne_of_gt (blk_lt BK583.out) : gb586 ≠ gb583)); replace BK583 := Aside0.mk (blk_below (g := gb583) (o := .cells #[.int .i64 a1_0, .int .i64 a1_1, .int .i64 a1_2] 58 (0, 0)) (by repeat (first | (with_reducible first | exact BK583.out | refine blk_drewN ?_ _ | refine blk_drew ?_ | refine blk_alloc ?_ _) | exact BK583.out)) hb); have NB584_586 := Aside0.mk ((by rw [hg]; exact Nat.ne_of_lt (blk_lt BK584.out) : gb584 ≠ gb586)); have NB586_584 := Aside0.mk ((by rw [hg]; exact Nat.ne_of_gt (blk_lt BK584.out) : gb586 ≠ gb584)); replace BK584 := Aside0.mk (blk_below (g := gb584) (o := .cells #[.int .i64 a2_0, .int .i64 a2_1, .int .i64 a2_2] 79 (0, 0)) (by repeat (first | (with_reducible first | exact BK584.out | refine blk_drewN ?_ _ | refine blk_drew ?_ | refine blk_alloc ?_ _) | exact BK584.out)) hb); clear hb hbox hg; have hnb147 := NB586_583.out; have hnc147 := NB583_586.out; have hnb148 := NB586_584.out; have hnc148 := NB584_586.out; obtain ⟨hcz149_0, hcz149_1, hcz149_2, hcz149_3, hcz149_4⟩ := bc5 BK586.out; obtain ⟨hfz149_0, hfz149_1, hfz149_2, hfz149_3, hfz149_4⟩ := bf5 BK586.out; have hnb150 := NB583_584.out; have hnc150 := NB584_583.out; obtain ⟨hcz151_0, hcz151_1, hcz151_2⟩ := bc3 BK583.out; obtain ⟨hfz151_0, hfz151_1, hfz151_2⟩ := bf3 BK583.out; obtain ⟨hcz152_0, hcz152_1, hcz152_2⟩ := bc3 BK584.out; obtain ⟨hfz152_0, hfz152_1, hfz152_2⟩ := bf3 BK584.out))
                go_roundg k2
                case measure => have := HK1.out; have := HK2.out; omega
                case rel => exact ⟨(wrap64 (x8_2 + 1)), (by first | rfl | (simp; done) | (simp [*]; done)), H', ⟨by have := HK1.out; have := HK2.out; omega⟩, ⟨by repeat (first | (with_reducible first | exact BK583.out | refine blk_drewN ?_ _ | refine blk_drew ?_ | refine blk_alloc ?_ _) | refine blk_far ?_ NB583_586.out _ | exact BK583.out)⟩, ⟨by repeat (first | (with_reducible first | exact BK584.out | refine blk_drewN ?_ _ | refine blk_drew ?_ | refine blk_alloc ?_ _) | refine blk_far ?_ NB584_586.out _ | exact BK584.out)⟩, ⟨by repeat (first | (with_reducible first | exact HB.out | apply below_alloc | apply pw_below_drewN | apply below_drew1 | refine below_set ?_ (Aside0.out (by assumption))) | exact HB.out)⟩⟩
              ·rw [if_neg c137] at H
               have c137b0 : (a2_1 == ((rd_T144 l0 x8_2).f0)) = false := beq_eq_false_iff_ne.mpr c137
               have c137b1 : (a2_1 != ((rd_T144 l0 x8_2).f0)) = true := bne_iff_ne.mpr c137
               have H' := Aside0.mk H
               clear H
               have p585 : 0 ≤ (x8_2 : Int) := of_decide_eq_true ‹_›
               have q585 : x8_2 < (l0.length : Int) := of_decide_eq_true ‹_›
               obtain ⟨ad585, e585, hx585_0, hx585_1, hx585_2, hx585_3, hx585_4⟩ := at_T144 HR0.out x8_2 p585 q585
               cases e585
               replace hx585_0 := bl_ HB hx585_0
               replace hx585_1 := bl_ HB hx585_1
               replace hx585_2 := bl_ HB hx585_2
               replace hx585_3 := bl_ HB hx585_3
               replace hx585_4 := bl_ HB hx585_4
               replace p585 := eq_true p585
               replace q585 := eq_true q585
               go_wp2_with (first | ((with_reducible refine gate_dst (N := 9) rfl ?_); refine box_event ?hg (N := 9) ?hd (cs := #[.int .i64 0, .int .i64 0, .int .i64 0, .int .i64 0, .int .i64 0]) (t := 144) ?hr ?_; (case hd => rfl); (case hg => rfl); (case hr => first | (go_simp; done) | (go_simp; rfl)); intro gb586 hg w153 hbox hb; have BK586 := Aside0.mk (hbox); have GW586 := Aside0.mk ((by rw [hg]; exact (below_size (by repeat (first | (with_reducible first | exact HB.out | apply below_alloc | apply pw_below_drewN | apply below_drew1 | refine below_set ?_ (Aside0.out (by assumption))) | exact HB.out))) : w.heap.size ≤ gb586)); have GE586 := GW586; replace HB := Aside0.mk (below_step (by repeat (first | (with_reducible first | exact HB.out | apply below_alloc | apply pw_below_drewN | apply below_drew1 | refine below_set ?_ (Aside0.out (by assumption))) | exact HB.out)) hb); have NB583_586 := Aside0.mk ((by rw [hg]; exact Nat.ne_of_lt (blk_lt BK583.out) : gb583 ≠ gb586)); have NB586_583 := Aside0.mk ((by rw [hg]; exact Nat.ne_of_gt (blk_lt BK583.out) : gb586 ≠ gb583)); replace BK583 := Aside0.mk (blk_below (g := gb583) (o := .cells #[.int .i64 a1_0, .int .i64 a1_1, .int .i64 a1_2] 58 (0, 0)) (by repeat (first | (with_reducible first | exact BK583.out | refine blk_drewN ?_ _ | refine blk_drew ?_ | refine blk_alloc ?_ _) | exact BK583.out)) hb); have NB584_586 := Aside0.mk ((by rw [hg]; exact Nat.ne_of_lt (blk_lt BK584.out) : gb584 ≠ gb586)); have NB586_584 := Aside0.mk ((by rw [hg]; exact Nat.ne_of_gt (blk_lt BK584.out) : gb586 ≠ gb584)); replace BK584 := Aside0.mk (blk_below (g := gb584) (o := .cells #[.int .i64 a2_0, .int .i64 a2_1, .int .i64 a2_2] 79 (0, 0)) (by repeat (first | (with_reducible first | exact BK584.out | refine blk_drewN ?_ _ | refine blk_drew ?_ | refine blk_alloc ?_ _) | exact BK584.out)) hb); clear hb hbox hg; have hnb154 := NB586_583.out; have hnc154 := NB583_586.out; have hnb155 := NB586_584.out; have hnc155 := NB584_586.out; obtain ⟨hcz156_0, hcz156_1, hcz156_2, hcz156_3, hcz156_4⟩ := bc5 BK586.out; obtain ⟨hfz156_0, hfz156_1, hfz156_2, hfz156_3, hfz156_4⟩ := bf5 BK586.out; have hnb157 := NB583_584.out; have hnc157 := NB584_583.out; obtain ⟨hcz158_0, hcz158_1, hcz158_2⟩ := bc3 BK583.out; obtain ⟨hfz158_0, hfz158_1, hfz158_2⟩ := bf3 BK583.out; obtain ⟨hcz159_0, hcz159_1, hcz159_2⟩ := bc3 BK584.out; obtain ⟨hfz159_0, hfz159_1, hfz159_2⟩ := bf3 BK584.out))
               go_roundg k2
               case measure => have := HK1.out; have := HK2.out; omega
               case rel => exact ⟨(wrap64 (x8_2 + 1)), (by first | rfl | (simp; done) | (simp [*]; done)), H', ⟨by have := HK1.out; have := HK2.out; omega⟩, ⟨by repeat (first | (with_reducible first | exact BK583.out | refine blk_drewN ?_ _ | refine blk_drew ?_ | refine blk_alloc ?_ _) | refine blk_far ?_ NB583_586.out _ | exact BK583.out)⟩, ⟨by repeat (first | (with_reducible first | exact BK584.out | refine blk_drewN ?_ _ | refine blk_drew ?_ | refine blk_alloc ?_ _) | refine blk_far ?_ NB584_586.out _ | exact BK584.out)⟩, ⟨by repeat (first | (with_reducible first | exact HB.out | apply below_alloc | apply pw_below_drewN | apply below_drew1 | refine below_set ?_ (Aside0.out (by assumption))) | exact HB.out)⟩⟩
             ·rw [if_neg c136] at H
              have c136b0 : (a2_0 == 3) = false := beq_eq_false_iff_ne.mpr c136
              have c136b1 : (a2_0 != 3) = true := bne_iff_ne.mpr c136
              have H' := Aside0.mk H
              clear H
              have p585 : 0 ≤ (x8_2 : Int) := of_decide_eq_true ‹_›
              have q585 : x8_2 < (l0.length : Int) := of_decide_eq_true ‹_›
              obtain ⟨ad585, e585, hx585_0, hx585_1, hx585_2, hx585_3, hx585_4⟩ := at_T144 HR0.out x8_2 p585 q585
              cases e585
              replace hx585_0 := bl_ HB hx585_0
              replace hx585_1 := bl_ HB hx585_1
              replace hx585_2 := bl_ HB hx585_2
              replace hx585_3 := bl_ HB hx585_3
              replace hx585_4 := bl_ HB hx585_4
              replace p585 := eq_true p585
              replace q585 := eq_true q585
              go_wp2_with (first | ((with_reducible refine gate_dst (N := 9) rfl ?_); refine box_event ?hg (N := 9) ?hd (cs := #[.int .i64 0, .int .i64 0, .int .i64 0, .int .i64 0, .int .i64 0]) (t := 144) ?hr ?_; (case hd => rfl); (case hg => rfl); (case hr => first | (go_simp; done) | (go_simp; rfl)); intro gb586 hg w160 hbox hb; have BK586 := Aside0.mk (hbox); have GW586 := Aside0.mk ((by rw [hg]; exact (below_size (by repeat (first | (with_reducible first | exact HB.out | apply below_alloc | apply pw_below_drewN | apply below_drew1 | refine below_set ?_ (Aside0.out (by assumption))) | exact HB.out))) : w.heap.size ≤ gb586)); have GE586 := GW586; replace HB := Aside0.mk (below_step (by repeat (first | (with_reducible first | exact HB.out | apply below_alloc | apply pw_below_drewN | apply below_drew1 | refine below_set ?_ (Aside0.out (by assumption))) | exact HB.out)) hb); have NB583_586 := Aside0.mk ((by rw [hg]; exact Nat.ne_of_lt (blk_lt BK583.out) : gb583 ≠ gb586)); have NB586_583 := Aside0.mk ((by rw [hg]; exact Nat.ne_of_gt (blk_lt BK583.out) : gb586 ≠ gb583)); replace BK583 := Aside0.mk (blk_below (g := gb583) (o := .cells #[.int .i64 a1_0, .int .i64 a1_1, .int .i64 a1_2] 58 (0, 0)) (by repeat (first | (with_reducible first | exact BK583.out | refine blk_drewN ?_ _ | refine blk_drew ?_ | refine blk_alloc ?_ _) | exact BK583.out)) hb); have NB584_586 := Aside0.mk ((by rw [hg]; exact Nat.ne_of_lt (blk_lt BK584.out) : gb584 ≠ gb586)); have NB586_584 := Aside0.mk ((by rw [hg]; exact Nat.ne_of_gt (blk_lt BK584.out) : gb586 ≠ gb584)); replace BK584 := Aside0.mk (blk_below (g := gb584) (o := .cells #[.int .i64 a2_0, .int .i64 a2_1, .int .i64 a2_2] 79 (0, 0)) (by repeat (first | (with_reducible first | exact BK584.out | refine blk_drewN ?_ _ | refine blk_drew ?_ | refine blk_alloc ?_ _) | exact BK584.out)) hb); clear hb hbox hg; have hnb161 := NB586_583.out; have hnc161 := NB583_586.out; have hnb162 := NB586_584.out; have hnc162 := NB584_586.out; obtain ⟨hcz163_0, hcz163_1, hcz163_2, hcz163_3, hcz163_4⟩ := bc5 BK586.out; obtain ⟨hfz163_0, hfz163_1, hfz163_2, hfz163_3, hfz163_4⟩ := bf5 BK586.out; have hnb164 := NB583_584.out; have hnc164 := NB584_583.out; obtain ⟨hcz165_0, hcz165_1, hcz165_2⟩ := bc3 BK583.out; obtain ⟨hfz165_0, hfz165_1, hfz165_2⟩ := bf3 BK583.out; obtain ⟨hcz166_0, hcz166_1, hcz166_2⟩ := bc3 BK584.out; obtain ⟨hfz166_0, hfz166_1, hfz166_2⟩ := bf3 BK584.out))
              go_roundg k2
              case measure => have := HK1.out; have := HK2.out; omega
              case rel => exact ⟨(wrap64 (x8_2 + 1)), (by first | rfl | (simp; done) | (simp [*]; done)), H', ⟨by have := HK1.out; have := HK2.out; omega⟩, ⟨by repeat (first | (with_reducible first | exact BK583.out | refine blk_drewN ?_ _ | refine blk_drew ?_ | refine blk_alloc ?_ _) | refine blk_far ?_ NB583_586.out _ | exact BK583.out)⟩, ⟨by repeat (first | (with_reducible first | exact BK584.out | refine blk_drewN ?_ _ | refine blk_drew ?_ | refine blk_alloc ?_ _) | refine blk_far ?_ NB584_586.out _ | exact BK584.out)⟩, ⟨by repeat (first | (with_reducible first | exact HB.out | apply below_alloc | apply pw_below_drewN | apply below_drew1 | refine below_set ?_ (Aside0.out (by assumption))) | exact HB.out)⟩⟩
          ·rw [if_neg c15] at H
           have c15b0 : decide (x7_1 ≤ ((rd_T144 l0 x8_2).f2)) = false := decide_eq_false c15
           clear c15
           have H' := Aside0.mk H
           clear H
           have p585 : 0 ≤ (x8_2 : Int) := of_decide_eq_true ‹_›
           have q585 : x8_2 < (l0.length : Int) := of_decide_eq_true ‹_›
           obtain ⟨ad585, e585, hx585_0, hx585_1, hx585_2, hx585_3, hx585_4⟩ := at_T144 HR0.out x8_2 p585 q585
           cases e585
           replace hx585_0 := bl_ HB hx585_0
           replace hx585_1 := bl_ HB hx585_1
           replace hx585_2 := bl_ HB hx585_2
           replace hx585_3 := bl_ HB hx585_3
           replace hx585_4 := bl_ HB hx585_4
           replace p585 := eq_true p585
           replace q585 := eq_true q585
           go_wp2_with (first | ((with_reducible refine gate_dst (N := 9) rfl ?_); refine box_event ?hg (N := 9) ?hd (cs := #[.int .i64 0, .int .i64 0, .int .i64 0, .int .i64 0, .int .i64 0]) (t := 144) ?hr ?_; (case hd => rfl); (case hg => rfl); (case hr => first | (go_simp; done) | (go_simp; rfl)); intro gb586 hg w167 hbox hb; have BK586 := Aside0.mk (hbox); have GW586 := Aside0.mk ((by rw [hg]; exact (below_size (by repeat (first | (with_reducible first | exact HB.out | apply below_alloc | apply pw_below_drewN | apply below_drew1 | refine below_set ?_ (Aside0.out (by assumption))) | exact HB.out))) : w.heap.size ≤ gb586)); have GE586 := GW586; replace HB := Aside0.mk (below_step (by repeat (first | (with_reducible first | exact HB.out | apply below_alloc | apply pw_below_drewN | apply below_drew1 | refine below_set ?_ (Aside0.out (by assumption))) | exact HB.out)) hb); have NB583_586 := Aside0.mk ((by rw [hg]; exact Nat.ne_of_lt (blk_lt BK583.out) : gb583 ≠ gb586)); have NB586_583 := Aside0.mk ((by rw [hg]; exact Nat.ne_of_gt (blk_lt BK583.out) : gb586 ≠ gb583)); replace BK583 := Aside0.mk (blk_below (g := gb583) (o := .cells #[.int .i64 a1_0, .int .i64 a1_1, .int .i64 a1_2] 58 (0, 0)) (by repeat (first | (with_reducible first | exact BK583.out | refine blk_drewN ?_ _ | refine blk_drew ?_ | refine blk_alloc ?_ _) | exact BK583.out)) hb); have NB584_586 := Aside0.mk ((by rw [hg]; exact Nat.ne_of_lt (blk_lt BK584.out) : gb584 ≠ gb586)); have NB586_584 := Aside0.mk ((by rw [hg]; exact Nat.ne_of_gt (blk_lt BK584.out) : gb586 ≠ gb584)); replace BK584 := Aside0.mk (blk_below (g := gb584) (o := .cells #[.int .i64 a2_0, .int .i64 a2_1, .int .i64 a2_2] 79 (0, 0)) (by repeat (first | (with_reducible first | exact BK584.out | refine blk_drewN ?_ _ | refine blk_drew ?_ | refine blk_alloc ?_ _) | exact BK584.out)) hb); clear hb hbox hg; have hnb168 := NB586_583.out; have hnc168 := NB583_586.out; have hnb169 := NB586_584.out; have hnc169 := NB584_586.out; obtain ⟨hcz170_0, hcz170_1, hcz170_2, hcz170_3, hcz170_4⟩ := bc5 BK586.out; obtain ⟨hfz170_0, hfz170_1, hfz170_2, hfz170_3, hfz170_4⟩ := bf5 BK586.out; have hnb171 := NB583_584.out; have hnc171 := NB584_583.out; obtain ⟨hcz172_0, hcz172_1, hcz172_2⟩ := bc3 BK583.out; obtain ⟨hfz172_0, hfz172_1, hfz172_2⟩ := bf3 BK583.out))
           go_roundg k2
           case measure => have := HK1.out; have := HK2.out; omega
           case rel => exact ⟨(wrap64 (x8_2 + 1)), (by first | rfl | (simp; done) | (simp [*]; done)), H', ⟨by have := HK1.out; have := HK2.out; omega⟩, ⟨by repeat (first | (with_reducible first | exact BK583.out | refine blk_drewN ?_ _ | refine blk_drew ?_ | refine blk_alloc ?_ _) | refine blk_far ?_ NB583_586.out _ | exact BK583.out)⟩, ⟨by repeat (first | (with_reducible first | exact BK584.out | refine blk_drewN ?_ _ | refine blk_drew ?_ | refine blk_alloc ?_ _) | refine blk_far ?_ NB584_586.out _ | exact BK584.out)⟩, ⟨by repeat (first | (with_reducible first | exact HB.out | apply below_alloc | apply pw_below_drewN | apply below_drew1 | refine below_set ?_ (Aside0.out (by assumption))) | exact HB.out)⟩⟩
         ·rw [if_neg c14] at H
          have c14b0 : decide (((rd_T144 l0 x8_2).f1) ≤ x7_1) = false := decide_eq_false c14
          clear c14
          have H' := Aside0.mk H
          clear H
          have p585 : 0 ≤ (x8_2 : Int) := of_decide_eq_true ‹_›
          have q585 : x8_2 < (l0.length : Int) := of_decide_eq_true ‹_›
          obtain ⟨ad585, e585, hx585_0, hx585_1, hx585_2, hx585_3, hx585_4⟩ := at_T144 HR0.out x8_2 p585 q585
          cases e585
          replace hx585_0 := bl_ HB hx585_0
          replace hx585_1 := bl_ HB hx585_1
          replace hx585_2 := bl_ HB hx585_2
          replace hx585_3 := bl_ HB hx585_3
          replace hx585_4 := bl_ HB hx585_4
          replace p585 := eq_true p585
          replace q585 := eq_true q585
          go_wp2_with (first | ((with_reducible refine gate_dst (N := 9) rfl ?_); refine box_event ?hg (N := 9) ?hd (cs := #[.int .i64 0, .int .i64 0, .int .i64 0, .int .i64 0, .int .i64 0]) (t := 144) ?hr ?_; (case hd => rfl); (case hg => rfl); (case hr => first | (go_simp; done) | (go_simp; rfl)); intro gb586 hg w173 hbox hb; have BK586 := Aside0.mk (hbox); have GW586 := Aside0.mk ((by rw [hg]; exact (below_size (by repeat (first | (with_reducible first | exact HB.out | apply below_alloc | apply pw_below_drewN | apply below_drew1 | refine below_set ?_ (Aside0.out (by assumption))) | exact HB.out))) : w.heap.size ≤ gb586)); have GE586 := GW586; replace HB := Aside0.mk (below_step (by repeat (first | (with_reducible first | exact HB.out | apply below_alloc | apply pw_below_drewN | apply below_drew1 | refine below_set ?_ (Aside0.out (by assumption))) | exact HB.out)) hb); have NB583_586 := Aside0.mk ((by rw [hg]; exact Nat.ne_of_lt (blk_lt BK583.out) : gb583 ≠ gb586)); have NB586_583 := Aside0.mk ((by rw [hg]; exact Nat.ne_of_gt (blk_lt BK583.out) : gb586 ≠ gb583)); replace BK583 := Aside0.mk (blk_below (g := gb583) (o := .cells #[.int .i64 a1_0, .int .i64 a1_1, .int .i64 a1_2] 58 (0, 0)) (by repeat (first | (with_reducible first | exact BK583.out | refine blk_drewN ?_ _ | refine blk_drew ?_ | refine blk_alloc ?_ _) | exact BK583.out)) hb); have NB584_586 := Aside0.mk ((by rw [hg]; exact Nat.ne_of_lt (blk_lt BK584.out) : gb584 ≠ gb586)); have NB586_584 := Aside0.mk ((by rw [hg]; exact Nat.ne_of_gt (blk_lt BK584.out) : gb586 ≠ gb584)); replace BK584 := Aside0.mk (blk_below (g := gb584) (o := .cells #[.int .i64 a2_0, .int .i64 a2_1, .int .i64 a2_2] 79 (0, 0)) (by repeat (first | (with_reducible first | exact BK584.out | refine blk_drewN ?_ _ | refine blk_drew ?_ | refine blk_alloc ?_ _) | exact BK584.out)) hb); clear hb hbox hg; have hnb174 := NB586_583.out; have hnc174 := NB583_586.out; have hnb175 := NB586_584.out; have hnc175 := NB584_586.out; obtain ⟨hcz176_0, hcz176_1, hcz176_2, hcz176_3, hcz176_4⟩ := bc5 BK586.out; obtain ⟨hfz176_0, hfz176_1, hfz176_2, hfz176_3, hfz176_4⟩ := bf5 BK586.out; have hnb177 := NB583_584.out; have hnc177 := NB584_583.out; obtain ⟨hcz178_0, hcz178_1, hcz178_2⟩ := bc3 BK583.out; obtain ⟨hfz178_0, hfz178_1, hfz178_2⟩ := bf3 BK583.out))
          go_roundg k2
          case measure => have := HK1.out; have := HK2.out; omega
          case rel => exact ⟨(wrap64 (x8_2 + 1)), (by first | rfl | (simp; done) | (simp [*]; done)), H', ⟨by have := HK1.out; have := HK2.out; omega⟩, ⟨by repeat (first | (with_reducible first | exact BK583.out | refine blk_drewN ?_ _ | refine blk_drew ?_ | refine blk_alloc ?_ _) | refine blk_far ?_ NB583_586.out _ | exact BK583.out)⟩, ⟨by repeat (first | (with_reducible first | exact BK584.out | refine blk_drewN ?_ _ | refine blk_drew ?_ | refine blk_alloc ?_ _) | refine blk_far ?_ NB584_586.out _ | exact BK584.out)⟩, ⟨by repeat (first | (with_reducible first | exact HB.out | apply below_alloc | apply pw_below_drewN | apply below_drew1 | refine below_set ?_ (Aside0.out (by assumption))) | exact HB.out)⟩⟩
        ·rw [if_neg c13] at H
         have c13b0 : (((rd_T144 l0 x8_2).f0) == a1_0) = false := beq_eq_false_iff_ne.mpr c13
         have c13b1 : (((rd_T144 l0 x8_2).f0) != a1_0) = true := bne_iff_ne.mpr c13
         have H' := Aside0.mk H
         clear H
         have p585 : 0 ≤ (x8_2 : Int) := of_decide_eq_true ‹_›
         have q585 : x8_2 < (l0.length : Int) := of_decide_eq_true ‹_›
         obtain ⟨ad585, e585, hx585_0, hx585_1, hx585_2, hx585_3, hx585_4⟩ := at_T144 HR0.out x8_2 p585 q585
         cases e585
         replace hx585_0 := bl_ HB hx585_0
         replace hx585_1 := bl_ HB hx585_1
         replace hx585_2 := bl_ HB hx585_2
         replace hx585_3 := bl_ HB hx585_3
         replace hx585_4 := bl_ HB hx585_4
         replace p585 := eq_true p585
         replace q585 := eq_true q585
         go_wp2_with (first | ((with_reducible refine gate_dst (N := 9) rfl ?_); refine box_event ?hg (N := 9) ?hd (cs := #[.int .i64 0, .int .i64 0, .int .i64 0, .int .i64 0, .int .i64 0]) (t := 144) ?hr ?_; (case hd => rfl); (case hg => rfl); (case hr => first | (go_simp; done) | (go_simp; rfl)); intro gb586 hg w179 hbox hb; have BK586 := Aside0.mk (hbox); have GW586 := Aside0.mk ((by rw [hg]; exact (below_size (by repeat (first | (with_reducible first | exact HB.out | apply below_alloc | apply pw_below_drewN | apply below_drew1 | refine below_set ?_ (Aside0.out (by assumption))) | exact HB.out))) : w.heap.size ≤ gb586)); have GE586 := GW586; replace HB := Aside0.mk (below_step (by repeat (first | (with_reducible first | exact HB.out | apply below_alloc | apply pw_below_drewN | apply below_drew1 | refine below_set ?_ (Aside0.out (by assumption))) | exact HB.out)) hb); have NB583_586 := Aside0.mk ((by rw [hg]; exact Nat.ne_of_lt (blk_lt BK583.out) : gb583 ≠ gb586)); have NB586_583 := Aside0.mk ((by rw [hg]; exact Nat.ne_of_gt (blk_lt BK583.out) : gb586 ≠ gb583)); replace BK583 := Aside0.mk (blk_below (g := gb583) (o := .cells #[.int .i64 a1_0, .int .i64 a1_1, .int .i64 a1_2] 58 (0, 0)) (by repeat (first | (with_reducible first | exact BK583.out | refine blk_drewN ?_ _ | refine blk_drew ?_ | refine blk_alloc ?_ _) | exact BK583.out)) hb); have NB584_586 := Aside0.mk ((by rw [hg]; exact Nat.ne_of_lt (blk_lt BK584.out) : gb584 ≠ gb586)); have NB586_584 := Aside0.mk ((by rw [hg]; exact Nat.ne_of_gt (blk_lt BK584.out) : gb586 ≠ gb584)); replace BK584 := Aside0.mk (blk_below (g := gb584) (o := .cells #[.int .i64 a2_0, .int .i64 a2_1, .int .i64 a2_2] 79 (0, 0)) (by repeat (first | (with_reducible first | exact BK584.out | refine blk_drewN ?_ _ | refine blk_drew ?_ | refine blk_alloc ?_ _) | exact BK584.out)) hb); clear hb hbox hg; have hnb180 := NB586_583.out; have hnc180 := NB583_586.out; have hnb181 := NB586_584.out; have hnc181 := NB584_586.out; obtain ⟨hcz182_0, hcz182_1, hcz182_2, hcz182_3, hcz182_4⟩ := bc5 BK586.out; obtain ⟨hfz182_0, hfz182_1, hfz182_2, hfz182_3, hfz182_4⟩ := bf5 BK586.out; have hnb183 := NB583_584.out; have hnc183 := NB584_583.out; obtain ⟨hcz184_0, hcz184_1, hcz184_2⟩ := bc3 BK583.out; obtain ⟨hfz184_0, hfz184_1, hfz184_2⟩ := bf3 BK583.out))
         go_roundg k2
         case measure => have := HK1.out; have := HK2.out; omega
         case rel => exact ⟨(wrap64 (x8_2 + 1)), (by first | rfl | (simp; done) | (simp [*]; done)), H', ⟨by have := HK1.out; have := HK2.out; omega⟩, ⟨by repeat (first | (with_reducible first | exact BK583.out | refine blk_drewN ?_ _ | refine blk_drew ?_ | refine blk_alloc ?_ _) | refine blk_far ?_ NB583_586.out _ | exact BK583.out)⟩, ⟨by repeat (first | (with_reducible first | exact BK584.out | refine blk_drewN ?_ _ | refine blk_drew ?_ | refine blk_alloc ?_ _) | refine blk_far ?_ NB584_586.out _ | exact BK584.out)⟩, ⟨by repeat (first | (with_reducible first | exact HB.out | apply below_alloc | apply pw_below_drewN | apply below_drew1 | refine below_set ?_ (Aside0.out (by assumption))) | exact HB.out)⟩⟩
       ·rw [if_neg c12] at H
        exact absurd H (by simp)
      ·rw [if_neg c11] at H
       have c11b0 : decide (x8_2 < (l0.length : Int)) = false := decide_eq_false c11
       clear c11
       have H' := Aside0.mk H
       clear H
       go_wp2
       go_roundg k2
       case measure => have := HK1.out; have := HK2.out; omega
       case rel => exact ⟨(wrap64 (x7_1 + 1)), (by first | rfl | (simp; done) | (simp [*]; done)), H', ⟨by have := HK1.out; have := HK2.out; omega⟩, BK583, BK584, ⟨by repeat (first | (with_reducible first | exact HB.out | apply below_alloc | apply pw_below_drewN | apply below_drew1 | refine below_set ?_ (Aside0.out (by assumption))) | exact HB.out)⟩⟩
   ·rw [if_neg c8] at H
    have c8b0 : decide (x7_1 ≤ a1_2) = false := decide_eq_false c8
    clear c8
    obtain rfl := Option.some.inj H
    have hnb185 := NB583_584.out
    have hnc185 := NB584_583.out
    obtain ⟨hcz186_0, hcz186_1, hcz186_2⟩ := bc3 BK583.out
    obtain ⟨hfz186_0, hfz186_1, hfz186_2⟩ := bf3 BK583.out
    go_wp2
    go_ret
    exact ⟨by first | rfl | (simp [errW_none, errW_some] <;> rfl) | (simp [*, errW_none, errW_some] <;> rfl), by repeat (first | (with_reducible first | exact HB.out | apply below_alloc | apply pw_below_drewN | apply below_drew1 | refine below_set ?_ (Aside0.out (by assumption))) | exact HB.out)⟩

end Go.Proofs.Ytiaiecfnpompcaa.T
