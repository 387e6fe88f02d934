-- cut down, squeezed and laid together by pack.py (a program of this repository) out of this seat's texts
import Derived.ChangeKeysEq
import Derived.Test.YtiaiecfnpompcaaZD8
import Derived.Test.YtiaiecfnpompcaaZD2
import Derived.Test.YtiaiecfnpompcaaZD7
import Derived.Test.YtiaiecfnpompcaaZD9
import Derived.Test.YtiaiecfnpompcaaZD4
import Derived.Test.YtiaiecfnpompcaaZD3
import Derived.Test.YtiaiecfnpompcaaZD6
import Derived.Test.YtiaiecfnpompcaaZD5
import Derived.Test.YtiaiecfnpompcaaZD1
namespace Go.Proofs.Ytiaiecfnpompcaa.T
open Go.RowKit Go.Proofs.YtiaiecfnpompcaaW.PrintWords Go.Proofs.YtiaiecfnpompcaaW.PrintLast Go.Proofs.YtiaiecfnpompcaaW.PrintMore
attribute [local go_sem] max2_int min2_int max_two min_two max_three min_three max_four min_four   -- for this text's walks alone
set_option linter.unusedVariables false
set_option linter.unusedSimpArgs false
attribute [local go_sem] wl_100001

mutual
def mill_Check.l0 : Nat → List (S144) → List (S144) → Int → Int → Option (Int)
 | 0, _, _, _, _ => none
 | k + 1, x0, x12, x13, x14 => if x14 < x13 then (if 0 ≤ x14 then (if x14 < (x12.length : Int) then ((mill_run_isValid.f ((rd_T144 x12 x14).f0) ((rd_T144 x12 x14).f1) ((rd_T144 x12 x14).f2) ((rd_T144 x12 x14).f3) ((rd_T144 x12 x14).f4)).bind fun t165 => (if t165 = true then (if x14 ≤ (x0.length : Int) then ((some (x0.take (x14 : Int).toNat : List (S144))).bind fun y166 => (mill_Check.l1 k x0 x12 x13 x14 y166 (y166.length : Int) 0 ((rd_T144 x12 x14).f0) ((rd_T144 x12 x14).f1) ((rd_T144 x12 x14).f2) ((rd_T144 x12 x14).f3) ((rd_T144 x12 x14).f4))) else (none)) else (some 2))) else (none)) else (none)) else (some 0)
def mill_Check.l1 : Nat → List (S144) → List (S144) → Int → Int → List (S144) → Int → Int → Int → Int → Int → Int → Int → Option (Int)
 | 0, _, _, _, _, _, _, _, _, _, _, _, _ => none
 | k + 1, x0, x12, x13, x14, x25, x26, x27, x165000, x165001, x165002, x165003, x165004 => if x27 < x26 then (if 0 ≤ x27 then (if x27 < (x25.length : Int) then ((mill_run_hours.f ((rd_T144 x25 x27).f0) ((rd_T144 x25 x27).f1) ((rd_T144 x25 x27).f2) ((rd_T144 x25 x27).f3) ((rd_T144 x25 x27).f4) x165000 x165001 x165002).bind fun bt172 => (if bt172.1 ≤ bt172.2 then (some 6) else (mill_Check.l1 k x0 x12 x13 x14 x25 x26 (wrap64 (x27 + 1)) x165000 x165001 x165002 x165003 x165004))) else (none)) else (none)) else (mill_Check.l0 k x0 x12 x13 (wrap64 (x14 + 1)))
end
def mill_Check.f (k : Nat) (l0 : List (S144)) : Option (Int) := if (l0.length : Int) > 60 then (some 5) else (mill_Check.l0 k l0 l0 (l0.length : Int) 0)
set_option maxHeartbeats 8000000 in
set_option maxRecDepth 100000 in
theorem mill_Check.calls (k : Nat) (A0 : Option Addr) (c0 : Nat) (l0 : List (S144)) (r : Int) (w : World) (hr0 : Kd.C k144 w A0 l0.length l0) (hc0 : l0.length ≤ c0) (h : mill_Check.f k l0 = some r) :
  Calls Try.prog 32 #[.slice A0 l0.length c0] w fun e w' => e = .returned (.int .i64 r) ∧ Below w.heap.size w w' := by
 have hu144 := Try.underlying144
 have hu146 := Try.underlying146
 have HR0 := Aside0.mk hr0
 have HC0 := Aside0.mk hc0
 clear hr0 hc0
 have HB := Aside0.mk (Below.refl w.heap.size w)
 have H : (if (l0.length : Int) > 60 then (some 5) else (mill_Check.l0 k l0 l0 (l0.length : Int) 0)) = some r := h
 clear h
 by_cases c2 : (l0.length : Int) > 60
 ·rw [if_pos c2] at H
  have c2b0 : decide (60 < (l0.length : Int)) = true := decide_eq_true c2
  have c2b1 : decide (60 < l0.length) = true := decide_eq_true (by omega)
  clear c2
  obtain rfl := Option.some.inj H
  go_enter Try.func32, Try.ntmps32
  go_wp2
  go_ret
  exact ⟨by first | rfl | (simp [errW_none, errW_some] <;> rfl) | (simp [*, errW_none, errW_some] <;> rfl), by repeat (first | (with_reducible first | exact HB.out | apply below_alloc | apply pw_below_drewN | apply below_drew1) | exact HB.out)⟩
 ·rw [if_neg c2] at H
  have c2b0 : decide (60 < (l0.length : Int)) = false := decide_eq_false c2
  have c2b1 : decide (60 < l0.length) = false := decide_eq_false (by omega)
  clear c2
  have H' := Aside0.mk H
  clear H
  go_enter Try.func32, Try.ntmps32
  go_wp2
  go_loopg [14] k (fun kq v14 w' => ∃ (x14_1 : Int), v14 = .int .i64 x14_1 ∧ Aside0 (mill_Check.l0 kq l0 l0 (l0.length : Int) x14_1 = some r) ∧ Aside0 (kq ≤ k) ∧ Aside0 (Below w.heap.size w w'))
  case atStart => exact ⟨(0), (by first | rfl | (simp; done) | (simp [*]; done)), H', ⟨Nat.le_refl _⟩, ⟨by repeat (first | (with_reducible first | exact HB.out | apply below_alloc | apply pw_below_drewN | apply below_drew1) | exact HB.out)⟩⟩
  case round =>
   clear H'
   try clear c2; try clear c2b0; try clear c2b1; try clear p2
   obtain ⟨x14_1, rfl, HA, HK1, HB⟩ := hrel
   cases gk with
   | zero => exact absurd HA.out (by simp [mill_Check.l0])
   | succ k1 =>
    have H := HA.out
    clear HA
    simp only [mill_Check.l0] at H
    by_cases c3 : x14_1 < (l0.length : Int)
    ·rw [if_pos c3] at H
     have c3b0 : decide (x14_1 < (l0.length : Int)) = true := decide_eq_true c3
     clear c3
     by_cases c4 : 0 ≤ x14_1
     ·rw [if_pos c4] at H
      have c4b0 : decide (0 ≤ x14_1) = true := decide_eq_true c4
      clear c4
      by_cases c5 : x14_1 < (l0.length : Int)
      ·rw [if_pos c5] at H
       have c5b0 : decide (x14_1 < (l0.length : Int)) = true := decide_eq_true c5
       clear c5
       replace H := Option.bind_eq_some_iff.mp H
       obtain ⟨t165, A60, H⟩ := H; (try dsimp only at H)
       have A6 := Aside0.mk A60
       clear A60
       by_cases c7 : t165 = true
       ·subst c7
        have H1 : (if x14_1 ≤ (l0.length : Int) then ((some (l0.take (x14_1 : Int).toNat : List (S144))).bind fun y166 => (mill_Check.l1 k1 l0 l0 (l0.length : Int) x14_1 y166 (y166.length : Int) 0 ((rd_T144 l0 x14_1).f0) ((rd_T144 l0 x14_1).f1) ((rd_T144 l0 x14_1).f2) ((rd_T144 l0 x14_1).f3) ((rd_T144 l0 x14_1).f4))) else (none)) = some r := by rw [if_pos rfl] at H; exact H
        clear H
        have H := H1
        clear H1
        have c8b0 := eq_true (of_decide_eq_true (by first | (with_reducible assumption) | assumption) : 0 ≤ x14_1)
        by_cases c9 : x14_1 ≤ (l0.length : Int)
        ·rw [if_pos c9] at H
         have c9b0 := eq_true c9
         have c9b1 : decide (x14_1 ≤ (l0.length : Int)) = true := decide_eq_true c9
         clear c9
         obtain ⟨y166, hy166⟩ : ∃ y_ : List (S144), y_ = (l0.take (x14_1 : Int).toNat) := ⟨_, rfl⟩
         replace H : (mill_Check.l1 k1 l0 l0 (l0.length : Int) x14_1 y166 (y166.length : Int) 0 ((rd_T144 l0 x14_1).f0) ((rd_T144 l0 x14_1).f1) ((rd_T144 l0 x14_1).f2) ((rd_T144 l0 x14_1).f3) ((rd_T144 l0 x14_1).f4)) = some r := by first | (rw [hy166]; with_reducible exact H) | (have H2_ := (Option.bind_some _ _).symm.trans H; rw [hy166]; with_reducible exact H2_) | (have H2_ := (Option.bind_some _ _).symm.trans H; with_reducible exact H2_) | with_reducible exact H | (rw [hy166]; exact H) | exact H
         have Ny166 := Aside0.mk hy166
         clear hy166
         have H' := Aside0.mk H
         clear H
         have p163 : 0 ≤ (x14_1 : Int) := of_decide_eq_true (by first | (with_reducible assumption) | assumption)
         have q163 : x14_1 < (l0.length : Int) := of_decide_eq_true (by first | (with_reducible assumption) | assumption)
         obtain ⟨ad163, e163, hx163_0, hx163_1, hx163_2, hx163_3, hx163_4⟩ := at_T144 HR0.out x14_1 p163 q163
         cases e163
         replace hx163_0 := (HB.out.cell (World.block_lt_of_cell? w _ hx163_0)).trans hx163_0
         replace hx163_1 := (HB.out.cell (World.block_lt_of_cell? w _ hx163_1)).trans hx163_1
         replace hx163_2 := (HB.out.cell (World.block_lt_of_cell? w _ hx163_2)).trans hx163_2
         replace hx163_3 := (HB.out.cell (World.block_lt_of_cell? w _ hx163_3)).trans hx163_3
         replace hx163_4 := (HB.out.cell (World.block_lt_of_cell? w _ hx163_4)).trans hx163_4
         replace p163 := eq_true p163
         replace q163 := eq_true q163
         go_wp2_with (first | ((with_reducible refine gate_dst (N := 4) rfl ?_); refine box_event ?hg (N := 4) ?hd (cs := #[.int .i64 0, .int .i64 0, .int .i64 0, .int .i64 0, .int .i64 0]) (t := 144) ?hr ?_; (case hd => rfl); (case hg => rfl); (case hr => first | (go_simp; done) | (go_simp; rfl)); intro gb164 hg w10 hbox hb; have BK164 := Aside0.mk (hbox); have GW164 := Aside0.mk ((by rw [hg]; exact (below_size HB.out) : w.heap.size ≤ gb164)); have GE164 := GW164; replace HB := Aside0.mk (below_step HB.out hb); clear hb hbox hg; obtain ⟨hcz11_0, hcz11_1, hcz11_2, hcz11_3, hcz11_4⟩ := bc5 BK164.out; obtain ⟨hfz11_0, hfz11_1, hfz11_2, hfz11_3, hfz11_4⟩ := bf5 BK164.out) | ((with_reducible refine gate_callee (f := 67) rfl ?_); refine goesL_ (some 21) rfl rfl Try.func67 (by kernel_rfl) rfl #[.agg #[.int .i64 ((rd_T144 l0 x14_1).f0), .int .i64 ((rd_T144 l0 x14_1).f1), .int .i64 ((rd_T144 l0 x14_1).f2), .int .i64 ((rd_T144 l0 x14_1).f3), .int .i64 ((rd_T144 l0 x14_1).f4)]] rfl (by (try simp only [List.map_toArray, List.map_cons, List.map_nil]); first | done | rfl | (simp only [List.length_drop, List.length_take]; rfl)) ?_; (with_reducible refine (mill_run_isValid.calls ((rd_T144 l0 x14_1).f0) ((rd_T144 l0 x14_1).f1) ((rd_T144 l0 x14_1).f2) ((rd_T144 l0 x14_1).f3) ((rd_T144 l0 x14_1).f4) true _ A6.out).mono ?_); rintro e w12 ⟨rfl, hb⟩; refine ⟨_, rfl, ?_⟩; replace BK164 := Aside0.mk (blk_below (g := gb164) (o := .cells #[.int .i64 ((rd_T144 l0 x14_1).f0), .int .i64 ((rd_T144 l0 x14_1).f1), .int .i64 ((rd_T144 l0 x14_1).f2), .int .i64 ((rd_T144 l0 x14_1).f3), .int .i64 ((rd_T144 l0 x14_1).f4)] 144 (0, 0)) (by exact bto (bput (bput (bput (bput (bput (BK164.out) _ _) _ _) _ _) _ _) _ _) rfl) hb); replace HB := Aside0.mk (below_step (by repeat (first | (with_reducible first | exact HB.out | apply below_alloc | apply pw_below_drewN | apply below_drew1 | refine below_set ?_ (Aside0.out (by assumption))) | exact HB.out)) hb); (try clear hb); (try clear hb2); (try clear hk); (try clear hi); have q13 : (x14_1 : Int) ≤ ((l0.length : Int) : Int) := of_decide_eq_true (by first | (with_reducible assumption) | assumption); obtain ⟨i013, hi013, _, hsz13, _⟩ := info_parts info144; have hroom13 : l0.length ≤ c0 := HC0.out; have hC13 : Kd.C k144 _ (some ad163) l0.length l0 := HR0.out; have hcut13 := cut_to (P := Try.prog) 56 144 .i64 Try.underlying56 hi013 (some ad163) l0.length c0 x14_1 (of_decide_eq_true (by first | (with_reducible assumption) | assumption)) q13 hroom13; have hr13 := Kd.C_take (m := (x14_1 : Int).toNat) hC13 (by omega); have hy13 : y166.length = (x14_1 : Int).toNat := (by rw [Ny166.out, List.length_take]; omega); rw [← Ny166.out] at hr13; rw [← hy13] at hcut13; have HR169 := Aside0.mk hr13; have HC169 := Aside0.mk (show y166.length ≤ c0 from by omega); clear hr13 hC13 hroom13 hi013 hsz13; have KY13 := Aside0.mk hy13; clear hy13; replace q13 := eq_true q13))
         go_loopg [27] k1 (fun kq v27 w' => ∃ (x27_2 : Int), v27 = .int .i64 x27_2 ∧ Aside0 (mill_Check.l1 kq l0 l0 (l0.length : Int) x14_1 y166 (y166.length : Int) x27_2 ((rd_T144 l0 x14_1).f0) ((rd_T144 l0 x14_1).f1) ((rd_T144 l0 x14_1).f2) ((rd_T144 l0 x14_1).f3) ((rd_T144 l0 x14_1).f4) = some r) ∧ Aside0 (kq ≤ k1) ∧ Aside0 (w'.heap[gb164]? = some (.cells #[.int .i64 ((rd_T144 l0 x14_1).f0), .int .i64 ((rd_T144 l0 x14_1).f1), .int .i64 ((rd_T144 l0 x14_1).f2), .int .i64 ((rd_T144 l0 x14_1).f3), .int .i64 ((rd_T144 l0 x14_1).f4)] 144 (0, 0))) ∧ Aside0 (Below w.heap.size w w'))
         case atStart => exact ⟨(0), (by first | rfl | (simp; done) | (simp [*]; done)), H', ⟨Nat.le_refl _⟩, BK164, ⟨by repeat (first | (with_reducible first | exact HB.out | apply below_alloc | apply pw_below_drewN | apply below_drew1 | refine below_set ?_ (Aside0.out (by assumption))) | exact HB.out)⟩⟩
         case round =>
          clear H'
          try clear p1; try clear q1; try clear hx1; try clear c2; try clear c2b0; try clear c2b1; try clear p2; try clear c3; try clear c3b0; try clear c4; try clear c4b0; try clear c5; try clear c5b0; try clear c6; try clear c7; try clear c8; try clear c8b0; try clear c9; try clear c9b0; try clear c9b1; try clear q13; try clear hcz11_0; try clear hcz11_1; try clear hcz11_2; try clear hcz11_3; try clear hcz11_4; try clear hfz11_0; try clear hfz11_1; try clear hfz11_2; try clear hfz11_3; try clear hfz11_4; try clear hx163_0; try clear hx163_1; try clear hx163_2; try clear hx163_3; try clear hx163_4; try clear p163; try clear p2; try clear q13; try clear q163
          obtain ⟨x27_2, rfl, HA, HK2, BK164, HB⟩ := hrel
          cases gk with
          | zero => exact absurd HA.out (by simp [mill_Check.l1])
          | succ k2 =>
           have H := HA.out
           clear HA
           simp only [mill_Check.l1] at H
           by_cases c14 : x27_2 < (y166.length : Int)
           ·rw [if_pos c14] at H
            have c14b0 : decide (x27_2 < (y166.length : Int)) = true := decide_eq_true c14
            clear c14
            by_cases c15 : 0 ≤ x27_2
            ·rw [if_pos c15] at H
             have c15b0 : decide (0 ≤ x27_2) = true := decide_eq_true c15
             clear c15
             by_cases c16 : x27_2 < (y166.length : Int)
             ·rw [if_pos c16] at H
              have c16b0 : decide (x27_2 < (y166.length : Int)) = true := decide_eq_true c16
              clear c16
              replace H := Option.bind_eq_some_iff.mp H
              obtain ⟨⟨t172, t173⟩, A170, H⟩ := H; (try dsimp only at H)
              have A17 := Aside0.mk A170
              clear A170
              by_cases c18 : t172 ≤ t173
              ·rw [if_pos c18] at H
               have c18b0 : decide (t172 ≤ t173) = true := decide_eq_true c18
               clear c18
               obtain rfl := Option.some.inj H
               have p170 : 0 ≤ (x27_2 : Int) := of_decide_eq_true (by first | (with_reducible assumption) | assumption)
               have q170 : x27_2 < (y166.length : Int) := of_decide_eq_true (by first | (with_reducible assumption) | assumption)
               obtain ⟨ad170, e170, hx170_0, hx170_1, hx170_2, hx170_3, hx170_4⟩ := at_T144 HR169.out x27_2 p170 q170
               obtain rfl : ad163 = ad170 := (by injection e170)
               replace hx170_0 := (HB.out.cell (World.block_lt_of_cell? w _ hx170_0)).trans hx170_0
               replace hx170_1 := (HB.out.cell (World.block_lt_of_cell? w _ hx170_1)).trans hx170_1
               replace hx170_2 := (HB.out.cell (World.block_lt_of_cell? w _ hx170_2)).trans hx170_2
               replace hx170_3 := (HB.out.cell (World.block_lt_of_cell? w _ hx170_3)).trans hx170_3
               replace hx170_4 := (HB.out.cell (World.block_lt_of_cell? w _ hx170_4)).trans hx170_4
               replace p170 := eq_true p170
               replace q170 := eq_true q170
               go_wp2_with (first | ((with_reducible refine gate_dst (N := 6) rfl ?_); refine box_event ?hg (N := 6) ?hd (cs := #[.int .i64 0, .int .i64 0, .int .i64 0, .int .i64 0, .int .i64 0]) (t := 144) ?hr ?_; (case hd => rfl); (case hg => rfl); (case hr => first | (go_simp; done) | (go_simp; rfl)); intro gb171 hg w19 hbox hb; have BK171 := Aside0.mk (hbox); have GW171 := Aside0.mk ((by rw [hg]; exact (below_size (by repeat (first | (with_reducible first | exact HB.out | apply below_alloc | apply pw_below_drewN | apply below_drew1 | refine below_set ?_ (Aside0.out (by assumption))) | exact HB.out))) : w.heap.size ≤ gb171)); have GE171 := GW171; replace HB := Aside0.mk (below_step (by repeat (first | (with_reducible first | exact HB.out | apply below_alloc | apply pw_below_drewN | apply below_drew1 | refine below_set ?_ (Aside0.out (by assumption))) | exact HB.out)) hb); have NB164_171 := Aside0.mk ((by rw [hg]; exact Nat.ne_of_lt (blk_lt BK164.out) : gb164 ≠ gb171)); have NB171_164 := Aside0.mk ((by rw [hg]; exact Nat.ne_of_gt (blk_lt BK164.out) : gb171 ≠ gb164)); replace BK164 := Aside0.mk (blk_below (g := gb164) (o := .cells #[.int .i64 ((rd_T144 l0 x14_1).f0), .int .i64 ((rd_T144 l0 x14_1).f1), .int .i64 ((rd_T144 l0 x14_1).f2), .int .i64 ((rd_T144 l0 x14_1).f3), .int .i64 ((rd_T144 l0 x14_1).f4)] 144 (0, 0)) (by repeat (first | (with_reducible first | exact BK164.out | refine blk_drewN ?_ _ | refine blk_drew ?_ | refine blk_alloc ?_ _) | exact BK164.out)) hb); clear hb hbox hg; have hnb20 := NB171_164.out; have hnc20 := NB164_171.out; obtain ⟨hcz21_0, hcz21_1, hcz21_2, hcz21_3, hcz21_4⟩ := bc5 BK171.out; obtain ⟨hfz21_0, hfz21_1, hfz21_2, hfz21_3, hfz21_4⟩ := bf5 BK171.out; obtain ⟨hcz22_0, hcz22_1, hcz22_2, hcz22_3, hcz22_4⟩ := bc5 BK164.out; obtain ⟨hfz22_0, hfz22_1, hfz22_2, hfz22_3, hfz22_4⟩ := bf5 BK164.out) | ((with_reducible refine gate_callee (f := 68) rfl ?_); refine goesL_ (some 40) rfl rfl Try.func68 (by kernel_rfl) rfl #[.agg #[.int .i64 ((rd_T144 y166 x27_2).f0), .int .i64 ((rd_T144 y166 x27_2).f1), .int .i64 ((rd_T144 y166 x27_2).f2), .int .i64 ((rd_T144 y166 x27_2).f3), .int .i64 ((rd_T144 y166 x27_2).f4)], .int .i64 ((rd_T144 l0 x14_1).f0), .int .i64 ((rd_T144 l0 x14_1).f1), .int .i64 ((rd_T144 l0 x14_1).f2)] rfl (by (try simp only [List.map_toArray, List.map_cons, List.map_nil]); first | done | rfl | (simp only [List.length_drop, List.length_take]; rfl)) ?_; (with_reducible refine (mill_run_hours.calls ((rd_T144 y166 x27_2).f0) ((rd_T144 y166 x27_2).f1) ((rd_T144 y166 x27_2).f2) ((rd_T144 y166 x27_2).f3) ((rd_T144 y166 x27_2).f4) ((rd_T144 l0 x14_1).f0) ((rd_T144 l0 x14_1).f1) ((rd_T144 l0 x14_1).f2) t172 t173 _ A17.out).mono ?_); rintro e w23 ⟨rfl, hb⟩; refine ⟨_, rfl, ?_⟩; replace BK164 := Aside0.mk (blk_below (g := gb164) (o := .cells #[.int .i64 ((rd_T144 l0 x14_1).f0), .int .i64 ((rd_T144 l0 x14_1).f1), .int .i64 ((rd_T144 l0 x14_1).f2), .int .i64 ((rd_T144 l0 x14_1).f3), .int .i64 ((rd_T144 l0 x14_1).f4)] 144 (0, 0)) (by repeat (first | (with_reducible first | exact BK164.out | refine blk_drewN ?_ _ | refine blk_drew ?_ | refine blk_alloc ?_ _) | refine blk_far ?_ NB164_171.out _ | exact BK164.out)) hb); replace BK171 := Aside0.mk (blk_below (g := gb171) (o := .cells #[.int .i64 ((rd_T144 y166 x27_2).f0), .int .i64 ((rd_T144 y166 x27_2).f1), .int .i64 ((rd_T144 y166 x27_2).f2), .int .i64 ((rd_T144 y166 x27_2).f3), .int .i64 ((rd_T144 y166 x27_2).f4)] 144 (0, 0)) (by exact bto (bput (bput (bput (bput (bput (BK171.out) _ _) _ _) _ _) _ _) _ _) rfl) hb); replace HB := Aside0.mk (below_step (by repeat (first | (with_reducible first | exact HB.out | apply below_alloc | apply pw_below_drewN | apply below_drew1 | refine below_set ?_ (Aside0.out (by assumption))) | exact HB.out)) hb); (try clear hb); (try clear hb2); (try clear hk); (try clear hi)))
               go_ret
               exact ⟨by first | rfl | (simp [errW_none, errW_some] <;> rfl) | (simp [*, errW_none, errW_some] <;> rfl), by repeat (first | (with_reducible first | exact HB.out | apply below_alloc | apply pw_below_drewN | apply below_drew1 | refine below_set ?_ (Aside0.out (by assumption))) | exact HB.out)⟩
              ·rw [if_neg c18] at H
               have c18b0 : decide (t172 ≤ t173) = false := decide_eq_false c18
               clear c18
               have H' := Aside0.mk H
               clear H
               have p170 : 0 ≤ (x27_2 : Int) := of_decide_eq_true (by first | (with_reducible assumption) | assumption)
               have q170 : x27_2 < (y166.length : Int) := of_decide_eq_true (by first | (with_reducible assumption) | assumption)
               obtain ⟨ad170, e170, hx170_0, hx170_1, hx170_2, hx170_3, hx170_4⟩ := at_T144 HR169.out x27_2 p170 q170
               obtain rfl : ad163 = ad170 := (by injection e170)
               replace hx170_0 := (HB.out.cell (World.block_lt_of_cell? w _ hx170_0)).trans hx170_0
               replace hx170_1 := (HB.out.cell (World.block_lt_of_cell? w _ hx170_1)).trans hx170_1
               replace hx170_2 := (HB.out.cell (World.block_lt_of_cell? w _ hx170_2)).trans hx170_2
               replace hx170_3 := (HB.out.cell (World.block_lt_of_cell? w _ hx170_3)).trans hx170_3
               replace hx170_4 := (HB.out.cell (World.block_lt_of_cell? w _ hx170_4)).trans hx170_4
               replace p170 := eq_true p170
               replace q170 := eq_true q170
               go_wp2_with (first | ((with_reducible refine gate_dst (N := 6) rfl ?_); refine box_event ?hg (N := 6) ?hd (cs := #[.int .i64 0, .int .i64 0, .int .i64 0, .int .i64 0, .int .i64 0]) (t := 144) ?hr ?_; (case hd => rfl); (case hg => rfl); (case hr => first | (go_simp; done) | (go_simp; rfl)); intro gb171 hg w24 hbox hb; have BK171 := Aside0.mk (hbox); have GW171 := Aside0.mk ((by rw [hg]; exact (below_size (by repeat (first | (with_reducible first | exact HB.out | apply below_alloc | apply pw_below_drewN | apply below_drew1 | refine below_set ?_ (Aside0.out (by assumption))) | exact HB.out))) : w.heap.size ≤ gb171)); have GE171 := GW171; replace HB := Aside0.mk (below_step (by repeat (first | (with_reducible first | exact HB.out | apply below_alloc | apply pw_below_drewN | apply below_drew1 | refine below_set ?_ (Aside0.out (by assumption))) | exact HB.out)) hb); have NB164_171 := Aside0.mk ((by rw [hg]; exact Nat.ne_of_lt (blk_lt BK164.out) : gb164 ≠ gb171)); have NB171_164 := Aside0.mk ((by rw [hg]; exact Nat.ne_of_gt (blk_lt BK164.out) : gb171 ≠ gb164)); replace BK164 := Aside0.mk (blk_below (g := gb164) (o := .cells #[.int .i64 ((rd_T144 l0 x14_1).f0), .int .i64 ((rd_T144 l0 x14_1).f1), .int .i64 ((rd_T144 l0 x14_1).f2), .int .i64 ((rd_T144 l0 x14_1).f3), .int .i64 ((rd_T144 l0 x14_1).f4)] 144 (0, 0)) (by repeat (first | (with_reducible first | exact BK164.out | refine blk_drewN ?_ _ | refine blk_drew ?_ | refine blk_alloc ?_ _) | exact BK164.out)) hb); clear hb hbox hg; have hnb25 := NB171_164.out; have hnc25 := NB164_171.out; obtain ⟨hcz26_0, hcz26_1, hcz26_2, hcz26_3, hcz26_4⟩ := bc5 BK171.out; obtain ⟨hfz26_0, hfz26_1, hfz26_2, hfz26_3, hfz26_4⟩ := bf5 BK171.out; obtain ⟨hcz27_0, hcz27_1, hcz27_2, hcz27_3, hcz27_4⟩ := bc5 BK164.out; obtain ⟨hfz27_0, hfz27_1, hfz27_2, hfz27_3, hfz27_4⟩ := bf5 BK164.out) | ((with_reducible refine gate_callee (f := 68) rfl ?_); refine goesL_ (some 40) rfl rfl Try.func68 (by kernel_rfl) rfl #[.agg #[.int .i64 ((rd_T144 y166 x27_2).f0), .int .i64 ((rd_T144 y166 x27_2).f1), .int .i64 ((rd_T144 y166 x27_2).f2), .int .i64 ((rd_T144 y166 x27_2).f3), .int .i64 ((rd_T144 y166 x27_2).f4)], .int .i64 ((rd_T144 l0 x14_1).f0), .int .i64 ((rd_T144 l0 x14_1).f1), .int .i64 ((rd_T144 l0 x14_1).f2)] rfl (by (try simp only [List.map_toArray, List.map_cons, List.map_nil]); first | done | rfl | (simp only [List.length_drop, List.length_take]; rfl)) ?_; (with_reducible refine (mill_run_hours.calls ((rd_T144 y166 x27_2).f0) ((rd_T144 y166 x27_2).f1) ((rd_T144 y166 x27_2).f2) ((rd_T144 y166 x27_2).f3) ((rd_T144 y166 x27_2).f4) ((rd_T144 l0 x14_1).f0) ((rd_T144 l0 x14_1).f1) ((rd_T144 l0 x14_1).f2) t172 t173 _ A17.out).mono ?_); rintro e w28 ⟨rfl, hb⟩; refine ⟨_, rfl, ?_⟩; replace BK164 := Aside0.mk (blk_below (g := gb164) (o := .cells #[.int .i64 ((rd_T144 l0 x14_1).f0), .int .i64 ((rd_T144 l0 x14_1).f1), .int .i64 ((rd_T144 l0 x14_1).f2), .int .i64 ((rd_T144 l0 x14_1).f3), .int .i64 ((rd_T144 l0 x14_1).f4)] 144 (0, 0)) (by repeat (first | (with_reducible first | exact BK164.out | refine blk_drewN ?_ _ | refine blk_drew ?_ | refine blk_alloc ?_ _) | refine blk_far ?_ NB164_171.out _ | exact BK164.out)) hb); replace BK171 := Aside0.mk (blk_below (g := gb171) (o := .cells #[.int .i64 ((rd_T144 y166 x27_2).f0), .int .i64 ((rd_T144 y166 x27_2).f1), .int .i64 ((rd_T144 y166 x27_2).f2), .int .i64 ((rd_T144 y166 x27_2).f3), .int .i64 ((rd_T144 y166 x27_2).f4)] 144 (0, 0)) (by exact bto (bput (bput (bput (bput (bput (BK171.out) _ _) _ _) _ _) _ _) _ _) rfl) hb); replace HB := Aside0.mk (below_step (by repeat (first | (with_reducible first | exact HB.out | apply below_alloc | apply pw_below_drewN | apply below_drew1 | refine below_set ?_ (Aside0.out (by assumption))) | exact HB.out)) hb); (try clear hb); (try clear hb2); (try clear hk); (try clear hi)))
               go_roundg k2
               case measure => have := HK1.out; have := HK2.out; omega
               case rel => exact ⟨(wrap64 (x27_2 + 1)), (by first | rfl | (simp; done) | (simp [*]; done)), H', ⟨by have := HK1.out; have := HK2.out; omega⟩, BK164, ⟨by repeat (first | (with_reducible first | exact HB.out | apply below_alloc | apply pw_below_drewN | apply below_drew1 | refine below_set ?_ (Aside0.out (by assumption))) | exact HB.out)⟩⟩
             ·rw [if_neg c16] at H
              exact absurd H (by simp)
            ·rw [if_neg c15] at H
             exact absurd H (by simp)
           ·rw [if_neg c14] at H
            have c14b0 : decide (x27_2 < (y166.length : Int)) = false := decide_eq_false c14
            clear c14
            have H' := Aside0.mk H
            clear H
            go_wp2
            go_roundg k2
            case measure => have := HK1.out; have := HK2.out; omega
            case rel => exact ⟨(wrap64 (x14_1 + 1)), (by first | rfl | (simp; done) | (simp [*]; done)), H', ⟨by have := HK1.out; have := HK2.out; omega⟩, ⟨by repeat (first | (with_reducible first | exact HB.out | apply below_alloc | apply pw_below_drewN | apply below_drew1 | refine below_set ?_ (Aside0.out (by assumption))) | exact HB.out)⟩⟩
        ·rw [if_neg c9] at H
         exact absurd H (by simp)
       ·replace c7 := Bool.eq_false_iff.mpr c7
        subst c7
        have H1 : (some 2) = some r := by rw [if_neg (show ¬ (false = true) by decide)] at H; exact H
        clear H
        have H := H1
        clear H1
        obtain rfl := Option.some.inj H
        have p163 : 0 ≤ (x14_1 : Int) := of_decide_eq_true (by first | (with_reducible assumption) | assumption)
        have q163 : x14_1 < (l0.length : Int) := of_decide_eq_true (by first | (with_reducible assumption) | assumption)
        obtain ⟨ad163, e163, hx163_0, hx163_1, hx163_2, hx163_3, hx163_4⟩ := at_T144 HR0.out x14_1 p163 q163
        cases e163
        replace hx163_0 := (HB.out.cell (World.block_lt_of_cell? w _ hx163_0)).trans hx163_0
        replace hx163_1 := (HB.out.cell (World.block_lt_of_cell? w _ hx163_1)).trans hx163_1
        replace hx163_2 := (HB.out.cell (World.block_lt_of_cell? w _ hx163_2)).trans hx163_2
        replace hx163_3 := (HB.out.cell (World.block_lt_of_cell? w _ hx163_3)).trans hx163_3
        replace hx163_4 := (HB.out.cell (World.block_lt_of_cell? w _ hx163_4)).trans hx163_4
        replace p163 := eq_true p163
        replace q163 := eq_true q163
        go_wp2_with (first | ((with_reducible refine gate_dst (N := 4) rfl ?_); refine box_event ?hg (N := 4) ?hd (cs := #[.int .i64 0, .int .i64 0, .int .i64 0, .int .i64 0, .int .i64 0]) (t := 144) ?hr ?_; (case hd => rfl); (case hg => rfl); (case hr => first | (go_simp; done) | (go_simp; rfl)); intro gb164 hg w29 hbox hb; have BK164 := Aside0.mk (hbox); have GW164 := Aside0.mk ((by rw [hg]; exact (below_size HB.out) : w.heap.size ≤ gb164)); have GE164 := GW164; replace HB := Aside0.mk (below_step HB.out hb); clear hb hbox hg; obtain ⟨hcz30_0, hcz30_1, hcz30_2, hcz30_3, hcz30_4⟩ := bc5 BK164.out; obtain ⟨hfz30_0, hfz30_1, hfz30_2, hfz30_3, hfz30_4⟩ := bf5 BK164.out) | ((with_reducible refine gate_callee (f := 67) rfl ?_); refine goesL_ (some 21) rfl rfl Try.func67 (by kernel_rfl) rfl #[.agg #[.int .i64 ((rd_T144 l0 x14_1).f0), .int .i64 ((rd_T144 l0 x14_1).f1), .int .i64 ((rd_T144 l0 x14_1).f2), .int .i64 ((rd_T144 l0 x14_1).f3), .int .i64 ((rd_T144 l0 x14_1).f4)]] rfl (by (try simp only [List.map_toArray, List.map_cons, List.map_nil]); first | done | rfl | (simp only [List.length_drop, List.length_take]; rfl)) ?_; (with_reducible refine (mill_run_isValid.calls ((rd_T144 l0 x14_1).f0) ((rd_T144 l0 x14_1).f1) ((rd_T144 l0 x14_1).f2) ((rd_T144 l0 x14_1).f3) ((rd_T144 l0 x14_1).f4) false _ A6.out).mono ?_); rintro e w31 ⟨rfl, hb⟩; refine ⟨_, rfl, ?_⟩; replace BK164 := Aside0.mk (blk_below (g := gb164) (o := .cells #[.int .i64 ((rd_T144 l0 x14_1).f0), .int .i64 ((rd_T144 l0 x14_1).f1), .int .i64 ((rd_T144 l0 x14_1).f2), .int .i64 ((rd_T144 l0 x14_1).f3), .int .i64 ((rd_T144 l0 x14_1).f4)] 144 (0, 0)) (by exact bto (bput (bput (bput (bput (bput (BK164.out) _ _) _ _) _ _) _ _) _ _) rfl) hb); replace HB := Aside0.mk (below_step (by repeat (first | (with_reducible first | exact HB.out | apply below_alloc | apply pw_below_drewN | apply below_drew1 | refine below_set ?_ (Aside0.out (by assumption))) | exact HB.out)) hb); (try clear hb); (try clear hb2); (try clear hk); (try clear hi)))
        go_ret
        exact ⟨by first | rfl | (simp [errW_none, errW_some] <;> rfl) | (simp [*, errW_none, errW_some] <;> rfl), by repeat (first | (with_reducible first | exact HB.out | apply below_alloc | apply pw_below_drewN | apply below_drew1 | refine below_set ?_ (Aside0.out (by assumption))) | exact HB.out)⟩
      ·rw [if_neg c5] at H
       exact absurd H (by simp)
     ·rw [if_neg c4] at H
      exact absurd H (by simp)
    ·rw [if_neg c3] at H
     have c3b0 : decide (x14_1 < (l0.length : Int)) = false := decide_eq_false c3
     clear c3
     obtain rfl := Option.some.inj H
     go_wp2
     go_ret
     exact ⟨by first | rfl | (simp [errW_none, errW_some] <;> rfl) | (simp [*, errW_none, errW_some] <;> rfl), by repeat (first | (with_reducible first | exact HB.out | apply below_alloc | apply pw_below_drewN | apply below_drew1) | exact HB.out)⟩

end Go.Proofs.Ytiaiecfnpompcaa.T
