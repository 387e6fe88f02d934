-- cut down, squeezed and laid together by pack.py (a program of this repository) out of this seat's texts
import Derived.WalkKit
import Derived.MapKept
import Derived.RangeFuncNested
import Derived.RangeFuncBound
import Derived.RangeFuncCalls
import Derived.RangeFuncLeaves
import Derived.Shelf.Abstract
import Derived.Shelf.RegionOpen
import Derived.OwnWalkIn
import Derived.TacticsInMore
import Derived.LoopNIn
import Derived.LoopIn
import Derived.Shelf.SlSortCmp.InsertionK
import Derived.ChangeKeysEq
import Derived.Laws.StructEq
import Derived.Test.YtiaiecfnpompcaaZV11
import Derived.Test.YtiaiecfnpompcaaZV12
import Derived.Test.YtiaiecfnpompcaaZV8
import Derived.Test.YtiaiecfnpompcaaZV13
import Derived.Test.YtiaiecfnpompcaaZV10
import Derived.Test.YtiaiecfnpompcaaZV4
import Derived.Test.YtiaiecfnpompcaaZV7
import Derived.Test.YtiaiecfnpompcaaZV9
import Derived.Test.YtiaiecfnpompcaaZV6
import Derived.Test.YtiaiecfnpompcaaZV2
import Derived.Test.YtiaiecfnpompcaaZV3
import Derived.Test.YtiaiecfnpompcaaZV5
import Derived.Test.YtiaiecfnpompcaaZV1
namespace Go.Proofs.Ytiaiecfnpompcaa.T
open Go.RowKit Go.Proofs.YtiaiecfnpompcaaW.PrintWords Go.Proofs.YtiaiecfnpompcaaW.PrintLast Go.Proofs.YtiaiecfnpompcaaW.PrintMore
attribute [local go_sem] max2_int min2_int max_two min_two max_three min_three max_four min_four   -- for this text's walks alone
set_option linter.unusedVariables false
set_option linter.unusedSimpArgs false
attribute [local go_sem] wl_100001
abbrev tt : Bool := true
abbrev ff : Bool := false
theorem mv_900 : wrap64 900 = 900 := by unfold wrap64; omega
theorem mv_90000 : wrap64 90000 = 90000 := by unfold wrap64; omega

mutual
def acmelaw12_MillVolumes.l0 : Nat → List (S106) → List (S46) → Int → Int → Int → Int → Int → Int → Int → Int → Option (Bool)
 | 0, _, _, _, _, _, _, _, _, _, _ => none
 | k + 1, x0, x7, x8, x9, x189000, x189001, x189002, x190000, x190001, x190002 => if x9 = 0 then (acmelaw12_MillVolumes.j1 k x0 x7 x8 x9 true x189000 x189001 x189002 x190000 x190001 x190002) else (if x9 < (x0.length : Int) then (acmelaw12_MillVolumes.j1 k x0 x7 x8 x9 (decide (x9 < 6)) x189000 x189001 x189002 x190000 x190001 x190002) else (acmelaw12_MillVolumes.j1 k x0 x7 x8 x9 false x189000 x189001 x189002 x190000 x190001 x190002))
def acmelaw12_MillVolumes.j1 : Nat → List (S106) → List (S46) → Int → Int → Bool → Int → Int → Int → Int → Int → Int → Option (Bool)
 | 0, _, _, _, _, _, _, _, _, _, _, _ => none
 | k + 1, x0, x7, x8, x9, x31, x189000, x189001, x189002, x190000, x190001, x190002 => if x31 = true then (if x9 < (x0.length : Int) then (if 0 ≤ x9 then (if x7.length < 8796093022208 then (acmelaw12_MillVolumes.l0 k x0 (x7 ++ [(⟨wrap64 (1 + (Int.tmod (wrap64 ((rd_T106 x0 x9).f0)) 500)), wrap64 (1 + (wrap64 ((rd_T106 x0 x9).f1)))⟩ : S46)]) (wrap64 (x8 + (wrap64 ((wrap64 ((wrap64 (1 + (Int.tmod (wrap64 ((rd_T106 x0 x9).f0)) 500))) * (wrap64 (1 + (Int.tmod (wrap64 ((rd_T106 x0 x9).f0)) 500))))) * (wrap64 (1 + (wrap64 ((rd_T106 x0 x9).f1)))))))) (wrap64 (x9 + 1)) x189000 x189001 x189002 x190000 x190001 x190002) else (none)) else (none)) else (if x7.length < 8796093022208 then (acmelaw12_MillVolumes.l0 k x0 (x7 ++ [(⟨30, 100⟩ : S46)]) (wrap64 (x8 + 90000)) (wrap64 (x9 + 1)) x189000 x189001 x189002 x190000 x190001 x190002) else (none))) else ((acmelaw12_span.f (wrap64 (20 + (wrap64 (x189000)))) (wrap64 ((wrap64 (20 + (wrap64 (x189000)))) + (Int.tmod (wrap64 (x189001)) 20)))).bind fun bt202 => ((some (([] : List (S46)) : List (S46))).bind fun y205 => (if y205.length + x7.length < 8796093022208 then ((mill_Blank.f k (y205 ++ x7) bt202.1 bt202.2).bind fun bt211 => (if bt211.2.2 = 0 then (if bt211.1 < 0 then (acmelaw12_MillVolumes.j2 k x7 x8 true x189000 x189001 x189002 x190000 x190001 x190002 bt202.1 bt202.2 bt211.1 bt211.2.1) else (acmelaw12_MillVolumes.j2 k x7 x8 (decide (bt211.1 > bt211.2.1)) x189000 x189001 x189002 x190000 x190001 x190002 bt202.1 bt202.2 bt211.1 bt211.2.1)) else (acmelaw12_MillVolumes.j2 k x7 x8 true x189000 x189001 x189002 x190000 x190001 x190002 bt202.1 bt202.2 bt211.1 bt211.2.1))) else (none))))
def acmelaw12_MillVolumes.j2 : Nat → List (S46) → Int → Bool → Int → Int → Int → Int → Int → Int → Int → Int → Int → Int → Option (Bool)
 | 0, _, _, _, _, _, _, _, _, _, _, _, _, _ => none
 | k + 1, x7, x8, x104, x189000, x189001, x189002, x190000, x190001, x190002, x205000, x205001, x215000, x215001 => if x104 = true then (none) else (if (wrap64 ((wrap64 (x205001 - x205000)) + 1)) = 0 then (none) else (if x215001 > 1099511627776 then (acmelaw12_MillVolumes.j3 k x7 x8 (wrap64 (x205000 + (Int.tmod (wrap64 (x189002)) (wrap64 ((wrap64 (x205001 - x205000)) + 1))))) true x190000 x190001 x190002 x205000 x205001 x215000 x215001) else (if (wrap64 ((wrap64 ((wrap64 (x205000 + (Int.tmod (wrap64 (x189002)) (wrap64 ((wrap64 (x205001 - x205000)) + 1))))) * (wrap64 (x205000 + (Int.tmod (wrap64 (x189002)) (wrap64 ((wrap64 (x205001 - x205000)) + 1))))))) * x215001)) < x8 then (acmelaw12_MillVolumes.j3 k x7 x8 (wrap64 (x205000 + (Int.tmod (wrap64 (x189002)) (wrap64 ((wrap64 (x205001 - x205000)) + 1))))) true x190000 x190001 x190002 x205000 x205001 x215000 x215001) else (if x215000 > 0 then (acmelaw12_MillVolumes.j3 k x7 x8 (wrap64 (x205000 + (Int.tmod (wrap64 (x189002)) (wrap64 ((wrap64 (x205001 - x205000)) + 1))))) (decide ((wrap64 ((wrap64 ((wrap64 (x205000 + (Int.tmod (wrap64 (x189002)) (wrap64 ((wrap64 (x205001 - x205000)) + 1))))) * (wrap64 (x205000 + (Int.tmod (wrap64 (x189002)) (wrap64 ((wrap64 (x205001 - x205000)) + 1))))))) * (wrap64 (x215000 - 1)))) ≥ x8)) x190000 x190001 x190002 x205000 x205001 x215000 x215001) else (acmelaw12_MillVolumes.j3 k x7 x8 (wrap64 (x205000 + (Int.tmod (wrap64 (x189002)) (wrap64 ((wrap64 (x205001 - x205000)) + 1))))) false x190000 x190001 x190002 x205000 x205001 x215000 x215001)))))
def acmelaw12_MillVolumes.j3 : Nat → List (S46) → Int → Int → Bool → Int → Int → Int → Int → Int → Int → Int → Option (Bool)
 | 0, _, _, _, _, _, _, _, _, _, _, _ => none
 | k + 1, x7, x8, x14, x146, x190000, x190001, x190002, x205000, x205001, x215000, x215001 => if x146 = true then (none) else ((acmelaw12_span.f (wrap64 (1 + (wrap64 (x190000)))) (wrap64 ((wrap64 (1 + (wrap64 (x190000)))) + (wrap64 (x190001))))).bind fun bt215 => (if (Int.tmod x190002 2) = 0 then (acmelaw12_MillVolumes.j4 k x7 x8 x14 (decide (x215001 ≤ 10000000)) x190000 x190001 x190002 x205000 x205001 x215000 x215001 bt215.1 bt215.2) else (acmelaw12_MillVolumes.j4 k x7 x8 x14 false x190000 x190001 x190002 x205000 x205001 x215000 x215001 bt215.1 bt215.2)))
def acmelaw12_MillVolumes.j4 : Nat → List (S46) → Int → Int → Bool → Int → Int → Int → Int → Int → Int → Int → Int → Int → Option (Bool)
 | 0, _, _, _, _, _, _, _, _, _, _, _, _, _ => none
 | k + 1, x7, x8, x14, x168, x190000, x190001, x190002, x205000, x205001, x215000, x215001, x218000, x218001 => if x168 = true then ((acmelaw12_span.f x215001 (wrap64 (x215001 + (wrap64 (x190001))))).bind fun bt218 => (acmelaw12_MillVolumes.j5 k x7 x8 x14 x190000 x190001 x190002 x205000 x205001 x215000 x215001 bt218.1 bt218.2)) else (acmelaw12_MillVolumes.j5 k x7 x8 x14 x190000 x190001 x190002 x205000 x205001 x215000 x215001 x218000 x218001)
def acmelaw12_MillVolumes.j5 : Nat → List (S46) → Int → Int → Int → Int → Int → Int → Int → Int → Int → Int → Int → Option (Bool)
 | 0, _, _, _, _, _, _, _, _, _, _, _, _ => none
 | k + 1, x7, x8, x14, x190000, x190001, x190002, x205000, x205001, x215000, x215001, x218000, x218001 => if x218001 > 10000000 then ((acmelaw12_known.f).bind fun t220 => (some t220)) else ((some (([] : List (S46)) : List (S46))).bind fun y221 => (if y221.length + x7.length < 8796093022208 then ((mill_Spare.f k (y221 ++ x7) x205000 x205001 x218000 x218001).bind fun bt227 => (if (wrap64 ((wrap64 (x218001 - x218000)) + 1)) = 0 then (none) else (if bt227.2.2 = 0 then (if (wrap64 ((wrap64 ((wrap64 ((wrap64 (x218000 + (Int.tmod (wrap64 (x190002)) (wrap64 ((wrap64 (x218001 - x218000)) + 1))))) * x14)) * x14)) - x8)) < bt227.1 then (none) else (if (wrap64 ((wrap64 ((wrap64 ((wrap64 (x218000 + (Int.tmod (wrap64 (x190002)) (wrap64 ((wrap64 (x218001 - x218000)) + 1))))) * x14)) * x14)) - x8)) > bt227.2.1 then (none) else (if x218000 ≥ x215001 then (if bt227.1 < 0 then (none) else (if bt227.1 = (wrap64 ((wrap64 ((wrap64 (x218000 * x205000)) * x205000)) - x8)) then (if bt227.2.1 = (wrap64 ((wrap64 ((wrap64 (x218001 * x205001)) * x205001)) - x8)) then ((acmelaw12_known.f).bind fun t231 => (some t231)) else (none)) else (none))) else (if bt227.1 = (wrap64 ((wrap64 ((wrap64 (x218000 * x205000)) * x205000)) - x8)) then (if bt227.2.1 = (wrap64 ((wrap64 ((wrap64 (x218001 * x205001)) * x205001)) - x8)) then ((acmelaw12_known.f).bind fun t232 => (some t232)) else (none)) else (none))))) else (none)))) else (none)))
end
def acmelaw12_MillVolumes.f (k : Nat) (l0 : List (S106)) (a1_0 : Int) (a1_1 : Int) (a1_2 : Int) (a2_0 : Int) (a2_1 : Int) (a2_2 : Int) : Option (Bool) := acmelaw12_MillVolumes.l0 k l0 (([] : List (S46))) 0 0 a1_0 a1_1 a1_2 a2_0 a2_1 a2_2
def acmelaw12_MillVolumes.T7 : Bool × List (List Nat × List Nat) := (true, [([], []), ([], []), ([0, 1], [0, 1]), ([2], [2]), ([3], [3]), ([4], [4]), ([5], [5]), ([6], [6]), ([], []), ([], []), ([8, 9], [8, 9]), ([10], [10]), ([11], [11]), ([12], [12]), ([13], [13]), ([7, 14], [7, 14]), ([15, 0, 1, 2, 3, 4, 5, 6, 7, 8, 9, 10, 11, 12, 13, 14, 15], [15])])
def acmelaw12_MillVolumes.B7 : List Nat := [0, 0, 3, 7, 15, 31, 63, 127, 0, 0, 768, 1792, 3840, 7936, 16128, 32767, 65535]
theorem acmelaw12_MillVolumes.tab7 : rtab .any (opsOf Try.f10 7) = acmelaw12_MillVolumes.T7 := by kernel_rfl
theorem acmelaw12_MillVolumes.bits7 : waitsOk acmelaw12_MillVolumes.T7.2 acmelaw12_MillVolumes.B7 = true := by kernel_rfl
def acmelaw12_MillVolumes.T8 : Bool × List (List Nat × List Nat) := (true, [([], []), ([], []), ([1], [1]), ([0, 2], [0, 2]), ([], []), ([], []), ([5], [5]), ([], []), ([7], [7]), ([6, 8], [6, 8]), ([], []), ([10], [10]), ([9, 11], [9, 11]), ([4, 12], [4, 12]), ([3, 3, 0, 1, 2, 3], [0, 3]), ([13, 14, 0, 1, 2, 3, 4, 5, 6, 7, 8, 9, 10, 11, 12, 13, 14], [4, 13])])
def acmelaw12_MillVolumes.B8 : List Nat := [0, 0, 2, 7, 0, 0, 32, 0, 128, 480, 0, 1024, 4064, 8176, 15, 32767]
theorem acmelaw12_MillVolumes.tab8 : rtab .any (opsOf Try.f10 8) = acmelaw12_MillVolumes.T8 := by kernel_rfl
theorem acmelaw12_MillVolumes.bits8 : waitsOk acmelaw12_MillVolumes.T8.2 acmelaw12_MillVolumes.B8 = true := by kernel_rfl
def acmelaw12_MillVolumes.T10 : Bool × List (List Nat × List Nat) := (true, [([], []), ([], []), ([0, 1], [0, 1]), ([], []), ([2, 3, 2], [2, 3]), ([4], [4]), ([5], [5]), ([5], [5]), ([], []), ([8, 6, 4, 0, 1, 2, 3, 4, 5, 6, 8], [6, 8]), ([7, 9, 0, 1, 2, 3, 4, 5, 6, 7, 8, 9], [7])])
def acmelaw12_MillVolumes.B10 : List Nat := [0, 0, 3, 0, 15, 31, 63, 63, 0, 383, 1023]
theorem acmelaw12_MillVolumes.tab10 : rtab .any (opsOf Try.f10 10) = acmelaw12_MillVolumes.T10 := by kernel_rfl
theorem acmelaw12_MillVolumes.bits10 : waitsOk acmelaw12_MillVolumes.T10.2 acmelaw12_MillVolumes.B10 = true := by kernel_rfl
def acmelaw12_MillVolumes.T13 : Bool × List (List Nat × List Nat) := (true, [([], []), ([0], [0]), ([], []), ([2], [2]), ([3], [3]), ([], []), ([5], [5]), ([], []), ([7], [7]), ([6, 8], [6, 8]), ([9], [9]), ([4, 10], [4, 10]), ([1, 11], [1, 11]), ([12, 0, 1, 2, 3, 4, 5, 6, 7, 8, 9, 10, 11, 12], [12])])
def acmelaw12_MillVolumes.B13 : List Nat := [0, 1, 0, 4, 12, 0, 32, 0, 128, 480, 992, 2044, 4095, 8191]
theorem acmelaw12_MillVolumes.tab13 : rtab .any (opsOf Try.f10 13) = acmelaw12_MillVolumes.T13 := by kernel_rfl
theorem acmelaw12_MillVolumes.bits13 : waitsOk acmelaw12_MillVolumes.T13.2 acmelaw12_MillVolumes.B13 = true := by kernel_rfl
def acmelaw12_MillVolumes.T21 : Bool × List (List Nat × List Nat) := (true, [([], []), ([], []), ([0, 1], [0, 1]), ([], []), ([], []), ([2, 3, 4, 2], [2, 3, 4]), ([5], [5]), ([6], [6]), ([6], [6]), ([], []), ([9, 7, 5, 0, 1, 2, 3, 4, 5, 6, 7, 9], [7, 9]), ([8, 10, 0, 1, 2, 3, 4, 5, 6, 7, 8, 9, 10], [8])])
def acmelaw12_MillVolumes.B21 : List Nat := [0, 0, 3, 0, 0, 31, 63, 127, 127, 0, 767, 2047]
theorem acmelaw12_MillVolumes.tab21 : rtab .any (opsOf Try.f10 21) = acmelaw12_MillVolumes.T21 := by kernel_rfl
theorem acmelaw12_MillVolumes.bits21 : waitsOk acmelaw12_MillVolumes.T21.2 acmelaw12_MillVolumes.B21 = true := by kernel_rfl
def acmelaw12_MillVolumes.T22 : Bool × List (List Nat × List Nat) := (true, [([], []), ([0], [0]), ([], []), ([2], [2]), ([3], [3]), ([], []), ([5], [5]), ([], []), ([7], [7]), ([6, 8], [6, 8]), ([9], [9]), ([4, 10], [4, 10]), ([1, 11], [1, 11]), ([12, 0, 1, 2, 3, 4, 5, 6, 7, 8, 9, 10, 11, 12], [12])])
def acmelaw12_MillVolumes.B22 : List Nat := [0, 1, 0, 4, 12, 0, 32, 0, 128, 480, 992, 2044, 4095, 8191]
theorem acmelaw12_MillVolumes.tab22 : rtab .any (opsOf Try.f10 22) = acmelaw12_MillVolumes.T22 := by kernel_rfl
theorem acmelaw12_MillVolumes.bits22 : waitsOk acmelaw12_MillVolumes.T22.2 acmelaw12_MillVolumes.B22 = true := by kernel_rfl
set_option maxHeartbeats 8000000 in
set_option maxRecDepth 100000 in
theorem acmelaw12_MillVolumes.calls (k : Nat) (A0 : Option Addr) (c0 : Nat) (l0 : List (S106)) (a1_0 : Int) (a1_1 : Int) (a1_2 : Int) (a2_0 : Int) (a2_1 : Int) (a2_2 : Int) (r : Bool) (w : World) (hr0 : Kd.C k106 w A0 l0.length l0) (hc0 : l0.length ≤ c0) (h : acmelaw12_MillVolumes.f k l0 a1_0 a1_1 a1_2 a2_0 a2_1 a2_2 = some r) :
  Calls Try.prog 10 #[.slice A0 l0.length c0, .agg #[.int .u8 a1_0, .int .u8 a1_1, .int .u8 a1_2], .agg #[.int .u16 a2_0, .int .u16 a2_1, .int .u16 a2_2]] w fun e w' => e = .returned (.bool r) ∧ Below w.heap.size w w' := by
 have hu94 := Try.underlying94
 have hu105 := Try.underlying105
 have hu46 := Try.underlying46
 have hu41 := Try.underlying41
 have HR0 := Aside0.mk hr0
 have HC0 := Aside0.mk hc0
 clear hr0 hc0
 have HB := Aside0.mk (Below.refl w.heap.size w)
 have H : (acmelaw12_MillVolumes.l0 k l0 (([] : List (S46))) 0 0 a1_0 a1_1 a1_2 a2_0 a2_1 a2_2) = some r := h
 clear h
 obtain ⟨y190, hy190⟩ : ∃ y_ : List (S46), y_ = (([] : List (S46))) := ⟨_, rfl⟩
 replace H : (acmelaw12_MillVolumes.l0 k l0 y190 0 0 a1_0 a1_1 a1_2 a2_0 a2_1 a2_2) = some r := by first | (rw [hy190]; with_reducible exact H) | (have H2_ := (Option.bind_some _ _).symm.trans H; rw [hy190]; with_reducible exact H2_) | (have H2_ := (Option.bind_some _ _).symm.trans H; with_reducible exact H2_) | with_reducible exact H | (rw [hy190]; exact H) | exact H
 have Ny190 := Aside0.mk hy190
 clear hy190
 have H' := Aside0.mk H
 clear H
 go_enter Try.func10, Try.ntmps10
 go_wp2_with (first | ((with_reducible refine gate_dst (N := 4) rfl ?_); (try (refine gate_guard (by rfl) ?_; dsimp only)); refine box_event ?hg (N := 4) ?hd (cs := #[.int .u8 a1_0, .int .u8 a1_1, .int .u8 a1_2]) (t := 94) ?hr ?_; (case hd => rfl); (case hg => rfl); (case hr => first | (go_simp; done) | (go_simp; rfl)); intro gb188 hg w4 hbox hb; have BK188 := Aside0.mk (hbox); have GW188 := Aside0.mk ((by rw [hg]; exact (below_size HB.out) : w.heap.size ≤ gb188)); have GE188 := GW188; replace HB := Aside0.mk (below_step HB.out hb); clear hb hbox hg) | ((with_reducible refine gate_dst (N := 5) rfl ?_); (try (refine gate_guard (by rfl) ?_; dsimp only)); refine box_event ?hg (N := 5) ?hd (cs := #[.int .u16 a2_0, .int .u16 a2_1, .int .u16 a2_2]) (t := 105) ?hr ?_; (case hd => rfl); (case hg => rfl); (case hr => first | (go_simp; done) | (go_simp; rfl)); intro gb189 hg w5 hbox hb; have BK189 := Aside0.mk (hbox); have GW189 := Aside0.mk ((by rw [hg]; exact (below_size (by repeat (first | (with_reducible first | exact HB.out | apply below_alloc | apply pw_below_drewN | apply below_drew1 | refine below_set ?_ (Aside0.out (by assumption))) | exact HB.out))) : w.heap.size ≤ gb189)); have GE189 := GW189; replace HB := Aside0.mk (below_step (by repeat (first | (with_reducible first | exact HB.out | apply below_alloc | apply pw_below_drewN | apply below_drew1 | refine below_set ?_ (Aside0.out (by assumption))) | exact HB.out)) hb); have NB188_189 := Aside0.mk ((by rw [hg]; exact Nat.ne_of_lt (blk_lt BK188.out) : gb188 ≠ gb189)); have NB189_188 := Aside0.mk ((by rw [hg]; exact Nat.ne_of_gt (blk_lt BK188.out) : gb189 ≠ gb188)); replace BK188 := Aside0.mk (blk_below (by repeat (first | (with_reducible first | exact BK188.out | refine blk_drewN ?_ _ | refine blk_drew ?_ | refine blk_alloc ?_ _) | exact BK188.out)) hb); clear hb hbox hg) | ((with_reducible refine gate_dst (N := 19) rfl ?_); (try (refine gate_guard (by rfl) ?_; dsimp only)); refine Kd.R_lit k46 _ 46 ?hg (N := 19) ?hd (xs := ([] : List (S46))) (inner := []) (ok := fun _ => True) (okp := fun _ => True) ?hr ?hp (fun _ hk => hk) trivial (Below.refl _ _) (Nat.le_refl _) (by simp) ?_; (case hd => rfl); (case hg => rfl); (case hr => first | (go_simp; done) | (go_simp; rfl)); (case hp => exact (Reps.none _ _)); intro v191 w6 ho7 hb hg_ hnew_; clear hg_ hnew_; (first | rw [← Ny190.out] at ho7 | (simp only [Int.reduceToNat] at ho7; rw [← Ny190.out] at ho7)); have HO192 := Aside0.mk (Kd.R_lower ho7 (below_size (by repeat (first | (with_reducible first | exact HB.out | apply below_alloc | apply pw_below_drewN | apply below_drew1 | refine below_set ?_ (Aside0.out (by assumption))) | exact HB.out)))); replace BK188 := Aside0.mk (blk_below (by repeat (first | (with_reducible first | exact BK188.out | refine blk_drewN ?_ _ | refine blk_drew ?_ | refine blk_alloc ?_ _) | exact BK188.out)) hb); replace BK189 := Aside0.mk (blk_below (by repeat (first | (with_reducible first | exact BK189.out | refine blk_drewN ?_ _ | refine blk_drew ?_ | refine blk_alloc ?_ _) | exact BK189.out)) hb); replace HB := Aside0.mk (below_step (by repeat (first | (with_reducible first | exact HB.out | apply below_alloc | apply pw_below_drewN | apply below_drew1 | refine below_set ?_ (Aside0.out (by assumption))) | exact HB.out)) hb); clear hb ho7))
 go_loopg [7, 8, 9] k (fun kq v7 v8 v9 w' => ∃ (x7_1 : List (S46)) (x8_1 : Int) (x9_1 : Int), v8 = .int .i64 x8_1 ∧ v9 = .int .i64 x9_1 ∧ Aside0 (acmelaw12_MillVolumes.l0 kq l0 x7_1 x8_1 x9_1 a1_0 a1_1 a1_2 a2_0 a2_1 a2_2 = some r) ∧ Aside0 (kq ≤ k) ∧ Aside0 (Kd.R k46 46 w' w.heap.size (fun _ => True) v7 x7_1) ∧ Aside0 (w'.heap[gb188]? = some (.cells #[.int .u8 a1_0, .int .u8 a1_1, .int .u8 a1_2] 94 (0, 0))) ∧ Aside0 (w'.heap[gb189]? = some (.cells #[.int .u16 a2_0, .int .u16 a2_1, .int .u16 a2_2] 105 (0, 0))) ∧ Aside0 (Below w.heap.size w w'))
 case atStart => exact ⟨(y190), (0), (0), (by first | rfl | (simp; done) | (simp [*]; done)), (by first | rfl | (simp; done) | (simp [*]; done)), H', ⟨Nat.le_refl _⟩, ⟨by (with_reducible repeat (first | apply Kd.R_alloc | apply Kd.R_drewN | apply Kd.R_drew)); exact HO192.out⟩, BK188, BK189, ⟨by repeat (first | (with_reducible first | exact HB.out | apply below_alloc | apply pw_below_drewN | apply below_drew1 | refine below_set ?_ (Aside0.out (by assumption))) | exact HB.out)⟩⟩
 case round => as_aux_lemma =>
  clear H'
  try clear c1; try clear p2
  obtain ⟨x7_1, x8_1, x9_1, rfl, rfl, HA, HK1, HO_7, BK188, BK189, HB⟩ := hrel
  obtain _ | k1 := gk
  ·exact absurd HA.out (by simp [acmelaw12_MillVolumes.l0])
  have H := HA.out
  clear HA
  simp only [acmelaw12_MillVolumes.l0] at H
  have HC8 := Aside0.mk H
  clear H
  go_upto_region 3 with (fail)
  go_cut [31] (fun v31 wc => ∃ (kq : Nat) (x31_7 : Bool), v31 = .bool x31_7 ∧ Aside0 (acmelaw12_MillVolumes.j1 kq l0 x7_1 x8_1 x9_1 x31_7 a1_0 a1_1 a1_2 a2_0 a2_1 a2_2 = some r) ∧ Aside0 (kq ≤ k1) ∧ Aside0 (Kd.R k46 46 wc w.heap.size (fun _ => True) u7 x7_1) ∧ Aside0 (wc.heap[gb188]? = some (.cells #[.int .u8 a1_0, .int .u8 a1_1, .int .u8 a1_2] 94 (0, 0))) ∧ Aside0 (wc.heap[gb189]? = some (.cells #[.int .u16 a2_0, .int .u16 a2_1, .int .u16 a2_2] 105 (0, 0))) ∧ Aside0 (Below w.heap.size w wc))
  case first => as_aux_lemma =>
   have H := HC8.out
   clear HC8
   by_cases c9 : x9_1 = 0
   ·rw [if_pos c9] at H
    have c9b0 : (x9_1 == 0) = true := beq_iff_eq.mpr c9
    have c9b1 : (x9_1 != 0) = false := bne_eq_false_iff_eq.mpr c9
    clear c9
    (first | rw [c9b0] | (simp only [i64_w, i32_w]; rw [c9b0]) | skip)
    have H' := Aside0.mk H
    clear H
    go_wp2
    go_meet
    case rel => exact ⟨_, (true), (by first | rfl | (simp; done) | (simp [*]; done)), H', ⟨by have := HK1.out; first | omega | exact Nat.le_refl _⟩, ⟨by (with_reducible repeat (first | apply Kd.R_alloc | apply Kd.R_drewN | apply Kd.R_drew)); exact HO_7.out⟩, BK188, BK189, ⟨by repeat (first | (with_reducible first | exact HB.out | apply below_alloc | apply pw_below_drewN | apply below_drew1 | refine below_set ?_ (Aside0.out (by assumption))) | exact HB.out)⟩⟩
   rw [if_neg c9] at H
   have c9b0 : (x9_1 == 0) = false := beq_eq_false_iff_ne.mpr c9
   have c9b1 : (x9_1 != 0) = true := bne_iff_ne.mpr c9
   (first | rw [c9b0] | (simp only [i64_w, i32_w]; rw [c9b0]) | skip)
   by_cases c10 : x9_1 < (l0.length : Int)
   ·rw [if_pos c10] at H
    have c10b0 : decide (x9_1 < (l0.length : Int)) = true := decide_eq_true c10
    clear c10
    have H' := Aside0.mk H
    clear H
    go_wp2
    go_meet
    case rel => exact ⟨_, (decide (x9_1 < 6)), (by first | rfl | (simp; done) | (simp [*]; done)), H', ⟨by have := HK1.out; first | omega | exact Nat.le_refl _⟩, ⟨by (with_reducible repeat (first | apply Kd.R_alloc | apply Kd.R_drewN | apply Kd.R_drew)); exact HO_7.out⟩, BK188, BK189, ⟨by repeat (first | (with_reducible first | exact HB.out | apply below_alloc | apply pw_below_drewN | apply below_drew1 | refine below_set ?_ (Aside0.out (by assumption))) | exact HB.out)⟩⟩
   rw [if_neg c10] at H
   have c10b0 : decide (x9_1 < (l0.length : Int)) = false := decide_eq_false c10
   clear c10
   have H' := Aside0.mk H
   clear H
   go_wp2
   go_meet
   case rel => exact ⟨_, (false), (by first | rfl | (simp; done) | (simp [*]; done)), H', ⟨by have := HK1.out; first | omega | exact Nat.le_refl _⟩, ⟨by (with_reducible repeat (first | apply Kd.R_alloc | apply Kd.R_drewN | apply Kd.R_drew)); exact HO_7.out⟩, BK188, BK189, ⟨by repeat (first | (with_reducible first | exact HB.out | apply below_alloc | apply pw_below_drewN | apply below_drew1 | refine below_set ?_ (Aside0.out (by assumption))) | exact HB.out)⟩⟩
  case rest => as_aux_lemma =>
   clear HC8
   try clear c1; try clear p2; try clear c9; try clear c9b0; try clear c9b1; try clear c10; try clear c10b0; try clear p2
   obtain ⟨kq, x31_7, rfl, HA, HJ7, HO_7, BK188, BK189, HB⟩ := hcut
   obtain _ | kj7 := kq
   ·exact absurd HA.out (by simp [acmelaw12_MillVolumes.j1])
   have H := HA.out
   clear HA
   simp only [acmelaw12_MillVolumes.j1] at H
   by_cases c11 : x31_7 = true
   ·subst c11
    have H1 : (if x9_1 < (l0.length : Int) then (if 0 ≤ x9_1 then (if x7_1.length < 8796093022208 then (acmelaw12_MillVolumes.l0 kj7 l0 (x7_1 ++ [(⟨wrap64 (1 + (Int.tmod (wrap64 ((rd_T106 l0 x9_1).f0)) 500)), wrap64 (1 + (wrap64 ((rd_T106 l0 x9_1).f1)))⟩ : S46)]) (wrap64 (x8_1 + (wrap64 ((wrap64 ((wrap64 (1 + (Int.tmod (wrap64 ((rd_T106 l0 x9_1).f0)) 500))) * (wrap64 (1 + (Int.tmod (wrap64 ((rd_T106 l0 x9_1).f0)) 500))))) * (wrap64 (1 + (wrap64 ((rd_T106 l0 x9_1).f1)))))))) (wrap64 (x9_1 + 1)) a1_0 a1_1 a1_2 a2_0 a2_1 a2_2) else (none)) else (none)) else (if x7_1.length < 8796093022208 then (acmelaw12_MillVolumes.l0 kj7 l0 (x7_1 ++ [(⟨30, 100⟩ : S46)]) (wrap64 (x8_1 + 90000)) (wrap64 (x9_1 + 1)) a1_0 a1_1 a1_2 a2_0 a2_1 a2_2) else (none))) = some r := by rw [if_pos rfl] at H; exact H
    clear H
    have H := H1
    clear H1
    by_cases c12 : x9_1 < (l0.length : Int)
    ·rw [if_pos c12] at H
     have c12b0 : decide (x9_1 < (l0.length : Int)) = true := decide_eq_true c12
     clear c12
     by_cases c13 : 0 ≤ x9_1
     rotate_left
     ·rw [if_neg c13] at H
      exact absurd H (by simp)
     rw [if_pos c13] at H
     have c13b0 : decide (0 ≤ x9_1) = true := decide_eq_true c13
     clear c13
     by_cases c14 : x7_1.length < 8796093022208
     rotate_left
     ·rw [if_neg c14] at H
      exact absurd H (by simp)
     rw [if_pos c14] at H
     have LMc14 := Aside0.mk c14
     clear c14
     obtain ⟨y196, hy196⟩ : ∃ y_ : List (S46), y_ = (x7_1 ++ [(⟨wrap64 (1 + (Int.tmod (wrap64 ((rd_T106 l0 x9_1).f0)) 500)), wrap64 (1 + (wrap64 ((rd_T106 l0 x9_1).f1)))⟩ : S46)]) := ⟨_, rfl⟩
     replace H : (acmelaw12_MillVolumes.l0 kj7 l0 y196 (wrap64 (x8_1 + (wrap64 ((wrap64 ((wrap64 (1 + (Int.tmod (wrap64 ((rd_T106 l0 x9_1).f0)) 500))) * (wrap64 (1 + (Int.tmod (wrap64 ((rd_T106 l0 x9_1).f0)) 500))))) * (wrap64 (1 + (wrap64 ((rd_T106 l0 x9_1).f1)))))))) (wrap64 (x9_1 + 1)) a1_0 a1_1 a1_2 a2_0 a2_1 a2_2) = some r := by first | (rw [hy196]; with_reducible exact H) | (have H2_ := (Option.bind_some _ _).symm.trans H; rw [hy196]; with_reducible exact H2_) | (have H2_ := (Option.bind_some _ _).symm.trans H; with_reducible exact H2_) | with_reducible exact H | (rw [hy196]; exact H) | exact H
     have Ny196 := Aside0.mk hy196
     clear hy196
     have H' := Aside0.mk H
     clear H
     try go_wp2_with (first | ((with_reducible refine gate_dst (N := 10) rfl ?_); (try (refine gate_guard (by rfl) ?_; dsimp only)); refine box_event ?hg (N := 10) ?hd (cs := #[.int .i64 0, .int .i64 0]) (t := 46) ?hr ?_; (case hd => rfl); (case hg => rfl); (case hr => first | (go_simp; done) | (go_simp; rfl)); intro gb193 hg w15 hbox hb; replace HO_7 := Aside0.mk (Kd.R_below (Kd.R_elderB (by (with_reducible repeat (first | apply Kd.R_alloc | apply Kd.R_drewN | apply Kd.R_drew)); exact HO_7.out) gb193 (Nat.le_of_eq hg.symm)) hb); have BK193 := Aside0.mk (hbox); have GW193 := Aside0.mk ((by rw [hg]; exact (below_size (by repeat (first | (with_reducible first | exact HB.out | apply below_alloc | apply pw_below_drewN | apply below_drew1 | refine below_set ?_ (Aside0.out (by assumption))) | exact HB.out))) : w.heap.size ≤ gb193)); have GE193 := GW193; replace HB := Aside0.mk (below_step (by repeat (first | (with_reducible first | exact HB.out | apply below_alloc | apply pw_below_drewN | apply below_drew1 | refine below_set ?_ (Aside0.out (by assumption))) | exact HB.out)) hb); have NB188_193 := Aside0.mk ((by rw [hg]; exact Nat.ne_of_lt (blk_lt BK188.out) : gb188 ≠ gb193)); have NB193_188 := Aside0.mk ((by rw [hg]; exact Nat.ne_of_gt (blk_lt BK188.out) : gb193 ≠ gb188)); replace BK188 := Aside0.mk (blk_below (by repeat (first | (with_reducible first | exact BK188.out | refine blk_drewN ?_ _ | refine blk_drew ?_ | refine blk_alloc ?_ _) | exact BK188.out)) hb); have NB189_193 := Aside0.mk ((by rw [hg]; exact Nat.ne_of_lt (blk_lt BK189.out) : gb189 ≠ gb193)); have NB193_189 := Aside0.mk ((by rw [hg]; exact Nat.ne_of_gt (blk_lt BK189.out) : gb193 ≠ gb189)); replace BK189 := Aside0.mk (blk_below (by repeat (first | (with_reducible first | exact BK189.out | refine blk_drewN ?_ _ | refine blk_drew ?_ | refine blk_alloc ?_ _) | exact BK189.out)) hb); clear hb hbox hg; have hnb16 := NB193_188.out; have hnc16 := NB188_193.out; have hnb17 := NB193_189.out; have hnc17 := NB189_193.out; obtain ⟨hcz18_0, hcz18_1⟩ := bc2 BK193.out; obtain ⟨hfz18_0, hfz18_1⟩ := bf2 BK193.out))
     have n0_ : Aside0 (Kd.R k46 46 ((w15.setCell ⟨gb193, 0, none⟩ (.int .i64 30)).setCell ⟨gb193, 1, none⟩ (.int .i64 100)) w.heap.size (fun k_ => k_ ≠ gb193) u7 x7_1) := ⟨by (with_reducible repeat (first | apply Kd.R_alloc | apply Kd.R_drewN | apply Kd.R_drew)); exact Kd.R_mono (Kd.R_far (p := ⟨gb193, 1, none⟩) (Kd.R_far (p := ⟨gb193, 0, none⟩) (Kd.R_mono HO_7.out (fun k_ hk => (⟨hk, hk.2⟩ : _ ∧ k_ ≠ gb193))) (fun _ hk => hk.2) (.int .i64 30)) (fun _ hk => hk.2) (.int .i64 100)) (fun _ hk => hk.1.2)⟩
     have n1_ : Aside0 (((w15.setCell ⟨gb193, 0, none⟩ (.int .i64 30)).setCell ⟨gb193, 1, none⟩ (.int .i64 100)).heap[gb188]? = some (.cells #[.int .u8 a1_0, .int .u8 a1_1, .int .u8 a1_2] 94 (0, 0))) := ⟨by repeat (first | (with_reducible first | exact BK188.out | refine blk_drewN ?_ _ | refine blk_drew ?_ | refine blk_alloc ?_ _) | refine blk_far ?_ NB188_193.out _ | exact BK188.out)⟩
     have n2_ : Aside0 (((w15.setCell ⟨gb193, 0, none⟩ (.int .i64 30)).setCell ⟨gb193, 1, none⟩ (.int .i64 100)).heap[gb189]? = some (.cells #[.int .u16 a2_0, .int .u16 a2_1, .int .u16 a2_2] 105 (0, 0))) := ⟨by repeat (first | (with_reducible first | exact BK189.out | refine blk_drewN ?_ _ | refine blk_drew ?_ | refine blk_alloc ?_ _) | refine blk_far ?_ NB189_193.out _ | exact BK189.out)⟩
     have n3_ : Aside0 (((w15.setCell ⟨gb193, 0, none⟩ (.int .i64 30)).setCell ⟨gb193, 1, none⟩ (.int .i64 100)).heap[gb193]? = some (.cells #[.int .i64 30, .int .i64 100] 46 (0, 0))) := ⟨by exact bto (bput (bput (BK193.out) _ _) _ _) rfl⟩
     have n4_ : Aside0 (Below w.heap.size w ((w15.setCell ⟨gb193, 0, none⟩ (.int .i64 30)).setCell ⟨gb193, 1, none⟩ (.int .i64 100))) := ⟨by repeat (first | (with_reducible first | exact HB.out | apply below_alloc | apply pw_below_drewN | apply below_drew1 | refine below_set ?_ (Aside0.out (by assumption))) | exact HB.out)⟩
     (try clear HO_7)
     (try clear BK188)
     (try clear BK189)
     (try clear BK193)
     (try clear HB)
     generalize ((w15.setCell ⟨gb193, 0, none⟩ (.int .i64 30)).setCell ⟨gb193, 1, none⟩ (.int .i64 100)) = w19 at n0_ n1_ n2_ n3_ n4_ ⊢
     have HO_7 := n0_
     have BK188 := n1_
     have BK189 := n2_
     have BK193 := n3_
     have HB := n4_
     clear n0_ n1_ n2_ n3_ n4_
     replace HO_7 := Aside0.mk (Kd.R_drew HO_7.out)
     replace BK188 := Aside0.mk (blk_drew BK188.out)
     replace BK189 := Aside0.mk (blk_drew BK189.out)
     replace BK193 := Aside0.mk (blk_drew BK193.out)
     replace HB := Aside0.mk (below_drew1 HB.out)
     have p194 : 0 ≤ (x9_1 : Int) := of_decide_eq_true (by first | (with_reducible assumption) | assumption)
     have q194 : x9_1 < (l0.length : Int) := of_decide_eq_true (by first | (with_reducible assumption) | assumption)
     obtain ⟨ad194, e194, hx194_0, hx194_1⟩ := at_T106 HR0.out x9_1 p194 q194
     have hw194_1 := hx194_1
     have hw194_0 := hx194_0
     cases e194
     replace hx194_0 := (HB.out.cell (World.block_lt_of_cell? w _ hx194_0)).trans hx194_0
     replace hx194_1 := (HB.out.cell (World.block_lt_of_cell? w _ hx194_1)).trans hx194_1
     replace p194 := eq_true p194
     replace q194 := eq_true q194
     have p195 : 0 ≤ (x9_1 : Int) := of_decide_eq_true (by first | (with_reducible assumption) | assumption)
     have q195 : x9_1 < (l0.length : Int) := of_decide_eq_true (by first | (with_reducible assumption) | assumption)
     obtain ⟨ad195, e195, hx195_0, hx195_1⟩ := at_T106 HR0.out x9_1 p195 q195
     have hw195_1 := hx195_1
     have hw195_0 := hx195_0
     obtain rfl : ad194 = ad195 := (by injection e195)
     replace hx195_0 := (HB.out.cell (World.block_lt_of_cell? w _ hx195_0)).trans hx195_0
     replace hx195_1 := (HB.out.cell (World.block_lt_of_cell? w _ hx195_1)).trans hx195_1
     replace p195 := eq_true p195
     replace q195 := eq_true q195
     refine start_ (n := 17) (S := fun w' => w'.cell? (ad194.add ((x9_1).toNat * 2)) = some (.int .u16 ((rd_T106 l0 x9_1).f0)) ∧ w'.cell? ⟨(ad194.add ((x9_1).toNat * 2)).block, (ad194.add ((x9_1).toNat * 2)).off + 1, none⟩ = some (.int .u16 ((rd_T106 l0 x9_1).f1)) ∧ w'.cell? (ad194.add ((x9_1).toNat * 2)) = some (.int .u16 ((rd_T106 l0 x9_1).f0)) ∧ w'.cell? ⟨(ad194.add ((x9_1).toNat * 2)).block, (ad194.add ((x9_1).toNat * 2)).off + 1, none⟩ = some (.int .u16 ((rd_T106 l0 x9_1).f1))) (ds := []) #[ff, ff, ff, ff, ff, ff, ff, ff, ff, ff, ff, ff, ff, ff, ff, ff, ff] (by kernel_rfl) rfl rfl ⟨((HB.out.cell (World.block_lt_of_cell? w _ hw194_0)).trans hw194_0), ((HB.out.cell (World.block_lt_of_cell? w _ hw194_1)).trans hw194_1), ((HB.out.cell (World.block_lt_of_cell? w _ hw195_0)).trans hw195_0), ((HB.out.cell (World.block_lt_of_cell? w _ hw195_1)).trans hw195_1)⟩ (fun hHeld => ?_); refine with_tabW acmelaw12_MillVolumes.tab7 acmelaw12_MillVolumes.bits7 (fun HT_ HW_ => ?_)
     generalize w19.drew = w20 at HO_7 BK188 BK189 BK193 HB hx194_0 hx194_1 hx195_0 hx195_1 hHeld ⊢
     refine pure_ (i := 0) (N := some 39) (v := ?_) (a' := ?_) #[tt, ff, ff, ff, ff, ff, ff, ff, ff, ff, ff, ff, ff, ff, ff, ff, ff] rfl rfl (any_of HT_.out (by kernel_rfl)) (fun _ _ _ h => h) (Or.inl ⟨by rfl, ?_⟩) ?_ ?_
     rotate_left
     ·intro w'
      go_simp
      with_reducible rfl
     rotate_left
     ·simp only [Act.put, List.setIfInBounds_toArray, List.set_cons_zero, List.set_cons_succ, i64_w, i32_w]
      rfl
     refine pure_ (i := 1) (N := some 40) (v := ?_) (a' := ?_) #[tt, tt, ff, ff, ff, ff, ff, ff, ff, ff, ff, ff, ff, ff, ff, ff, ff] rfl rfl (any_of HT_.out (by kernel_rfl)) (fun _ _ _ h => h) (Or.inl ⟨by rfl, ?_⟩) ?_ ?_
     rotate_left
     ·intro w'
      go_simp
      with_reducible rfl
     rotate_left
     ·simp only [Act.put, List.setIfInBounds_toArray, List.set_cons_zero, List.set_cons_succ, i64_w, i32_w]
      rfl
     refine pure_ (i := 2) (N := some 41) (v := ?_) (a' := ?_) #[tt, tt, tt, ff, ff, ff, ff, ff, ff, ff, ff, ff, ff, ff, ff, ff, ff] rfl rfl (any_of HT_.out (by kernel_rfl)) (fun _ _ _ h => h) (Or.inl ⟨by rfl, ?_⟩) ?_ ?_
     rotate_left
     ·intro w'
      go_simp
      with_reducible rfl
     rotate_left
     ·simp only [Act.put, List.setIfInBounds_toArray, List.set_cons_zero, List.set_cons_succ, i64_w, i32_w]
      rfl
     refine pure_ (i := 3) (N := some 42) (v := ?_) (a' := ?_) #[tt, tt, tt, tt, ff, ff, ff, ff, ff, ff, ff, ff, ff, ff, ff, ff, ff] rfl rfl (any_of HT_.out (by kernel_rfl)) (fun _ _ _ h => h) (Or.inl ⟨by rfl, ?_⟩) ?_ ?_
     rotate_left
     ·intro w'
      go_simp
      with_reducible rfl
     rotate_left
     ·simp only [Act.put, List.setIfInBounds_toArray, List.set_cons_zero, List.set_cons_succ, i64_w, i32_w]
      rfl
     refine pure_ (i := 8) (N := some 47) (v := ?_) (a' := ?_) #[tt, tt, tt, tt, ff, ff, ff, ff, tt, ff, ff, ff, ff, ff, ff, ff, ff] rfl rfl (any_of HT_.out (by kernel_rfl)) (fun _ _ _ h => h) (Or.inl ⟨by rfl, ?_⟩) ?_ ?_
     rotate_left
     ·intro w'
      go_simp
      with_reducible rfl
     rotate_left
     ·simp only [Act.put, List.setIfInBounds_toArray, List.set_cons_zero, List.set_cons_succ, i64_w, i32_w]
      rfl
     refine pure_ (i := 9) (N := some 48) (v := ?_) (a' := ?_) #[tt, tt, tt, tt, ff, ff, ff, ff, tt, tt, ff, ff, ff, ff, ff, ff, ff] rfl rfl (any_of HT_.out (by kernel_rfl)) (fun _ _ _ h => h) (Or.inl ⟨by rfl, ?_⟩) ?_ ?_
     rotate_left
     ·intro w'
      go_simp
      with_reducible rfl
     rotate_left
     ·simp only [Act.put, List.setIfInBounds_toArray, List.set_cons_zero, List.set_cons_succ, i64_w, i32_w]
      rfl
     refine pure_ (i := 10) (N := some 49) (v := ?_) (a' := ?_) #[tt, tt, tt, tt, ff, ff, ff, ff, tt, tt, tt, ff, ff, ff, ff, ff, ff] rfl rfl (any_of HT_.out (by kernel_rfl)) (fun _ _ _ h => h) (Or.inl ⟨by rfl, ?_⟩) ?_ ?_
     rotate_left
     ·intro w'
      go_simp
      with_reducible rfl
     rotate_left
     ·simp only [Act.put, List.setIfInBounds_toArray, List.set_cons_zero, List.set_cons_succ, i64_w, i32_w]
      rfl
     refine pure_ (i := 11) (N := some 50) (v := ?_) (a' := ?_) #[tt, tt, tt, tt, ff, ff, ff, ff, tt, tt, tt, tt, ff, ff, ff, ff, ff] rfl rfl (any_of HT_.out (by kernel_rfl)) (fun _ _ _ h => h) (Or.inl ⟨by rfl, ?_⟩) ?_ ?_
     rotate_left
     ·intro w'
      go_simp
      with_reducible rfl
     rotate_left
     ·simp only [Act.put, List.setIfInBounds_toArray, List.set_cons_zero, List.set_cons_succ, i64_w, i32_w]
      rfl
     refine take_ (i := 4) (N := some 43) (v := ?_) (a' := ?_) #[tt, tt, tt, tt, tt, ff, ff, ff, tt, tt, tt, tt, ff, ff, ff, ff, ff] rfl rfl (take_ofW HT_.out HW_.out (by kernel_rfl)) (fun _ _ _ h => h) (Or.inl ⟨by rfl, ?_⟩) hHeld ?_ ?_
     rotate_left
     ·rintro w' ⟨s0, s1, s2, s3⟩
      go_simp
      with_reducible rfl
     rotate_left
     ·simp only [Act.put, List.setIfInBounds_toArray, List.set_cons_zero, List.set_cons_succ, i64_w, i32_w]
      rfl
     refine pure_ (i := 5) (N := some 44) (v := ?_) (a' := ?_) #[tt, tt, tt, tt, tt, tt, ff, ff, tt, tt, tt, tt, ff, ff, ff, ff, ff] rfl rfl (any_of HT_.out (by kernel_rfl)) (fun _ _ _ h => h) (Or.inl ⟨by rfl, ?_⟩) ?_ ?_
     rotate_left
     ·intro w'
      go_simp
      with_reducible rfl
     rotate_left
     ·simp only [Act.put, List.setIfInBounds_toArray, List.set_cons_zero, List.set_cons_succ, i64_w, i32_w]
      rfl
     refine pure_ (i := 6) (N := some 45) (v := ?_) (a' := ?_) #[tt, tt, tt, tt, tt, tt, tt, ff, tt, tt, tt, tt, ff, ff, ff, ff, ff] rfl rfl (any_of HT_.out (by kernel_rfl)) (fun _ _ _ h => h) (Or.inl ⟨by rfl, ?_⟩) ?_ ?_
     rotate_left
     ·intro w'
      go_simp
      with_reducible rfl
     rotate_left
     ·simp only [Act.put, List.setIfInBounds_toArray, List.set_cons_zero, List.set_cons_succ, i64_w, i32_w]
      rfl
     refine pure_ (i := 7) (N := some 46) (v := ?_) (a' := ?_) #[tt, tt, tt, tt, tt, tt, tt, tt, tt, tt, tt, tt, ff, ff, ff, ff, ff] rfl rfl (any_of HT_.out (by kernel_rfl)) (fun _ _ _ h => h) (Or.inl ⟨by rfl, ?_⟩) ?_ ?_
     rotate_left
     ·intro w'
      go_simp
      with_reducible rfl
     rotate_left
     ·simp only [Act.put, List.setIfInBounds_toArray, List.set_cons_zero, List.set_cons_succ, i64_w, i32_w]
      rfl
     refine take_ (i := 12) (N := some 51) (v := ?_) (a' := ?_) #[tt, tt, tt, tt, tt, tt, tt, tt, tt, tt, tt, tt, tt, ff, ff, ff, ff] rfl rfl (take_ofW HT_.out HW_.out (by kernel_rfl)) (fun _ _ _ h => h) (Or.inl ⟨by rfl, ?_⟩) hHeld ?_ ?_
     rotate_left
     ·rintro w' ⟨s0, s1, s2, s3⟩
      go_simp
      with_reducible rfl
     rotate_left
     ·simp only [Act.put, List.setIfInBounds_toArray, List.set_cons_zero, List.set_cons_succ, i64_w, i32_w]
      rfl
     refine pure_ (i := 13) (N := some 52) (v := ?_) (a' := ?_) #[tt, tt, tt, tt, tt, tt, tt, tt, tt, tt, tt, tt, tt, tt, ff, ff, ff] rfl rfl (any_of HT_.out (by kernel_rfl)) (fun _ _ _ h => h) (Or.inl ⟨by rfl, ?_⟩) ?_ ?_
     rotate_left
     ·intro w'
      go_simp
      with_reducible rfl
     rotate_left
     ·simp only [Act.put, List.setIfInBounds_toArray, List.set_cons_zero, List.set_cons_succ, i64_w, i32_w]
      rfl
     refine pure_ (i := 14) (N := some 53) (v := ?_) (a' := ?_) #[tt, tt, tt, tt, tt, tt, tt, tt, tt, tt, tt, tt, tt, tt, tt, ff, ff] rfl rfl (any_of HT_.out (by kernel_rfl)) (fun _ _ _ h => h) (Or.inl ⟨by rfl, ?_⟩) ?_ ?_
     rotate_left
     ·intro w'
      go_simp
      with_reducible rfl
     rotate_left
     ·simp only [Act.put, List.setIfInBounds_toArray, List.set_cons_zero, List.set_cons_succ, i64_w, i32_w]
      rfl
     refine pure_ (i := 15) (N := some 54) (v := ?_) (a' := ?_) #[tt, tt, tt, tt, tt, tt, tt, tt, tt, tt, tt, tt, tt, tt, tt, tt, ff] rfl rfl (any_of HT_.out (by kernel_rfl)) (fun _ _ _ h => h) (Or.inl ⟨by rfl, ?_⟩) ?_ ?_
     rotate_left
     ·intro w'
      go_simp
      with_reducible rfl
     rotate_left
     ·simp only [Act.put, List.setIfInBounds_toArray, List.set_cons_zero, List.set_cons_succ, i64_w, i32_w]
      rfl
     refine one_ (i := 16) (N := none) #[tt, tt, tt, tt, tt, tt, tt, tt, tt, tt, tt, tt, tt, tt, tt, tt, tt] rfl rfl (one_of HT_.out (by kernel_rfl)) (by decide) (fun K hK => ?_)
     have hs21 : w20.cell? ⟨gb193, 0, none⟩ = some (.int .i64 30) := (blk_cell BK193.out 0).trans rfl
     have hfs21 := blk_frozen BK193.out 0
     have hns21_0 := NB188_193.out
     have hns21_1 := NB189_193.out
     have hms21_0 := NB193_188.out
     have hms21_1 := NB193_189.out
     have hs22 : w20.cell? ⟨gb193, 1, none⟩ = some (.int .i64 100) := (blk_cell BK193.out 1).trans rfl
     have hfs22 := blk_frozen BK193.out 1
     have hns22_0 := NB188_193.out
     have hns22_1 := NB189_193.out
     have hms22_0 := NB193_188.out
     have hms22_1 := NB193_189.out
     refine skip_ (w1 := ?_) (by rfl) rfl ?_ ?_
     rotate_left
     ·go_simp
      rfl
     refine hK.out _ _ ⟨((cell_far (p := ⟨gb193, _, none⟩) (by first | exact Nat.ne_of_lt (Nat.lt_of_lt_of_le (by have := World.block_lt_of_cell? _ _ hw194_0; first | rwa [add_block] at this | exact this) GW193.out) | (rw [add_block]; exact Nat.ne_of_lt (Nat.lt_of_lt_of_le (by have := World.block_lt_of_cell? _ _ hw194_0; first | rwa [add_block] at this | exact this) GW193.out)) | (show (Addr.add _ _).block ≠ _; rw [add_block]; exact Nat.ne_of_lt (Nat.lt_of_lt_of_le (by have := World.block_lt_of_cell? _ _ hw194_0; first | rwa [add_block] at this | exact this) GW193.out)) | (dsimp only; exact Nat.ne_of_lt (Nat.lt_of_lt_of_le (by have := World.block_lt_of_cell? _ _ hw194_0; first | rwa [add_block] at this | exact this) GW193.out))) _).trans (((cell_far (p := ⟨gb193, _, none⟩) (by first | exact Nat.ne_of_lt (Nat.lt_of_lt_of_le (by have := World.block_lt_of_cell? _ _ hw194_0; first | rwa [add_block] at this | exact this) GW193.out) | (rw [add_block]; exact Nat.ne_of_lt (Nat.lt_of_lt_of_le (by have := World.block_lt_of_cell? _ _ hw194_0; first | rwa [add_block] at this | exact this) GW193.out)) | (show (Addr.add _ _).block ≠ _; rw [add_block]; exact Nat.ne_of_lt (Nat.lt_of_lt_of_le (by have := World.block_lt_of_cell? _ _ hw194_0; first | rwa [add_block] at this | exact this) GW193.out)) | (dsimp only; exact Nat.ne_of_lt (Nat.lt_of_lt_of_le (by have := World.block_lt_of_cell? _ _ hw194_0; first | rwa [add_block] at this | exact this) GW193.out))) _).trans (hHeld.1)))), ((cell_far (p := ⟨gb193, _, none⟩) (by first | exact Nat.ne_of_lt (Nat.lt_of_lt_of_le (by have := World.block_lt_of_cell? _ _ hw194_1; first | rwa [add_block] at this | exact this) GW193.out) | (rw [add_block]; exact Nat.ne_of_lt (Nat.lt_of_lt_of_le (by have := World.block_lt_of_cell? _ _ hw194_1; first | rwa [add_block] at this | exact this) GW193.out)) | (show (Addr.add _ _).block ≠ _; rw [add_block]; exact Nat.ne_of_lt (Nat.lt_of_lt_of_le (by have := World.block_lt_of_cell? _ _ hw194_1; first | rwa [add_block] at this | exact this) GW193.out)) | (dsimp only; exact Nat.ne_of_lt (Nat.lt_of_lt_of_le (by have := World.block_lt_of_cell? _ _ hw194_1; first | rwa [add_block] at this | exact this) GW193.out))) _).trans (((cell_far (p := ⟨gb193, _, none⟩) (by first | exact Nat.ne_of_lt (Nat.lt_of_lt_of_le (by have := World.block_lt_of_cell? _ _ hw194_1; first | rwa [add_block] at this | exact this) GW193.out) | (rw [add_block]; exact Nat.ne_of_lt (Nat.lt_of_lt_of_le (by have := World.block_lt_of_cell? _ _ hw194_1; first | rwa [add_block] at this | exact this) GW193.out)) | (show (Addr.add _ _).block ≠ _; rw [add_block]; exact Nat.ne_of_lt (Nat.lt_of_lt_of_le (by have := World.block_lt_of_cell? _ _ hw194_1; first | rwa [add_block] at this | exact this) GW193.out)) | (dsimp only; exact Nat.ne_of_lt (Nat.lt_of_lt_of_le (by have := World.block_lt_of_cell? _ _ hw194_1; first | rwa [add_block] at this | exact this) GW193.out))) _).trans (hHeld.2.1)))), ((cell_far (p := ⟨gb193, _, none⟩) (by first | exact Nat.ne_of_lt (Nat.lt_of_lt_of_le (by have := World.block_lt_of_cell? _ _ hw195_0; first | rwa [add_block] at this | exact this) GW193.out) | (rw [add_block]; exact Nat.ne_of_lt (Nat.lt_of_lt_of_le (by have := World.block_lt_of_cell? _ _ hw195_0; first | rwa [add_block] at this | exact this) GW193.out)) | (show (Addr.add _ _).block ≠ _; rw [add_block]; exact Nat.ne_of_lt (Nat.lt_of_lt_of_le (by have := World.block_lt_of_cell? _ _ hw195_0; first | rwa [add_block] at this | exact this) GW193.out)) | (dsimp only; exact Nat.ne_of_lt (Nat.lt_of_lt_of_le (by have := World.block_lt_of_cell? _ _ hw195_0; first | rwa [add_block] at this | exact this) GW193.out))) _).trans (((cell_far (p := ⟨gb193, _, none⟩) (by first | exact Nat.ne_of_lt (Nat.lt_of_lt_of_le (by have := World.block_lt_of_cell? _ _ hw195_0; first | rwa [add_block] at this | exact this) GW193.out) | (rw [add_block]; exact Nat.ne_of_lt (Nat.lt_of_lt_of_le (by have := World.block_lt_of_cell? _ _ hw195_0; first | rwa [add_block] at this | exact this) GW193.out)) | (show (Addr.add _ _).block ≠ _; rw [add_block]; exact Nat.ne_of_lt (Nat.lt_of_lt_of_le (by have := World.block_lt_of_cell? _ _ hw195_0; first | rwa [add_block] at this | exact this) GW193.out)) | (dsimp only; exact Nat.ne_of_lt (Nat.lt_of_lt_of_le (by have := World.block_lt_of_cell? _ _ hw195_0; first | rwa [add_block] at this | exact this) GW193.out))) _).trans (hHeld.2.2.1)))), ((cell_far (p := ⟨gb193, _, none⟩) (by first | exact Nat.ne_of_lt (Nat.lt_of_lt_of_le (by have := World.block_lt_of_cell? _ _ hw195_1; first | rwa [add_block] at this | exact this) GW193.out) | (rw [add_block]; exact Nat.ne_of_lt (Nat.lt_of_lt_of_le (by have := World.block_lt_of_cell? _ _ hw195_1; first | rwa [add_block] at this | exact this) GW193.out)) | (show (Addr.add _ _).block ≠ _; rw [add_block]; exact Nat.ne_of_lt (Nat.lt_of_lt_of_le (by have := World.block_lt_of_cell? _ _ hw195_1; first | rwa [add_block] at this | exact this) GW193.out)) | (dsimp only; exact Nat.ne_of_lt (Nat.lt_of_lt_of_le (by have := World.block_lt_of_cell? _ _ hw195_1; first | rwa [add_block] at this | exact this) GW193.out))) _).trans (((cell_far (p := ⟨gb193, _, none⟩) (by first | exact Nat.ne_of_lt (Nat.lt_of_lt_of_le (by have := World.block_lt_of_cell? _ _ hw195_1; first | rwa [add_block] at this | exact this) GW193.out) | (rw [add_block]; exact Nat.ne_of_lt (Nat.lt_of_lt_of_le (by have := World.block_lt_of_cell? _ _ hw195_1; first | rwa [add_block] at this | exact this) GW193.out)) | (show (Addr.add _ _).block ≠ _; rw [add_block]; exact Nat.ne_of_lt (Nat.lt_of_lt_of_le (by have := World.block_lt_of_cell? _ _ hw195_1; first | rwa [add_block] at this | exact this) GW193.out)) | (dsimp only; exact Nat.ne_of_lt (Nat.lt_of_lt_of_le (by have := World.block_lt_of_cell? _ _ hw195_1; first | rwa [add_block] at this | exact this) GW193.out))) _).trans (hHeld.2.2.2))))⟩ (fun hHeld => ?_)
     clear hK K
     refine done_ (done_of HT_.out (by kernel_rfl)) ?_
     try go_wp2
     have n0_ : Aside0 (Kd.R k46 46 ((w20.setCell ⟨gb193, 0, none⟩ (.int .i64 (wrap64 (1 + (Int.tmod (wrap64 ((rd_T106 l0 x9_1).f0)) 500))))).setCell ⟨gb193, 1, none⟩ (.int .i64 (wrap64 (1 + (wrap64 ((rd_T106 l0 x9_1).f1)))))) w.heap.size (fun k_ => k_ ≠ gb193) u7 x7_1) := ⟨by (with_reducible repeat (first | apply Kd.R_alloc | apply Kd.R_drewN | apply Kd.R_drew)); exact Kd.R_mono (Kd.R_far (p := ⟨gb193, 1, none⟩) (Kd.R_far (p := ⟨gb193, 0, none⟩) (Kd.R_mono HO_7.out (fun k_ hk => (⟨hk, hk⟩ : _ ∧ k_ ≠ gb193))) (fun _ hk => hk.2) (.int .i64 (wrap64 (1 + (Int.tmod (wrap64 ((rd_T106 l0 x9_1).f0)) 500))))) (fun _ hk => hk.2) (.int .i64 (wrap64 (1 + (wrap64 ((rd_T106 l0 x9_1).f1)))))) (fun _ hk => hk.1)⟩
     have n1_ : Aside0 (((w20.setCell ⟨gb193, 0, none⟩ (.int .i64 (wrap64 (1 + (Int.tmod (wrap64 ((rd_T106 l0 x9_1).f0)) 500))))).setCell ⟨gb193, 1, none⟩ (.int .i64 (wrap64 (1 + (wrap64 ((rd_T106 l0 x9_1).f1)))))).heap[gb188]? = some (.cells #[.int .u8 a1_0, .int .u8 a1_1, .int .u8 a1_2] 94 (0, 0))) := ⟨by repeat (first | (with_reducible first | exact BK188.out | refine blk_drewN ?_ _ | refine blk_drew ?_ | refine blk_alloc ?_ _) | refine blk_far ?_ NB188_193.out _ | exact BK188.out)⟩
     have n2_ : Aside0 (((w20.setCell ⟨gb193, 0, none⟩ (.int .i64 (wrap64 (1 + (Int.tmod (wrap64 ((rd_T106 l0 x9_1).f0)) 500))))).setCell ⟨gb193, 1, none⟩ (.int .i64 (wrap64 (1 + (wrap64 ((rd_T106 l0 x9_1).f1)))))).heap[gb189]? = some (.cells #[.int .u16 a2_0, .int .u16 a2_1, .int .u16 a2_2] 105 (0, 0))) := ⟨by repeat (first | (with_reducible first | exact BK189.out | refine blk_drewN ?_ _ | refine blk_drew ?_ | refine blk_alloc ?_ _) | refine blk_far ?_ NB189_193.out _ | exact BK189.out)⟩
     have n3_ : Aside0 (((w20.setCell ⟨gb193, 0, none⟩ (.int .i64 (wrap64 (1 + (Int.tmod (wrap64 ((rd_T106 l0 x9_1).f0)) 500))))).setCell ⟨gb193, 1, none⟩ (.int .i64 (wrap64 (1 + (wrap64 ((rd_T106 l0 x9_1).f1)))))).heap[gb193]? = some (.cells #[.int .i64 (wrap64 (1 + (Int.tmod (wrap64 ((rd_T106 l0 x9_1).f0)) 500))), .int .i64 (wrap64 (1 + (wrap64 ((rd_T106 l0 x9_1).f1))))] 46 (0, 0))) := ⟨by exact bto (bput (bput (BK193.out) _ _) _ _) rfl⟩
     have n4_ : Aside0 (Below w.heap.size w ((w20.setCell ⟨gb193, 0, none⟩ (.int .i64 (wrap64 (1 + (Int.tmod (wrap64 ((rd_T106 l0 x9_1).f0)) 500))))).setCell ⟨gb193, 1, none⟩ (.int .i64 (wrap64 (1 + (wrap64 ((rd_T106 l0 x9_1).f1))))))) := ⟨by repeat (first | (with_reducible first | exact HB.out | apply below_alloc | apply pw_below_drewN | apply below_drew1 | refine below_set ?_ (Aside0.out (by assumption))) | exact HB.out)⟩
     (try clear HO_7)
     (try clear BK188)
     (try clear BK189)
     (try clear BK193)
     (try clear HB)
     generalize ((w20.setCell ⟨gb193, 0, none⟩ (.int .i64 (wrap64 (1 + (Int.tmod (wrap64 ((rd_T106 l0 x9_1).f0)) 500))))).setCell ⟨gb193, 1, none⟩ (.int .i64 (wrap64 (1 + (wrap64 ((rd_T106 l0 x9_1).f1)))))) = w23 at n0_ n1_ n2_ n3_ n4_ ⊢
     have HO_7 := n0_
     have BK188 := n1_
     have BK189 := n2_
     have BK193 := n3_
     have HB := n4_
     clear n0_ n1_ n2_ n3_ n4_
     replace HO_7 := Aside0.mk (Kd.R_drew HO_7.out)
     replace BK188 := Aside0.mk (blk_drew BK188.out)
     replace BK189 := Aside0.mk (blk_drew BK189.out)
     replace BK193 := Aside0.mk (blk_drew BK193.out)
     replace HB := Aside0.mk (below_drew1 HB.out)
     refine start_ (n := 16) (S := fun w' => w'.cell? ⟨gb193, 0, none⟩ = some (.int .i64 (wrap64 (1 + (Int.tmod (wrap64 ((rd_T106 l0 x9_1).f0)) 500)))) ∧ w'.cell? ⟨gb193, 1, none⟩ = some (.int .i64 (wrap64 (1 + (wrap64 ((rd_T106 l0 x9_1).f1)))))) (ds := []) #[ff, ff, ff, ff, ff, ff, ff, ff, ff, ff, ff, ff, ff, ff, ff, ff] (by kernel_rfl) rfl rfl ⟨(blk_cell BK193.out 0).trans rfl, (blk_cell BK193.out 1).trans rfl⟩ (fun hHeld => ?_); refine with_tabW acmelaw12_MillVolumes.tab8 acmelaw12_MillVolumes.bits8 (fun HT_ HW_ => ?_)
     generalize w23.drew = w24 at HO_7 BK188 BK189 BK193 HB hHeld ⊢
     refine pure_ (i := 0) (N := some 55) (v := ?_) (a' := ?_) #[tt, ff, ff, ff, ff, ff, ff, ff, ff, ff, ff, ff, ff, ff, ff, ff] rfl rfl (any_of HT_.out (by kernel_rfl)) (fun _ _ _ h => h) (Or.inl ⟨by rfl, ?_⟩) ?_ ?_
     rotate_left
     ·intro w'
      go_simp
      with_reducible rfl
     rotate_left
     ·simp only [Act.put, List.setIfInBounds_toArray, List.set_cons_zero, List.set_cons_succ, i64_w, i32_w]
      rfl
     refine pure_ (i := 4) (N := some 59) (v := ?_) (a' := ?_) #[tt, ff, ff, ff, tt, ff, ff, ff, ff, ff, ff, ff, ff, ff, ff, ff] rfl rfl (any_of HT_.out (by kernel_rfl)) (fun _ _ _ h => h) (Or.inl ⟨by rfl, ?_⟩) ?_ ?_
     rotate_left
     ·intro w'
      go_simp
      with_reducible rfl
     rotate_left
     ·simp only [Act.put, List.setIfInBounds_toArray, List.set_cons_zero, List.set_cons_succ, i64_w, i32_w]
      rfl
     refine pure_ (i := 5) (N := some 60) (v := ?_) (a' := ?_) #[tt, ff, ff, ff, tt, tt, ff, ff, ff, ff, ff, ff, ff, ff, ff, ff] rfl rfl (any_of HT_.out (by kernel_rfl)) (fun _ _ _ h => h) (Or.inl ⟨by rfl, ?_⟩) ?_ ?_
     rotate_left
     ·intro w'
      go_simp
      with_reducible rfl
     rotate_left
     ·simp only [Act.put, List.setIfInBounds_toArray, List.set_cons_zero, List.set_cons_succ, i64_w, i32_w]
      rfl
     refine pure_ (i := 7) (N := some 62) (v := ?_) (a' := ?_) #[tt, ff, ff, ff, tt, tt, ff, tt, ff, ff, ff, ff, ff, ff, ff, ff] rfl rfl (any_of HT_.out (by kernel_rfl)) (fun _ _ _ h => h) (Or.inl ⟨by rfl, ?_⟩) ?_ ?_
     rotate_left
     ·intro w'
      go_simp
      with_reducible rfl
     rotate_left
     ·simp only [Act.put, List.setIfInBounds_toArray, List.set_cons_zero, List.set_cons_succ, i64_w, i32_w]
      rfl
     refine pure_ (i := 10) (N := some 65) (v := ?_) (a' := ?_) #[tt, ff, ff, ff, tt, tt, ff, tt, ff, ff, tt, ff, ff, ff, ff, ff] rfl rfl (any_of HT_.out (by kernel_rfl)) (fun _ _ _ h => h) (Or.inl ⟨by rfl, ?_⟩) ?_ ?_
     rotate_left
     ·intro w'
      go_simp
      with_reducible rfl
     rotate_left
     ·simp only [Act.put, List.setIfInBounds_toArray, List.set_cons_zero, List.set_cons_succ, i64_w, i32_w]
      rfl
     refine take_ (i := 1) (N := some 56) (v := ?_) (a' := ?_) #[tt, tt, ff, ff, tt, tt, ff, tt, ff, ff, tt, ff, ff, ff, ff, ff] rfl rfl (take_ofW HT_.out HW_.out (by kernel_rfl)) (fun _ _ _ h => h) (Or.inl ⟨by rfl, ?_⟩) hHeld ?_ ?_
     rotate_left
     ·rintro w' ⟨s0, s1⟩
      go_simp
      with_reducible rfl
     rotate_left
     ·simp only [Act.put, List.setIfInBounds_toArray, List.set_cons_zero, List.set_cons_succ, i64_w, i32_w]
      rfl
     refine take_ (i := 6) (N := some 61) (v := ?_) (a' := ?_) #[tt, tt, ff, ff, tt, tt, tt, tt, ff, ff, tt, ff, ff, ff, ff, ff] rfl rfl (take_ofW HT_.out HW_.out (by kernel_rfl)) (fun _ _ _ h => h) (Or.inl ⟨by rfl, ?_⟩) hHeld ?_ ?_
     rotate_left
     ·rintro w' ⟨s0, s1⟩
      go_simp
      with_reducible rfl
     rotate_left
     ·simp only [Act.put, List.setIfInBounds_toArray, List.set_cons_zero, List.set_cons_succ, i64_w, i32_w]
      rfl
     refine take_ (i := 8) (N := some 63) (v := ?_) (a' := ?_) #[tt, tt, ff, ff, tt, tt, tt, tt, tt, ff, tt, ff, ff, ff, ff, ff] rfl rfl (take_ofW HT_.out HW_.out (by kernel_rfl)) (fun _ _ _ h => h) (Or.inl ⟨by rfl, ?_⟩) hHeld ?_ ?_
     rotate_left
     ·rintro w' ⟨s0, s1⟩
      go_simp
      with_reducible rfl
     rotate_left
     ·simp only [Act.put, List.setIfInBounds_toArray, List.set_cons_zero, List.set_cons_succ, i64_w, i32_w]
      rfl
     refine pure_ (i := 9) (N := some 64) (v := ?_) (a' := ?_) #[tt, tt, ff, ff, tt, tt, tt, tt, tt, tt, tt, ff, ff, ff, ff, ff] rfl rfl (any_of HT_.out (by kernel_rfl)) (fun _ _ _ h => h) (Or.inl ⟨by rfl, ?_⟩) ?_ ?_
     rotate_left
     ·intro w'
      go_simp
      with_reducible rfl
     rotate_left
     ·simp only [Act.put, List.setIfInBounds_toArray, List.set_cons_zero, List.set_cons_succ, i64_w, i32_w]
      rfl
     refine take_ (i := 11) (N := some 66) (v := ?_) (a' := ?_) #[tt, tt, ff, ff, tt, tt, tt, tt, tt, tt, tt, tt, ff, ff, ff, ff] rfl rfl (take_ofW HT_.out HW_.out (by kernel_rfl)) (fun _ _ _ h => h) (Or.inl ⟨by rfl, ?_⟩) hHeld ?_ ?_
     rotate_left
     ·rintro w' ⟨s0, s1⟩
      go_simp
      with_reducible rfl
     rotate_left
     ·simp only [Act.put, List.setIfInBounds_toArray, List.set_cons_zero, List.set_cons_succ, i64_w, i32_w]
      rfl
     refine pure_ (i := 12) (N := some 67) (v := ?_) (a' := ?_) #[tt, tt, ff, ff, tt, tt, tt, tt, tt, tt, tt, tt, tt, ff, ff, ff] rfl rfl (any_of HT_.out (by kernel_rfl)) (fun _ _ _ h => h) (Or.inl ⟨by rfl, ?_⟩) ?_ ?_
     rotate_left
     ·intro w'
      go_simp
      with_reducible rfl
     rotate_left
     ·simp only [Act.put, List.setIfInBounds_toArray, List.set_cons_zero, List.set_cons_succ, i64_w, i32_w]
      rfl
     refine pure_ (i := 13) (N := some 68) (v := ?_) (a' := ?_) #[tt, tt, ff, ff, tt, tt, tt, tt, tt, tt, tt, tt, tt, tt, ff, ff] rfl rfl (any_of HT_.out (by kernel_rfl)) (fun _ _ _ h => h) (Or.inl ⟨by rfl, ?_⟩) ?_ ?_
     rotate_left
     ·intro w'
      go_simp
      with_reducible rfl
     rotate_left
     ·simp only [Act.put, List.setIfInBounds_toArray, List.set_cons_zero, List.set_cons_succ, i64_w, i32_w]
      rfl
     refine one_ (i := 2) (N := some 57) #[tt, tt, tt, ff, tt, tt, tt, tt, tt, tt, tt, tt, tt, tt, ff, ff] rfl rfl (one_of HT_.out (by kernel_rfl)) (by decide) (fun K hK => ?_)
     refine value_ (w1 := ?_) (v := ?_) (by rfl) rfl ?_ ?_
     rotate_left 2
     ·go_simp
      constructor
      ·rfl
      ·rfl
     refine hK.out _ _ ⟨(blk_cell (blk_alloc BK193.out _) 0).trans rfl, (blk_cell (blk_alloc BK193.out _) 1).trans rfl⟩ (fun hHeld => ?_)
     clear hK K
     refine norm_ (a' := ?_) ?_ ?_
     rotate_left
     ·show Act.put _ (some 57) _ = _
      simp only [Act.put, List.setIfInBounds_toArray, List.set_cons_zero, List.set_cons_succ, i64_w, i32_w]
      rfl
     refine one_ (i := 3) (N := some 58) #[tt, tt, tt, tt, tt, tt, tt, tt, tt, tt, tt, tt, tt, tt, ff, ff] rfl rfl (one_of HT_.out (by kernel_rfl)) (by decide) (fun K hK => ?_)
     refine Kd.R_append_step k46 (w0 := w) w.heap.size (by rfl) (.tmp 55) (.tmp 57) 39 46 (.agg #[(.int .i64 0), (.int .i64 0)]) 16 rfl Try.underlying39 info46 rfl (by decide) (by omega) u7 x7_1 (⟨wrap64 (1 + (Int.tmod (wrap64 ((rd_T106 l0 x9_1).f0)) 500)), wrap64 (1 + (wrap64 ((rd_T106 l0 x9_1).f1)))⟩ : S46) [.int .i64 (wrap64 (1 + (Int.tmod (wrap64 ((rd_T106 l0 x9_1).f0)) 500))), .int .i64 (wrap64 (1 + (wrap64 ((rd_T106 l0 x9_1).f1))))] (fun k_ => k_ ≠ gb193) (fun _ => False) rfl rfl ?aP (fun _ hk => hk.elim) ?aF ?aO ?aB ?aS ?aL ?_
     (case aP => exact k46_mkM _ _ _ (⟨wrap64 (1 + (Int.tmod (wrap64 ((rd_T106 l0 x9_1).f0)) 500)), wrap64 (1 + (wrap64 ((rd_T106 l0 x9_1).f1)))⟩ : S46))
     (case aB => exact (by repeat (first | (with_reducible first | exact HB.out | apply below_alloc | apply pw_below_drewN | apply below_drew1 | refine below_set ?_ (Aside0.out (by assumption))) | exact HB.out)))
     (case aF => exact (fun k_ hk => Kd.freshB (g := gb193) (o := .cells #[.int .i64 (wrap64 (1 + (Int.tmod (wrap64 ((rd_T106 l0 x9_1).f0)) 500))), .int .i64 (wrap64 (1 + (wrap64 ((rd_T106 l0 x9_1).f1))))] 46 (0, 0)) (by repeat (first | (with_reducible first | exact BK193.out | refine blk_drewN ?_ _ | refine blk_drew ?_ | refine blk_alloc ?_ _) | exact BK193.out)) k_ hk))
     (case aO => exact (by (with_reducible repeat (first | apply Kd.R_alloc | apply Kd.R_drewN | apply Kd.R_drew)); exact HO_7.out))
     (case aS => exact (below_size (by repeat (first | (with_reducible first | exact HB.out | apply below_alloc | apply pw_below_drewN | apply below_drew1 | refine below_set ?_ (Aside0.out (by assumption))) | exact HB.out))))
     (case aL => have := LMc14.out; omega)
     intro v197 w25 ho hb hg hat
     rw [← Ny196.out] at ho
     have n0_ := Aside0.mk (blk_grown (by repeat (first | (with_reducible first | exact BK188.out | refine blk_drewN ?_ _ | refine blk_drew ?_ | refine blk_alloc ?_ _) | exact BK188.out)) hg (Kd.R_ne HO_7.out BK188.out (by decide)))
     have n1_ := Aside0.mk (blk_grown (by repeat (first | (with_reducible first | exact BK189.out | refine blk_drewN ?_ _ | refine blk_drew ?_ | refine blk_alloc ?_ _) | exact BK189.out)) hg (Kd.R_ne HO_7.out BK189.out (by decide)))
     have n2_ := Aside0.mk (blk_grown (by repeat (first | (with_reducible first | exact BK193.out | refine blk_drewN ?_ _ | refine blk_drew ?_ | refine blk_alloc ?_ _) | exact BK193.out)) hg (Kd.R_away HO_7.out (fun _ hk => hk)))
     have n3_ := Aside0.mk (hb)
     have n4_ := Aside0.mk (ho)
     clear BK188
     clear BK189
     clear BK193
     clear HB
     clear HO_7
     have BK188 := n0_
     have BK189 := n1_
     have BK193 := n2_
     have HB := n3_
     have HO198 := n4_
     clear n0_ n1_ n2_ n3_ n4_
     clear ho hb hg hat
     refine hK.out _ _ ⟨(blk_cell BK193.out 0).trans rfl, (blk_cell BK193.out 1).trans rfl⟩ (fun hHeld => ?_)
     clear hK K
     refine norm_ (a' := ?_) ?_ ?_
     rotate_left
     ·show Act.put _ (some 58) _ = _
      simp only [Act.put, List.setIfInBounds_toArray, List.set_cons_zero, List.set_cons_succ, i64_w, i32_w]
      rfl
     refine pure_ (i := 14) (N := some 7) (v := ?_) (a' := ?_) #[tt, tt, tt, tt, tt, tt, tt, tt, tt, tt, tt, tt, tt, tt, tt, ff] rfl rfl (any_of HT_.out (by kernel_rfl)) (fun _ _ _ h => h) (Or.inl ⟨by rfl, ?_⟩) ?_ ?_
     rotate_left
     ·intro w'
      go_simp
      with_reducible rfl
     rotate_left
     ·simp only [Act.put, List.setIfInBounds_toArray, List.set_cons_zero, List.set_cons_succ, i64_w, i32_w]
      rfl
     refine pure_ (i := 15) (N := some 8) (v := ?_) (a' := ?_) #[tt, tt, tt, tt, tt, tt, tt, tt, tt, tt, tt, tt, tt, tt, tt, tt] rfl rfl (any_of HT_.out (by kernel_rfl)) (fun _ _ _ h => h) (Or.inl ⟨by rfl, ?_⟩) ?_ ?_
     rotate_left
     ·intro w'
      go_simp
      with_reducible rfl
     rotate_left
     ·simp only [Act.put, List.setIfInBounds_toArray, List.set_cons_zero, List.set_cons_succ, i64_w, i32_w]
      rfl
     refine done_ (done_of HT_.out (by kernel_rfl)) ?_
     try go_wp2
     go_roundg kj7
     case measure => have := HK1.out; have := HJ7.out; omega
     case rel => exact ⟨(y196), (wrap64 (x8_1 + (wrap64 ((wrap64 ((wrap64 (1 + (Int.tmod (wrap64 ((rd_T106 l0 x9_1).f0)) 500))) * (wrap64 (1 + (Int.tmod (wrap64 ((rd_T106 l0 x9_1).f0)) 500))))) * (wrap64 (1 + (wrap64 ((rd_T106 l0 x9_1).f1)))))))), (wrap64 (x9_1 + 1)), (by first | rfl | (simp; done) | (simp [*]; done)), (by first | rfl | (simp; done) | (simp [*]; done)), H', ⟨by have := HK1.out; have := HJ7.out; omega⟩, ⟨by (with_reducible repeat (first | apply Kd.R_alloc | apply Kd.R_drewN | apply Kd.R_drew)); exact Kd.R_mono HO198.out (fun _ hk => trivial)⟩, BK188, BK189, ⟨by repeat (first | (with_reducible first | exact HB.out | apply below_alloc | apply pw_below_drewN | apply below_drew1 | refine below_set ?_ (Aside0.out (by assumption))) | exact HB.out)⟩⟩
    rw [if_neg c12] at H
    have c12b0 : decide (x9_1 < (l0.length : Int)) = false := decide_eq_false c12
    clear c12
    by_cases c26 : x7_1.length < 8796093022208
    rotate_left
    ·rw [if_neg c26] at H
     exact absurd H (by simp)
    rw [if_pos c26] at H
    have LMc26 := Aside0.mk c26
    clear c26
    obtain ⟨y199, hy199⟩ : ∃ y_ : List (S46), y_ = (x7_1 ++ [(⟨30, 100⟩ : S46)]) := ⟨_, rfl⟩
    replace H : (acmelaw12_MillVolumes.l0 kj7 l0 y199 (wrap64 (x8_1 + 90000)) (wrap64 (x9_1 + 1)) a1_0 a1_1 a1_2 a2_0 a2_1 a2_2) = some r := by first | (rw [hy199]; with_reducible exact H) | (have H2_ := (Option.bind_some _ _).symm.trans H; rw [hy199]; with_reducible exact H2_) | (have H2_ := (Option.bind_some _ _).symm.trans H; with_reducible exact H2_) | with_reducible exact H | (rw [hy199]; exact H) | exact H
    have Ny199 := Aside0.mk hy199
    clear hy199
    have H' := Aside0.mk H
    clear H
    try go_wp2_with (first | ((with_reducible refine gate_dst (N := 10) rfl ?_); (try (refine gate_guard (by rfl) ?_; dsimp only)); refine box_event ?hg (N := 10) ?hd (cs := #[.int .i64 0, .int .i64 0]) (t := 46) ?hr ?_; (case hd => rfl); (case hg => rfl); (case hr => first | (go_simp; done) | (go_simp; rfl)); intro gb193 hg w27 hbox hb; replace HO_7 := Aside0.mk (Kd.R_below (Kd.R_elderB (by (with_reducible repeat (first | apply Kd.R_alloc | apply Kd.R_drewN | apply Kd.R_drew)); exact HO_7.out) gb193 (Nat.le_of_eq hg.symm)) hb); have BK193 := Aside0.mk (hbox); have GW193 := Aside0.mk ((by rw [hg]; exact (below_size (by repeat (first | (with_reducible first | exact HB.out | apply below_alloc | apply pw_below_drewN | apply below_drew1 | refine below_set ?_ (Aside0.out (by assumption))) | exact HB.out))) : w.heap.size ≤ gb193)); have GE193 := GW193; replace HB := Aside0.mk (below_step (by repeat (first | (with_reducible first | exact HB.out | apply below_alloc | apply pw_below_drewN | apply below_drew1 | refine below_set ?_ (Aside0.out (by assumption))) | exact HB.out)) hb); have NB188_193 := Aside0.mk ((by rw [hg]; exact Nat.ne_of_lt (blk_lt BK188.out) : gb188 ≠ gb193)); have NB193_188 := Aside0.mk ((by rw [hg]; exact Nat.ne_of_gt (blk_lt BK188.out) : gb193 ≠ gb188)); replace BK188 := Aside0.mk (blk_below (by repeat (first | (with_reducible first | exact BK188.out | refine blk_drewN ?_ _ | refine blk_drew ?_ | refine blk_alloc ?_ _) | exact BK188.out)) hb); have NB189_193 := Aside0.mk ((by rw [hg]; exact Nat.ne_of_lt (blk_lt BK189.out) : gb189 ≠ gb193)); have NB193_189 := Aside0.mk ((by rw [hg]; exact Nat.ne_of_gt (blk_lt BK189.out) : gb193 ≠ gb189)); replace BK189 := Aside0.mk (blk_below (by repeat (first | (with_reducible first | exact BK189.out | refine blk_drewN ?_ _ | refine blk_drew ?_ | refine blk_alloc ?_ _) | exact BK189.out)) hb); clear hb hbox hg; have hnb28 := NB193_188.out; have hnc28 := NB188_193.out; have hnb29 := NB193_189.out; have hnc29 := NB189_193.out; obtain ⟨hcz30_0, hcz30_1⟩ := bc2 BK193.out; obtain ⟨hfz30_0, hfz30_1⟩ := bf2 BK193.out))
    have n0_ : Aside0 (Kd.R k46 46 ((w27.setCell ⟨gb193, 0, none⟩ (.int .i64 30)).setCell ⟨gb193, 1, none⟩ (.int .i64 100)) w.heap.size (fun k_ => k_ ≠ gb193) u7 x7_1) := ⟨by (with_reducible repeat (first | apply Kd.R_alloc | apply Kd.R_drewN | apply Kd.R_drew)); exact Kd.R_mono (Kd.R_far (p := ⟨gb193, 1, none⟩) (Kd.R_far (p := ⟨gb193, 0, none⟩) (Kd.R_mono HO_7.out (fun k_ hk => (⟨hk, hk.2⟩ : _ ∧ k_ ≠ gb193))) (fun _ hk => hk.2) (.int .i64 30)) (fun _ hk => hk.2) (.int .i64 100)) (fun _ hk => hk.1.2)⟩
    have n1_ : Aside0 (((w27.setCell ⟨gb193, 0, none⟩ (.int .i64 30)).setCell ⟨gb193, 1, none⟩ (.int .i64 100)).heap[gb188]? = some (.cells #[.int .u8 a1_0, .int .u8 a1_1, .int .u8 a1_2] 94 (0, 0))) := ⟨by repeat (first | (with_reducible first | exact BK188.out | refine blk_drewN ?_ _ | refine blk_drew ?_ | refine blk_alloc ?_ _) | refine blk_far ?_ NB188_193.out _ | exact BK188.out)⟩
    have n2_ : Aside0 (((w27.setCell ⟨gb193, 0, none⟩ (.int .i64 30)).setCell ⟨gb193, 1, none⟩ (.int .i64 100)).heap[gb189]? = some (.cells #[.int .u16 a2_0, .int .u16 a2_1, .int .u16 a2_2] 105 (0, 0))) := ⟨by repeat (first | (with_reducible first | exact BK189.out | refine blk_drewN ?_ _ | refine blk_drew ?_ | refine blk_alloc ?_ _) | refine blk_far ?_ NB189_193.out _ | exact BK189.out)⟩
    have n3_ : Aside0 (((w27.setCell ⟨gb193, 0, none⟩ (.int .i64 30)).setCell ⟨gb193, 1, none⟩ (.int .i64 100)).heap[gb193]? = some (.cells #[.int .i64 30, .int .i64 100] 46 (0, 0))) := ⟨by exact bto (bput (bput (BK193.out) _ _) _ _) rfl⟩
    have n4_ : Aside0 (Below w.heap.size w ((w27.setCell ⟨gb193, 0, none⟩ (.int .i64 30)).setCell ⟨gb193, 1, none⟩ (.int .i64 100))) := ⟨by repeat (first | (with_reducible first | exact HB.out | apply below_alloc | apply pw_below_drewN | apply below_drew1 | refine below_set ?_ (Aside0.out (by assumption))) | exact HB.out)⟩
    (try clear HO_7)
    (try clear BK188)
    (try clear BK189)
    (try clear BK193)
    (try clear HB)
    generalize ((w27.setCell ⟨gb193, 0, none⟩ (.int .i64 30)).setCell ⟨gb193, 1, none⟩ (.int .i64 100)) = w31 at n0_ n1_ n2_ n3_ n4_ ⊢
    have HO_7 := n0_
    have BK188 := n1_
    have BK189 := n2_
    have BK193 := n3_
    have HB := n4_
    clear n0_ n1_ n2_ n3_ n4_
    replace HO_7 := Aside0.mk (Kd.R_drew HO_7.out)
    replace BK188 := Aside0.mk (blk_drew BK188.out)
    replace BK189 := Aside0.mk (blk_drew BK189.out)
    replace BK193 := Aside0.mk (blk_drew BK193.out)
    replace HB := Aside0.mk (below_drew1 HB.out)
    refine start_ (n := 16) (S := fun w' => w'.cell? ⟨gb193, 0, none⟩ = some (.int .i64 30) ∧ w'.cell? ⟨gb193, 1, none⟩ = some (.int .i64 100)) (ds := []) #[ff, ff, ff, ff, ff, ff, ff, ff, ff, ff, ff, ff, ff, ff, ff, ff] (by kernel_rfl) rfl rfl ⟨(blk_cell BK193.out 0).trans rfl, (blk_cell BK193.out 1).trans rfl⟩ (fun hHeld => ?_); refine with_tabW acmelaw12_MillVolumes.tab8 acmelaw12_MillVolumes.bits8 (fun HT_ HW_ => ?_)
    generalize w31.drew = w32 at HO_7 BK188 BK189 BK193 HB hHeld ⊢
    refine pure_ (i := 0) (N := some 55) (v := ?_) (a' := ?_) #[tt, ff, ff, ff, ff, ff, ff, ff, ff, ff, ff, ff, ff, ff, ff, ff] rfl rfl (any_of HT_.out (by kernel_rfl)) (fun _ _ _ h => h) (Or.inl ⟨by rfl, ?_⟩) ?_ ?_
    rotate_left
    ·intro w'
     go_simp
     with_reducible rfl
    rotate_left
    ·simp only [Act.put, List.setIfInBounds_toArray, List.set_cons_zero, List.set_cons_succ, i64_w, i32_w]
     rfl
    refine pure_ (i := 4) (N := some 59) (v := ?_) (a' := ?_) #[tt, ff, ff, ff, tt, ff, ff, ff, ff, ff, ff, ff, ff, ff, ff, ff] rfl rfl (any_of HT_.out (by kernel_rfl)) (fun _ _ _ h => h) (Or.inl ⟨by rfl, ?_⟩) ?_ ?_
    rotate_left
    ·intro w'
     go_simp
     with_reducible rfl
    rotate_left
    ·simp only [Act.put, List.setIfInBounds_toArray, List.set_cons_zero, List.set_cons_succ, i64_w, i32_w]
     rfl
    refine pure_ (i := 5) (N := some 60) (v := ?_) (a' := ?_) #[tt, ff, ff, ff, tt, tt, ff, ff, ff, ff, ff, ff, ff, ff, ff, ff] rfl rfl (any_of HT_.out (by kernel_rfl)) (fun _ _ _ h => h) (Or.inl ⟨by rfl, ?_⟩) ?_ ?_
    rotate_left
    ·intro w'
     go_simp
     with_reducible rfl
    rotate_left
    ·simp only [Act.put, List.setIfInBounds_toArray, List.set_cons_zero, List.set_cons_succ, i64_w, i32_w]
     rfl
    refine pure_ (i := 7) (N := some 62) (v := ?_) (a' := ?_) #[tt, ff, ff, ff, tt, tt, ff, tt, ff, ff, ff, ff, ff, ff, ff, ff] rfl rfl (any_of HT_.out (by kernel_rfl)) (fun _ _ _ h => h) (Or.inl ⟨by rfl, ?_⟩) ?_ ?_
    rotate_left
    ·intro w'
     go_simp
     with_reducible rfl
    rotate_left
    ·simp only [Act.put, List.setIfInBounds_toArray, List.set_cons_zero, List.set_cons_succ, i64_w, i32_w]
     rfl
    refine pure_ (i := 10) (N := some 65) (v := ?_) (a' := ?_) #[tt, ff, ff, ff, tt, tt, ff, tt, ff, ff, tt, ff, ff, ff, ff, ff] rfl rfl (any_of HT_.out (by kernel_rfl)) (fun _ _ _ h => h) (Or.inl ⟨by rfl, ?_⟩) ?_ ?_
    rotate_left
    ·intro w'
     go_simp
     with_reducible rfl
    rotate_left
    ·simp only [Act.put, List.setIfInBounds_toArray, List.set_cons_zero, List.set_cons_succ, i64_w, i32_w]
     rfl
    refine take_ (i := 1) (N := some 56) (v := ?_) (a' := ?_) #[tt, tt, ff, ff, tt, tt, ff, tt, ff, ff, tt, ff, ff, ff, ff, ff] rfl rfl (take_ofW HT_.out HW_.out (by kernel_rfl)) (fun _ _ _ h => h) (Or.inl ⟨by rfl, ?_⟩) hHeld ?_ ?_
    rotate_left
    ·rintro w' ⟨s0, s1⟩
     go_simp
     with_reducible rfl
    rotate_left
    ·simp only [Act.put, List.setIfInBounds_toArray, List.set_cons_zero, List.set_cons_succ, i64_w, i32_w]
     rfl
    refine take_ (i := 6) (N := some 61) (v := ?_) (a' := ?_) #[tt, tt, ff, ff, tt, tt, tt, tt, ff, ff, tt, ff, ff, ff, ff, ff] rfl rfl (take_ofW HT_.out HW_.out (by kernel_rfl)) (fun _ _ _ h => h) (Or.inl ⟨by rfl, ?_⟩) hHeld ?_ ?_
    rotate_left
    ·rintro w' ⟨s0, s1⟩
     go_simp
     with_reducible rfl
    rotate_left
    ·simp only [Act.put, List.setIfInBounds_toArray, List.set_cons_zero, List.set_cons_succ, i64_w, i32_w]
     rfl
    refine take_ (i := 8) (N := some 63) (v := ?_) (a' := ?_) #[tt, tt, ff, ff, tt, tt, tt, tt, tt, ff, tt, ff, ff, ff, ff, ff] rfl rfl (take_ofW HT_.out HW_.out (by kernel_rfl)) (fun _ _ _ h => h) (Or.inl ⟨by rfl, ?_⟩) hHeld ?_ ?_
    rotate_left
    ·rintro w' ⟨s0, s1⟩
     go_simp
     with_reducible rfl
    rotate_left
    ·simp only [Act.put, List.setIfInBounds_toArray, List.set_cons_zero, List.set_cons_succ, i64_w, i32_w]
     rfl
    refine pure_ (i := 9) (N := some 64) (v := ?_) (a' := ?_) #[tt, tt, ff, ff, tt, tt, tt, tt, tt, tt, tt, ff, ff, ff, ff, ff] rfl rfl (any_of HT_.out (by kernel_rfl)) (fun _ _ _ h => h) (Or.inl ⟨by rfl, ?_⟩) ?_ ?_
    rotate_left
    ·intro w'
     go_simp
     with_reducible rfl
    rotate_left
    ·simp only [Act.put, List.setIfInBounds_toArray, List.set_cons_zero, List.set_cons_succ, i64_w, i32_w]
     rfl
    refine take_ (i := 11) (N := some 66) (v := ?_) (a' := ?_) #[tt, tt, ff, ff, tt, tt, tt, tt, tt, tt, tt, tt, ff, ff, ff, ff] rfl rfl (take_ofW HT_.out HW_.out (by kernel_rfl)) (fun _ _ _ h => h) (Or.inl ⟨by rfl, ?_⟩) hHeld ?_ ?_
    rotate_left
    ·rintro w' ⟨s0, s1⟩
     go_simp
     with_reducible rfl
    rotate_left
    ·simp only [Act.put, List.setIfInBounds_toArray, List.set_cons_zero, List.set_cons_succ, i64_w, i32_w]
     rfl
    refine pure_ (i := 12) (N := some 67) (v := ?_) (a' := ?_) #[tt, tt, ff, ff, tt, tt, tt, tt, tt, tt, tt, tt, tt, ff, ff, ff] rfl rfl (any_of HT_.out (by kernel_rfl)) (fun _ _ _ h => h) (Or.inl ⟨by rfl, ?_⟩) ?_ ?_
    rotate_left
    ·intro w'
     go_simp
     with_reducible rfl
    rotate_left
    ·simp only [Act.put, List.setIfInBounds_toArray, List.set_cons_zero, List.set_cons_succ, i64_w, i32_w]
     rfl
    refine pure_ (i := 13) (N := some 68) (v := ?_) (a' := ?_) #[tt, tt, ff, ff, tt, tt, tt, tt, tt, tt, tt, tt, tt, tt, ff, ff] rfl rfl (any_of HT_.out (by kernel_rfl)) (fun _ _ _ h => h) (Or.inl ⟨by rfl, ?_⟩) ?_ ?_
    rotate_left
    ·intro w'
     go_simp
     with_reducible rfl
    rotate_left
    ·simp only [Act.put, List.setIfInBounds_toArray, List.set_cons_zero, List.set_cons_succ, i64_w, i32_w]
     rfl
    refine one_ (i := 2) (N := some 57) #[tt, tt, tt, ff, tt, tt, tt, tt, tt, tt, tt, tt, tt, tt, ff, ff] rfl rfl (one_of HT_.out (by kernel_rfl)) (by decide) (fun K hK => ?_)
    refine value_ (w1 := ?_) (v := ?_) (by rfl) rfl ?_ ?_
    rotate_left 2
    ·go_simp
     constructor
     ·rfl
     ·rfl
    refine hK.out _ _ ⟨(blk_cell (blk_alloc BK193.out _) 0).trans rfl, (blk_cell (blk_alloc BK193.out _) 1).trans rfl⟩ (fun hHeld => ?_)
    clear hK K
    refine norm_ (a' := ?_) ?_ ?_
    rotate_left
    ·show Act.put _ (some 57) _ = _
     simp only [Act.put, List.setIfInBounds_toArray, List.set_cons_zero, List.set_cons_succ, i64_w, i32_w]
     rfl
    refine one_ (i := 3) (N := some 58) #[tt, tt, tt, tt, tt, tt, tt, tt, tt, tt, tt, tt, tt, tt, ff, ff] rfl rfl (one_of HT_.out (by kernel_rfl)) (by decide) (fun K hK => ?_)
    refine Kd.R_append_step k46 (w0 := w) w.heap.size (by rfl) (.tmp 55) (.tmp 57) 39 46 (.agg #[(.int .i64 0), (.int .i64 0)]) 16 rfl Try.underlying39 info46 rfl (by decide) (by omega) u7 x7_1 (⟨30, 100⟩ : S46) [.int .i64 30, .int .i64 100] (fun k_ => k_ ≠ gb193) (fun _ => False) rfl rfl ?aP (fun _ hk => hk.elim) ?aF ?aO ?aB ?aS ?aL ?_
    (case aP => exact k46_mkM _ _ _ (⟨30, 100⟩ : S46))
    (case aB => exact (by repeat (first | (with_reducible first | exact HB.out | apply below_alloc | apply pw_below_drewN | apply below_drew1 | refine below_set ?_ (Aside0.out (by assumption))) | exact HB.out)))
    (case aF => exact (fun k_ hk => Kd.freshB (g := gb193) (o := .cells #[.int .i64 30, .int .i64 100] 46 (0, 0)) (by repeat (first | (with_reducible first | exact BK193.out | refine blk_drewN ?_ _ | refine blk_drew ?_ | refine blk_alloc ?_ _) | exact BK193.out)) k_ hk))
    (case aO => exact (by (with_reducible repeat (first | apply Kd.R_alloc | apply Kd.R_drewN | apply Kd.R_drew)); exact HO_7.out))
    (case aS => exact (below_size (by repeat (first | (with_reducible first | exact HB.out | apply below_alloc | apply pw_below_drewN | apply below_drew1 | refine below_set ?_ (Aside0.out (by assumption))) | exact HB.out))))
    (case aL => have := LMc26.out; omega)
    intro v200 w33 ho hb hg hat
    rw [← Ny199.out] at ho
    have n0_ := Aside0.mk (blk_grown (by repeat (first | (with_reducible first | exact BK188.out | refine blk_drewN ?_ _ | refine blk_drew ?_ | refine blk_alloc ?_ _) | exact BK188.out)) hg (Kd.R_ne HO_7.out BK188.out (by decide)))
    have n1_ := Aside0.mk (blk_grown (by repeat (first | (with_reducible first | exact BK189.out | refine blk_drewN ?_ _ | refine blk_drew ?_ | refine blk_alloc ?_ _) | exact BK189.out)) hg (Kd.R_ne HO_7.out BK189.out (by decide)))
    have n2_ := Aside0.mk (blk_grown (by repeat (first | (with_reducible first | exact BK193.out | refine blk_drewN ?_ _ | refine blk_drew ?_ | refine blk_alloc ?_ _) | exact BK193.out)) hg (Kd.R_away HO_7.out (fun _ hk => hk)))
    have n3_ := Aside0.mk (hb)
    have n4_ := Aside0.mk (ho)
    clear BK188
    clear BK189
    clear BK193
    clear HB
    clear HO_7
    have BK188 := n0_
    have BK189 := n1_
    have BK193 := n2_
    have HB := n3_
    have HO201 := n4_
    clear n0_ n1_ n2_ n3_ n4_
    clear ho hb hg hat
    refine hK.out _ _ ⟨(blk_cell BK193.out 0).trans rfl, (blk_cell BK193.out 1).trans rfl⟩ (fun hHeld => ?_)
    clear hK K
    refine norm_ (a' := ?_) ?_ ?_
    rotate_left
    ·show Act.put _ (some 58) _ = _
     simp only [Act.put, List.setIfInBounds_toArray, List.set_cons_zero, List.set_cons_succ, i64_w, i32_w]
     rfl
    refine pure_ (i := 14) (N := some 7) (v := ?_) (a' := ?_) #[tt, tt, tt, tt, tt, tt, tt, tt, tt, tt, tt, tt, tt, tt, tt, ff] rfl rfl (any_of HT_.out (by kernel_rfl)) (fun _ _ _ h => h) (Or.inl ⟨by rfl, ?_⟩) ?_ ?_
    rotate_left
    ·intro w'
     go_simp
     with_reducible rfl
    rotate_left
    ·simp only [Act.put, List.setIfInBounds_toArray, List.set_cons_zero, List.set_cons_succ, i64_w, i32_w]
     rfl
    refine pure_ (i := 15) (N := some 8) (v := ?_) (a' := ?_) #[tt, tt, tt, tt, tt, tt, tt, tt, tt, tt, tt, tt, tt, tt, tt, tt] rfl rfl (any_of HT_.out (by kernel_rfl)) (fun _ _ _ h => h) (Or.inl ⟨by rfl, ?_⟩) ?_ ?_
    rotate_left
    ·intro w'
     go_simp
     with_reducible rfl
    rotate_left
    ·simp only [Act.put, List.setIfInBounds_toArray, List.set_cons_zero, List.set_cons_succ, i64_w, i32_w]
     rfl
    refine done_ (done_of HT_.out (by kernel_rfl)) ?_
    try go_wp2
    go_roundg kj7
    case measure => have := HK1.out; have := HJ7.out; omega
    case rel => exact ⟨(y199), (wrap64 (x8_1 + 90000)), (wrap64 (x9_1 + 1)), (by first | (simp [mv_900, mv_90000]; done) | rfl), (by first | (simp [mv_900, mv_90000]; done) | rfl), H', ⟨by have := HK1.out; have := HJ7.out; omega⟩, ⟨by (with_reducible repeat (first | apply Kd.R_alloc | apply Kd.R_drewN | apply Kd.R_drew)); exact Kd.R_mono HO201.out (fun _ hk => trivial)⟩, BK188, BK189, ⟨by repeat (first | (with_reducible first | exact HB.out | apply below_alloc | apply pw_below_drewN | apply below_drew1 | refine below_set ?_ (Aside0.out (by assumption))) | exact HB.out)⟩⟩
   replace c11 := Bool.eq_false_iff.mpr c11
   subst c11
   have H1 : ((acmelaw12_span.f (wrap64 (20 + (wrap64 (a1_0)))) (wrap64 ((wrap64 (20 + (wrap64 (a1_0)))) + (Int.tmod (wrap64 (a1_1)) 20)))).bind fun bt202 => ((some (([] : List (S46)) : List (S46))).bind fun y205 => (if y205.length + x7_1.length < 8796093022208 then ((mill_Blank.f kj7 (y205 ++ x7_1) bt202.1 bt202.2).bind fun bt211 => (if bt211.2.2 = 0 then (if bt211.1 < 0 then (acmelaw12_MillVolumes.j2 kj7 x7_1 x8_1 true a1_0 a1_1 a1_2 a2_0 a2_1 a2_2 bt202.1 bt202.2 bt211.1 bt211.2.1) else (acmelaw12_MillVolumes.j2 kj7 x7_1 x8_1 (decide (bt211.1 > bt211.2.1)) a1_0 a1_1 a1_2 a2_0 a2_1 a2_2 bt202.1 bt202.2 bt211.1 bt211.2.1)) else (acmelaw12_MillVolumes.j2 kj7 x7_1 x8_1 true a1_0 a1_1 a1_2 a2_0 a2_1 a2_2 bt202.1 bt202.2 bt211.1 bt211.2.1))) else (none)))) = some r := by rw [if_neg (show ¬ (false = true) by decide)] at H; exact H
   clear H
   have H := H1
   clear H1
   replace H := Option.bind_eq_some_iff.mp H
   obtain ⟨⟨t202, t203⟩, A340, H⟩ := H; (try dsimp only at H)
   have A34 := Aside0.mk A340
   clear A340
   obtain ⟨y205, hy205⟩ : ∃ y_ : List (S46), y_ = (([] : List (S46))) := ⟨_, rfl⟩
   replace H : (if y205.length + x7_1.length < 8796093022208 then ((mill_Blank.f kj7 (y205 ++ x7_1) t202 t203).bind fun bt211 => (if bt211.2.2 = 0 then (if bt211.1 < 0 then (acmelaw12_MillVolumes.j2 kj7 x7_1 x8_1 true a1_0 a1_1 a1_2 a2_0 a2_1 a2_2 t202 t203 bt211.1 bt211.2.1) else (acmelaw12_MillVolumes.j2 kj7 x7_1 x8_1 (decide (bt211.1 > bt211.2.1)) a1_0 a1_1 a1_2 a2_0 a2_1 a2_2 t202 t203 bt211.1 bt211.2.1)) else (acmelaw12_MillVolumes.j2 kj7 x7_1 x8_1 true a1_0 a1_1 a1_2 a2_0 a2_1 a2_2 t202 t203 bt211.1 bt211.2.1))) else (none)) = some r := by first | (rw [hy205]; with_reducible exact H) | (have H2_ := (Option.bind_some _ _).symm.trans H; rw [hy205]; with_reducible exact H2_) | (have H2_ := (Option.bind_some _ _).symm.trans H; with_reducible exact H2_) | with_reducible exact H | (rw [hy205]; exact H) | exact H
   have Ny205 := Aside0.mk hy205
   clear hy205
   by_cases c35 : y205.length + x7_1.length < 8796093022208
   ·rw [if_pos c35] at H
    have LMc35 := Aside0.mk c35
    clear c35
    obtain ⟨y208, hy208⟩ : ∃ y_ : List (S46), y_ = (y205 ++ x7_1) := ⟨_, rfl⟩
    replace H : ((mill_Blank.f kj7 y208 t202 t203).bind fun bt211 => (if bt211.2.2 = 0 then (if bt211.1 < 0 then (acmelaw12_MillVolumes.j2 kj7 x7_1 x8_1 true a1_0 a1_1 a1_2 a2_0 a2_1 a2_2 t202 t203 bt211.1 bt211.2.1) else (acmelaw12_MillVolumes.j2 kj7 x7_1 x8_1 (decide (bt211.1 > bt211.2.1)) a1_0 a1_1 a1_2 a2_0 a2_1 a2_2 t202 t203 bt211.1 bt211.2.1)) else (acmelaw12_MillVolumes.j2 kj7 x7_1 x8_1 true a1_0 a1_1 a1_2 a2_0 a2_1 a2_2 t202 t203 bt211.1 bt211.2.1))) = some r := by first | (rw [hy208]; with_reducible exact H) | (have H2_ := (Option.bind_some _ _).symm.trans H; rw [hy208]; with_reducible exact H2_) | (have H2_ := (Option.bind_some _ _).symm.trans H; with_reducible exact H2_) | with_reducible exact H | (rw [hy208]; exact H) | exact H
    have Ny208 := Aside0.mk hy208
    clear hy208
    replace H := Option.bind_eq_some_iff.mp H
    obtain ⟨⟨t211, t212, t213⟩, A360, H⟩ := H; (try dsimp only at H)
    have A36 := Aside0.mk A360
    clear A360
    have HC37 := Aside0.mk H
    clear H
    have hnb38 := NB188_189.out
    have hnc38 := NB189_188.out
    obtain ⟨hcz39_0, hcz39_1, hcz39_2⟩ := bc3 BK188.out
    obtain ⟨hfz39_0, hfz39_1, hfz39_2⟩ := bf3 BK188.out
    try go_wp2_with (first | ((with_reducible refine gate_callee (f := 27) rfl ?_); refine goesL_ (some 82) rfl rfl Try.func27 (by kernel_rfl) rfl #[.int .i64 (wrap64 (20 + (wrap64 (a1_0)))), .int .i64 (wrap64 ((wrap64 (20 + (wrap64 (a1_0)))) + (Int.tmod (wrap64 (a1_1)) 20)))] rfl (by (try simp only [List.map_toArray, List.map_cons, List.map_nil]); first | done | rfl | (simp only [List.length_drop, List.length_take]; rfl)) ?_; (with_reducible refine (acmelaw12_span.calls (wrap64 (20 + (wrap64 (a1_0)))) (wrap64 ((wrap64 (20 + (wrap64 (a1_0)))) + (Int.tmod (wrap64 (a1_1)) 20))) t202 t203 _ A34.out).mono ?_); rintro e w40 ⟨rfl, hb⟩; refine ⟨_, rfl, ?_⟩; replace HO_7 := Aside0.mk (Kd.R_below (by (with_reducible repeat (first | apply Kd.R_alloc | apply Kd.R_drewN | apply Kd.R_drew)); exact HO_7.out) hb); replace BK188 := Aside0.mk (blk_below (by repeat (first | (with_reducible first | exact BK188.out | refine blk_drewN ?_ _ | refine blk_drew ?_ | refine blk_alloc ?_ _) | exact BK188.out)) hb); replace BK189 := Aside0.mk (blk_below (by repeat (first | (with_reducible first | exact BK189.out | refine blk_drewN ?_ _ | refine blk_drew ?_ | refine blk_alloc ?_ _) | exact BK189.out)) hb); replace HB := Aside0.mk (below_step (by repeat (first | (with_reducible first | exact HB.out | apply below_alloc | apply pw_below_drewN | apply below_drew1 | refine below_set ?_ (Aside0.out (by assumption))) | exact HB.out)) hb); (try clear hb); (try clear hb2); (try clear hk); (try clear hi)) | ((with_reducible refine gate_dst (N := 11) rfl ?_); (try (refine gate_guard (by rfl) ?_; dsimp only)); refine box_event ?hg (N := 11) ?hd (cs := #[.int .i64 0, .int .i64 0]) (t := 41) ?hr ?_; (case hd => rfl); (case hg => rfl); (case hr => first | (go_simp; done) | (go_simp; rfl)); intro gb204 hg w41 hbox hb; replace HO_7 := Aside0.mk (Kd.R_below (by (with_reducible repeat (first | apply Kd.R_alloc | apply Kd.R_drewN | apply Kd.R_drew)); exact HO_7.out) hb); have BK204 := Aside0.mk (hbox); have GW204 := Aside0.mk ((by rw [hg]; exact (below_size (by repeat (first | (with_reducible first | exact HB.out | apply below_alloc | apply pw_below_drewN | apply below_drew1 | refine below_set ?_ (Aside0.out (by assumption))) | exact HB.out))) : w.heap.size ≤ gb204)); have GE204 := GW204; replace HB := Aside0.mk (below_step (by repeat (first | (with_reducible first | exact HB.out | apply below_alloc | apply pw_below_drewN | apply below_drew1 | refine below_set ?_ (Aside0.out (by assumption))) | exact HB.out)) hb); have NB188_204 := Aside0.mk ((by rw [hg]; exact Nat.ne_of_lt (blk_lt BK188.out) : gb188 ≠ gb204)); have NB204_188 := Aside0.mk ((by rw [hg]; exact Nat.ne_of_gt (blk_lt BK188.out) : gb204 ≠ gb188)); replace BK188 := Aside0.mk (blk_below (by repeat (first | (with_reducible first | exact BK188.out | refine blk_drewN ?_ _ | refine blk_drew ?_ | refine blk_alloc ?_ _) | exact BK188.out)) hb); have NB189_204 := Aside0.mk ((by rw [hg]; exact Nat.ne_of_lt (blk_lt BK189.out) : gb189 ≠ gb204)); have NB204_189 := Aside0.mk ((by rw [hg]; exact Nat.ne_of_gt (blk_lt BK189.out) : gb204 ≠ gb189)); replace BK189 := Aside0.mk (blk_below (by repeat (first | (with_reducible first | exact BK189.out | refine blk_drewN ?_ _ | refine blk_drew ?_ | refine blk_alloc ?_ _) | exact BK189.out)) hb); clear hb hbox hg; have hnb42 := NB204_188.out; have hnc42 := NB188_204.out; have hnb43 := NB204_189.out; have hnc43 := NB189_204.out; obtain ⟨hcz44_0, hcz44_1⟩ := bc2 BK204.out; obtain ⟨hfz44_0, hfz44_1⟩ := bf2 BK204.out; obtain ⟨Ao45, co45, eo45⟩ := Kd.R_slice HO_7.out; subst eo45))
    have n0_ : Aside0 (Kd.R k46 46 ((w41.setCell ⟨gb204, 0, none⟩ (.int .i64 t202)).setCell ⟨gb204, 1, none⟩ (.int .i64 t203)) w.heap.size (fun _ => True) (.slice Ao45 x7_1.length co45) x7_1) := ⟨by (with_reducible repeat (first | apply Kd.R_alloc | apply Kd.R_drewN | apply Kd.R_drew)); exact Kd.R_mono (Kd.R_far (p := ⟨gb204, 1, none⟩) (Kd.R_far (p := ⟨gb204, 0, none⟩) (Kd.R_types HO_7.out BK204.out (by decide)) (fun _ hk => hk.2) (.int .i64 t202)) (fun _ hk => hk.2) (.int .i64 t203)) (fun _ hk => trivial)⟩
    have n1_ : Aside0 (((w41.setCell ⟨gb204, 0, none⟩ (.int .i64 t202)).setCell ⟨gb204, 1, none⟩ (.int .i64 t203)).heap[gb188]? = some (.cells #[.int .u8 a1_0, .int .u8 a1_1, .int .u8 a1_2] 94 (0, 0))) := ⟨by repeat (first | (with_reducible first | exact BK188.out | refine blk_drewN ?_ _ | refine blk_drew ?_ | refine blk_alloc ?_ _) | refine blk_far ?_ NB188_204.out _ | exact BK188.out)⟩
    have n2_ : Aside0 (((w41.setCell ⟨gb204, 0, none⟩ (.int .i64 t202)).setCell ⟨gb204, 1, none⟩ (.int .i64 t203)).heap[gb189]? = some (.cells #[.int .u16 a2_0, .int .u16 a2_1, .int .u16 a2_2] 105 (0, 0))) := ⟨by repeat (first | (with_reducible first | exact BK189.out | refine blk_drewN ?_ _ | refine blk_drew ?_ | refine blk_alloc ?_ _) | refine blk_far ?_ NB189_204.out _ | exact BK189.out)⟩
    have n3_ : Aside0 (((w41.setCell ⟨gb204, 0, none⟩ (.int .i64 t202)).setCell ⟨gb204, 1, none⟩ (.int .i64 t203)).heap[gb204]? = some (.cells #[.int .i64 t202, .int .i64 t203] 41 (0, 0))) := ⟨by exact bto (bput (bput (BK204.out) _ _) _ _) rfl⟩
    have n4_ : Aside0 (Below w.heap.size w ((w41.setCell ⟨gb204, 0, none⟩ (.int .i64 t202)).setCell ⟨gb204, 1, none⟩ (.int .i64 t203))) := ⟨by repeat (first | (with_reducible first | exact HB.out | apply below_alloc | apply pw_below_drewN | apply below_drew1 | refine below_set ?_ (Aside0.out (by assumption))) | exact HB.out)⟩
    (try clear HO_7)
    (try clear BK188)
    (try clear BK189)
    (try clear BK204)
    (try clear HB)
    generalize ((w41.setCell ⟨gb204, 0, none⟩ (.int .i64 t202)).setCell ⟨gb204, 1, none⟩ (.int .i64 t203)) = w46 at n0_ n1_ n2_ n3_ n4_ ⊢
    have HO_7 := n0_
    have BK188 := n1_
    have BK189 := n2_
    have BK204 := n3_
    have HB := n4_
    clear n0_ n1_ n2_ n3_ n4_
    replace HO_7 := Aside0.mk (Kd.R_drew HO_7.out)
    replace BK188 := Aside0.mk (blk_drew BK188.out)
    replace BK189 := Aside0.mk (blk_drew BK189.out)
    replace BK204 := Aside0.mk (blk_drew BK204.out)
    replace HB := Aside0.mk (below_drew1 HB.out)
    refine start_ (n := 11) (S := fun w' => w'.cell? ⟨gb204, 0, none⟩ = some (.int .i64 t202) ∧ w'.cell? ⟨gb204, 1, none⟩ = some (.int .i64 t203)) (ds := []) #[ff, ff, ff, ff, ff, ff, ff, ff, ff, ff, ff] (by kernel_rfl) rfl rfl ⟨(blk_cell BK204.out 0).trans rfl, (blk_cell BK204.out 1).trans rfl⟩ (fun hHeld => ?_); refine with_tabW acmelaw12_MillVolumes.tab10 acmelaw12_MillVolumes.bits10 (fun HT_ HW_ => ?_)
    generalize w46.drew = w47 at HO_7 BK188 BK189 BK204 HB hHeld ⊢
    refine pure_ (i := 1) (N := some 85) (v := ?_) (a' := ?_) #[ff, tt, ff, ff, ff, ff, ff, ff, ff, ff, ff] rfl rfl (any_of HT_.out (by kernel_rfl)) (fun _ _ _ h => h) (Or.inl ⟨by rfl, ?_⟩) ?_ ?_
    rotate_left
    ·intro w'
     go_simp
     with_reducible rfl
    rotate_left
    ·simp only [Act.put, List.setIfInBounds_toArray, List.set_cons_zero, List.set_cons_succ, i64_w, i32_w]
     rfl
    refine take_ (i := 3) (N := some 87) (v := ?_) (a' := ?_) #[ff, tt, ff, tt, ff, ff, ff, ff, ff, ff, ff] rfl rfl (take_ofW HT_.out HW_.out (by kernel_rfl)) (fun _ _ _ h => h) (Or.inl ⟨by rfl, ?_⟩) hHeld ?_ ?_
    rotate_left
    ·rintro w' ⟨s0, s1⟩
     go_simp
     with_reducible rfl
    rotate_left
    ·simp only [Act.put, List.setIfInBounds_toArray, List.set_cons_zero, List.set_cons_succ, i64_w, i32_w]
     rfl
    refine join_ (σ := Value × Value × Nat) 2 #[tt, tt, tt, tt, tt, tt, tt, tt, tt, ff, ff] (fun s_ => [(84, s_.1), (86, s_.2.1), (88, .tuple #[.agg #[.int .i64 t211, .int .i64 t212], .int .i64 t213]), (12, .pointer (some ⟨s_.2.2, 0, none⟩)), (83, .tuple #[.agg #[.int .i64 t211, .int .i64 t212], .int .i64 t213]), (89, .agg #[.int .i64 t211, .int .i64 t212]), (90, .int .i64 t213)]) (fun s_ w' => (w'.cell? ⟨gb204, 0, none⟩ = some (.int .i64 t202) ∧ w'.cell? ⟨gb204, 1, none⟩ = some (.int .i64 t203)) ∧ (Kd.R k46 46 w' w.heap.size (fun k_ => some k_ ≠ (.slice Ao45 x7_1.length co45 : Value).ownBlock) s_.2.1 y208) ∧ (Kd.R k46 46 w' w.heap.size (fun k_ => some k_ ≠ (s_.2.1 : Value).ownBlock) (.slice Ao45 x7_1.length co45) x7_1) ∧ (w'.heap[gb188]? = some (.cells #[.int .u8 a1_0, .int .u8 a1_1, .int .u8 a1_2] 94 (0, 0))) ∧ (w'.heap[gb189]? = some (.cells #[.int .u16 a2_0, .int .u16 a2_1, .int .u16 a2_2] 105 (0, 0))) ∧ (w'.heap[gb204]? = some (.cells #[.int .i64 t202, .int .i64 t203] 41 (0, 0))) ∧ (w'.heap[s_.2.2]? = some (.cells #[.int .i64 0, .int .i64 0] 41 (0, 0))) ∧ (w.heap.size ≤ s_.2.2) ∧ (w.heap.size ≤ s_.2.2) ∧ (gb188 ≠ s_.2.2) ∧ (s_.2.2 ≠ gb188) ∧ (gb189 ≠ s_.2.2) ∧ (s_.2.2 ≠ gb189) ∧ (gb204 ≠ s_.2.2) ∧ (s_.2.2 ≠ gb204) ∧ (Below w.heap.size w w')) ?_ ?_
    rotate_left
    ·intro hCont
     refine two_ (i := 0) (j := 8) (Ni := some 84) (Nj := some 12) #[tt, tt, ff, tt, ff, ff, ff, ff, ff, ff, ff] #[ff, tt, ff, tt, ff, ff, ff, ff, tt, ff, ff] rfl rfl rfl rfl (two_of HT_.out (by kernel_rfl)) (by decide) (by decide) (fun K hK => ?_) (fun K hK => ?_)
     ·skip
      refine Kd.R_lit_step k46 _ 46 ?hg (N := 84) ?hd (xs := ([] : List (S46))) (inner := []) (ok := fun _ => True) (okp := fun _ => True) ?hr ?hp (fun _ hk => hk) trivial (Below.refl _ _) (Nat.le_refl _) (by simp) ?_; (case hd => rfl); (case hg => rfl); (case hr => first | (go_simp; done) | (go_simp; rfl)); (case hp => exact (Reps.none _ _))
      intro v206 w48 ho49 hb hg_ hnew_
      clear hg_ hnew_
      (first | rw [← Ny205.out] at ho49 | (simp only [Int.reduceToNat] at ho49; rw [← Ny205.out] at ho49))
      have HO207 := Aside0.mk (Kd.R_lower (Kd.R_new' ho49 (Kd.R_lt (by (with_reducible repeat (first | apply Kd.R_alloc | apply Kd.R_drewN | apply Kd.R_drew)); exact HO_7.out))) (below_size (by repeat (first | (with_reducible first | exact HB.out | apply below_alloc | apply pw_below_drewN | apply below_drew1 | refine below_set ?_ (Aside0.out (by assumption))) | exact HB.out))))
      replace HO_7 := Aside0.mk (Kd.R_elder' (by (with_reducible repeat (first | apply Kd.R_alloc | apply Kd.R_drewN | apply Kd.R_drew)); exact HO_7.out) (Kd.R_base ho49) hb)
      replace BK188 := Aside0.mk (blk_below (by repeat (first | (with_reducible first | exact BK188.out | refine blk_drewN ?_ _ | refine blk_drew ?_ | refine blk_alloc ?_ _) | exact BK188.out)) hb)
      replace BK189 := Aside0.mk (blk_below (by repeat (first | (with_reducible first | exact BK189.out | refine blk_drewN ?_ _ | refine blk_drew ?_ | refine blk_alloc ?_ _) | exact BK189.out)) hb)
      replace BK204 := Aside0.mk (blk_below (by repeat (first | (with_reducible first | exact BK204.out | refine blk_drewN ?_ _ | refine blk_drew ?_ | refine blk_alloc ?_ _) | exact BK204.out)) hb)
      replace HB := Aside0.mk (below_step (by repeat (first | (with_reducible first | exact HB.out | apply below_alloc | apply pw_below_drewN | apply below_drew1 | refine below_set ?_ (Aside0.out (by assumption))) | exact HB.out)) hb)
      clear hb ho49
      refine hK.out _ _ ⟨(blk_cell BK204.out 0).trans rfl, (blk_cell BK204.out 1).trans rfl⟩ (fun hHeld => ?_)
      clear hK K
      refine norm_ (a' := ?_) ?_ ?_
      rotate_left
      ·show Act.put _ (some 84) _ = _
       simp only [Act.put, List.setIfInBounds_toArray, List.set_cons_zero, List.set_cons_succ, i64_w, i32_w]
       rfl
      refine two_ (i := 2) (j := 8) (Ni := some 86) (Nj := some 12) #[tt, tt, tt, tt, ff, ff, ff, ff, ff, ff, ff] #[tt, tt, ff, tt, ff, ff, ff, ff, tt, ff, ff] rfl rfl rfl rfl (two_of HT_.out (by kernel_rfl)) (by decide) (by decide) (fun K hK => ?_) (fun K hK => ?_)
      ·skip
       refine Kd.R_append_rows_step k46 (w0 := w) w.heap.size (by rfl) (.tmp 84) (.tmp 85) 39 46 (.agg #[(.int .i64 0), (.int .i64 0)]) 16 rfl Try.underlying39 info46 rfl (by decide) (by omega) v206 y205 x7_1 _ _ _ (fun k_ => some k_ ≠ (.slice Ao45 x7_1.length co45 : Value).ownBlock) (fun _ => False) rfl rfl ?aO ?aR (fun _ _ h => h) (fun _ h => h.elim) ?aF ?aB ?aS ?aL ?_
       (case aR => repeat (first | exact (Kd.R_reads' HO_7.out).2.2 | (with_reducible refine Kd.C_alloc ?_ _) | (with_reducible refine Kd.C_drewN ?_ _) | (with_reducible refine Kd.C_drew ?_)))
       (case aB => exact (by repeat (first | (with_reducible first | exact HB.out | apply below_alloc | apply pw_below_drewN | apply below_drew1 | refine below_set ?_ (Aside0.out (by assumption))) | exact HB.out)))
       (case aF => exact (fun k_ hk => Kd.fresh' (Kd.R_lt (by (with_reducible repeat (first | apply Kd.R_alloc | apply Kd.R_drewN | apply Kd.R_drew)); exact HO_7.out)) k_ hk))
       (case aO => exact (by (with_reducible repeat (first | apply Kd.R_alloc | apply Kd.R_drewN | apply Kd.R_drew)); exact Kd.R_mono HO207.out (fun _ hk => hk.2)))
       (case aS => exact (below_size (by repeat (first | (with_reducible first | exact HB.out | apply below_alloc | apply pw_below_drewN | apply below_drew1 | refine below_set ?_ (Aside0.out (by assumption))) | exact HB.out))))
       (case aL => have := LMc35.out; omega)
       intro v209 w50 ho hb hg hat
       rw [← Ny208.out] at ho
       have n0_ := Aside0.mk (Kd.R_after (ok := (fun _ => True)) (by (with_reducible repeat (first | apply Kd.R_alloc | apply Kd.R_drewN | apply Kd.R_drew)); exact HO_7.out) hg hat)
       have n1_ := Aside0.mk (blk_grown (by repeat (first | (with_reducible first | exact BK188.out | refine blk_drewN ?_ _ | refine blk_drew ?_ | refine blk_alloc ?_ _) | exact BK188.out)) hg (Kd.R_ne HO207.out BK188.out (by decide)))
       have n2_ := Aside0.mk (blk_grown (by repeat (first | (with_reducible first | exact BK189.out | refine blk_drewN ?_ _ | refine blk_drew ?_ | refine blk_alloc ?_ _) | exact BK189.out)) hg (Kd.R_ne HO207.out BK189.out (by decide)))
       have n3_ := Aside0.mk (blk_grown (by repeat (first | (with_reducible first | exact BK204.out | refine blk_drewN ?_ _ | refine blk_drew ?_ | refine blk_alloc ?_ _) | exact BK204.out)) hg (Kd.R_ne HO207.out BK204.out (by decide)))
       have n4_ := Aside0.mk (hb)
       have n5_ := Aside0.mk (ho)
       clear HO_7
       clear BK188
       clear BK189
       clear BK204
       clear HB
       clear HO207
       have HO_7 := n0_
       have BK188 := n1_
       have BK189 := n2_
       have BK204 := n3_
       have HB := n4_
       have HO210 := n5_
       clear n0_ n1_ n2_ n3_ n4_ n5_
       clear ho hb hg hat
       obtain ⟨Ao51, co51, eo51⟩ := Kd.R_slice HO210.out
       (first | subst eo51 | (injection eo51 with f1_ f2_ f3_; have f4_ := f1_.symm; have f5_ := f3_.symm; clear f1_ f2_ f3_; subst f4_; subst f5_))
       refine hK.out _ _ ⟨(blk_cell BK204.out 0).trans rfl, (blk_cell BK204.out 1).trans rfl⟩ (fun hHeld => ?_)
       clear hK K
       refine norm_ (a' := ?_) ?_ ?_
       rotate_left
       ·show Act.put _ (some 86) _ = _
        simp only [Act.put, List.setIfInBounds_toArray, List.set_cons_zero, List.set_cons_succ, i64_w, i32_w]
        rfl
       refine two_ (i := 4) (j := 8) (Ni := some 88) (Nj := some 12) #[tt, tt, tt, tt, tt, ff, ff, ff, ff, ff, ff] #[tt, tt, tt, tt, ff, ff, ff, ff, tt, ff, ff] rfl rfl rfl rfl (two_of HT_.out (by kernel_rfl)) (by decide) (by decide) (fun K hK => ?_) (fun K hK => ?_)
       ·skip
        refine goes_ Try.func23 (by kernel_rfl) rfl #[.slice Ao51 y208.length co51, .agg #[.int .i64 t202, .int .i64 t203]] (by rfl) rfl rfl (by (try simp only [List.map_toArray, List.map_cons, List.map_nil]); first | done | rfl | (simp only [List.length_drop, List.length_take]; rfl)) ?_
        with_reducible refine (mill_Blank.calls kj7 _ _ y208 t202 t203 t211 t212 t213 _ ?side1 ?side2 A36.out).mono ?_
        (case side1 => repeat (first | exact (Kd.R_reads' HO210.out).2.2 | (with_reducible refine Kd.C_alloc ?_ _) | (with_reducible refine Kd.C_drewN ?_ _) | (with_reducible refine Kd.C_drew ?_)))
        (case side2 => exact (Kd.R_reads' HO210.out).2.1)
        rintro e w52 ⟨rfl, hb⟩
        refine ⟨_, rfl, ?_⟩
        replace HO_7 := Aside0.mk (Kd.R_below (by (with_reducible repeat (first | apply Kd.R_alloc | apply Kd.R_drewN | apply Kd.R_drew)); exact HO_7.out) hb)
        replace HO210 := Aside0.mk (Kd.R_below (by (with_reducible repeat (first | apply Kd.R_alloc | apply Kd.R_drewN | apply Kd.R_drew)); exact HO210.out) hb)
        replace BK188 := Aside0.mk (blk_below (by repeat (first | (with_reducible first | exact BK188.out | refine blk_drewN ?_ _ | refine blk_drew ?_ | refine blk_alloc ?_ _) | exact BK188.out)) hb)
        replace BK189 := Aside0.mk (blk_below (by repeat (first | (with_reducible first | exact BK189.out | refine blk_drewN ?_ _ | refine blk_drew ?_ | refine blk_alloc ?_ _) | exact BK189.out)) hb)
        replace BK204 := Aside0.mk (blk_below (by repeat (first | (with_reducible first | exact BK204.out | refine blk_drewN ?_ _ | refine blk_drew ?_ | refine blk_alloc ?_ _) | exact BK204.out)) hb)
        replace HB := Aside0.mk (below_step (by repeat (first | (with_reducible first | exact HB.out | apply below_alloc | apply pw_below_drewN | apply below_drew1 | refine below_set ?_ (Aside0.out (by assumption))) | exact HB.out)) hb)
        (try clear hb)
        (try clear hb2)
        (try clear hk)
        (try clear hi)
        refine hK.out _ _ ⟨(blk_cell BK204.out 0).trans rfl, (blk_cell BK204.out 1).trans rfl⟩ (fun hHeld => ?_)
        clear hK K
        refine norm_ (a' := ?_) ?_ ?_
        rotate_left
        ·show Act.put _ (some 88) _ = _
         simp only [Act.put, List.setIfInBounds_toArray, List.set_cons_zero, List.set_cons_succ, i64_w, i32_w]
         rfl
        refine pure_ (i := 5) (N := some 83) (v := ?_) (a' := ?_) #[tt, tt, tt, tt, tt, tt, ff, ff, ff, ff, ff] rfl rfl (any_of HT_.out (by kernel_rfl)) (fun _ _ _ h => h) (Or.inl ⟨by rfl, ?_⟩) ?_ ?_
        rotate_left
        ·intro w'
         go_simp
         with_reducible rfl
        rotate_left
        ·simp only [Act.put, List.setIfInBounds_toArray, List.set_cons_zero, List.set_cons_succ, i64_w, i32_w]
         rfl
        refine pure_ (i := 6) (N := some 89) (v := ?_) (a' := ?_) #[tt, tt, tt, tt, tt, tt, tt, ff, ff, ff, ff] rfl rfl (any_of HT_.out (by kernel_rfl)) (fun _ _ _ h => h) (Or.inl ⟨by rfl, ?_⟩) ?_ ?_
        rotate_left
        ·intro w'
         go_simp
         with_reducible rfl
        rotate_left
        ·simp only [Act.put, List.setIfInBounds_toArray, List.set_cons_zero, List.set_cons_succ, i64_w, i32_w]
         rfl
        refine pure_ (i := 7) (N := some 90) (v := ?_) (a' := ?_) #[tt, tt, tt, tt, tt, tt, tt, tt, ff, ff, ff] rfl rfl (any_of HT_.out (by kernel_rfl)) (fun _ _ _ h => h) (Or.inl ⟨by rfl, ?_⟩) ?_ ?_
        rotate_left
        ·intro w'
         go_simp
         with_reducible rfl
        rotate_left
        ·simp only [Act.put, List.setIfInBounds_toArray, List.set_cons_zero, List.set_cons_succ, i64_w, i32_w]
         rfl
        refine one_ (i := 8) (N := some 12) #[tt, tt, tt, tt, tt, tt, tt, tt, tt, ff, ff] rfl rfl (one_of HT_.out (by kernel_rfl)) (by decide) (fun K hK => ?_)
        refine box_step ?hg (N := 12) ?hd (cs := #[.int .i64 0, .int .i64 0]) (t := 41) ?hr ?_; (case hd => rfl); (case hg => rfl); (case hr => first | (go_simp; done) | (go_simp; rfl))
        intro gb214 hg w53 hbox hb
        replace HO_7 := Aside0.mk (Kd.R_below (by (with_reducible repeat (first | apply Kd.R_alloc | apply Kd.R_drewN | apply Kd.R_drew)); exact HO_7.out) hb)
        replace HO210 := Aside0.mk (Kd.R_below (by (with_reducible repeat (first | apply Kd.R_alloc | apply Kd.R_drewN | apply Kd.R_drew)); exact HO210.out) hb)
        have BK214 := Aside0.mk (hbox)
        have GW214 := Aside0.mk ((by rw [hg]; exact (below_size (by repeat (first | (with_reducible first | exact HB.out | apply below_alloc | apply pw_below_drewN | apply below_drew1 | refine below_set ?_ (Aside0.out (by assumption))) | exact HB.out))) : w.heap.size ≤ gb214))
        have GE214 := Aside0.mk ((by rw [hg]; exact (below_size (by repeat (first | (with_reducible first | exact HB.out | apply below_alloc | apply pw_below_drewN | apply below_drew1 | refine below_set ?_ (Aside0.out (by assumption))) | exact HB.out))) : w.heap.size ≤ gb214))
        replace HB := Aside0.mk (below_step (by repeat (first | (with_reducible first | exact HB.out | apply below_alloc | apply pw_below_drewN | apply below_drew1 | refine below_set ?_ (Aside0.out (by assumption))) | exact HB.out)) hb)
        have NB188_214 := Aside0.mk ((by rw [hg]; exact Nat.ne_of_lt (blk_lt BK188.out) : gb188 ≠ gb214))
        have NB214_188 := Aside0.mk ((by rw [hg]; exact Nat.ne_of_gt (blk_lt BK188.out) : gb214 ≠ gb188))
        replace BK188 := Aside0.mk (blk_below (by repeat (first | (with_reducible first | exact BK188.out | refine blk_drewN ?_ _ | refine blk_drew ?_ | refine blk_alloc ?_ _) | exact BK188.out)) hb)
        have NB189_214 := Aside0.mk ((by rw [hg]; exact Nat.ne_of_lt (blk_lt BK189.out) : gb189 ≠ gb214))
        have NB214_189 := Aside0.mk ((by rw [hg]; exact Nat.ne_of_gt (blk_lt BK189.out) : gb214 ≠ gb189))
        replace BK189 := Aside0.mk (blk_below (by repeat (first | (with_reducible first | exact BK189.out | refine blk_drewN ?_ _ | refine blk_drew ?_ | refine blk_alloc ?_ _) | exact BK189.out)) hb)
        have NB204_214 := Aside0.mk ((by rw [hg]; exact Nat.ne_of_lt (blk_lt BK204.out) : gb204 ≠ gb214))
        have NB214_204 := Aside0.mk ((by rw [hg]; exact Nat.ne_of_gt (blk_lt BK204.out) : gb214 ≠ gb204))
        replace BK204 := Aside0.mk (blk_below (by repeat (first | (with_reducible first | exact BK204.out | refine blk_drewN ?_ _ | refine blk_drew ?_ | refine blk_alloc ?_ _) | exact BK204.out)) hb)
        clear hb hbox hg
        refine hK.out _ _ ⟨(blk_cell BK204.out 0).trans rfl, (blk_cell BK204.out 1).trans rfl⟩ (fun hHeld => ?_)
        clear hK K
        refine norm_ (a' := ?_) ?_ ?_
        rotate_left
        ·show Act.put _ (some 12) _ = _
         simp only [Act.put, List.setIfInBounds_toArray, List.set_cons_zero, List.set_cons_succ, i64_w, i32_w]
         rfl
        exact norm_ (by simp only [putAll, Act.put, List.setIfInBounds_toArray, List.set_cons_zero, List.set_cons_succ]) (hCont (v206, .slice Ao51 y208.length co51, gb214) _ ⟨hHeld, (by (with_reducible repeat (first | apply Kd.R_alloc | apply Kd.R_drewN | apply Kd.R_drew)); exact HO210.out), (by (with_reducible repeat (first | apply Kd.R_alloc | apply Kd.R_drewN | apply Kd.R_drew)); exact Kd.R_mono HO_7.out (fun _ hk => hk.2)), (by repeat (first | (with_reducible first | exact BK188.out | refine blk_drewN ?_ _ | refine blk_drew ?_ | refine blk_alloc ?_ _) | exact BK188.out)), (by repeat (first | (with_reducible first | exact BK189.out | refine blk_drewN ?_ _ | refine blk_drew ?_ | refine blk_alloc ?_ _) | exact BK189.out)), (by repeat (first | (with_reducible first | exact BK204.out | refine blk_drewN ?_ _ | refine blk_drew ?_ | refine blk_alloc ?_ _) | exact BK204.out)), (by repeat (first | (with_reducible first | exact BK214.out | refine blk_drewN ?_ _ | refine blk_drew ?_ | refine blk_alloc ?_ _) | exact BK214.out)), GW214.out, GE214.out, NB188_214.out, NB214_188.out, NB189_214.out, NB214_189.out, NB204_214.out, NB214_204.out, (by repeat (first | (with_reducible first | exact HB.out | apply below_alloc | apply pw_below_drewN | apply below_drew1 | refine below_set ?_ (Aside0.out (by assumption))) | exact HB.out))⟩)
       skip
       refine box_step ?hg (N := 12) ?hd (cs := #[.int .i64 0, .int .i64 0]) (t := 41) ?hr ?_; (case hd => rfl); (case hg => rfl); (case hr => first | (go_simp; done) | (go_simp; rfl))
       intro gb214 hg w51 hbox hb
       replace HO_7 := Aside0.mk (Kd.R_below (by (with_reducible repeat (first | apply Kd.R_alloc | apply Kd.R_drewN | apply Kd.R_drew)); exact HO_7.out) hb)
       replace HO210 := Aside0.mk (Kd.R_below (by (with_reducible repeat (first | apply Kd.R_alloc | apply Kd.R_drewN | apply Kd.R_drew)); exact HO210.out) hb)
       have BK214 := Aside0.mk (hbox)
       have GW214 := Aside0.mk ((by rw [hg]; exact (below_size (by repeat (first | (with_reducible first | exact HB.out | apply below_alloc | apply pw_below_drewN | apply below_drew1 | refine below_set ?_ (Aside0.out (by assumption))) | exact HB.out))) : w.heap.size ≤ gb214))
       have GE214 := Aside0.mk ((by rw [hg]; exact (below_size (by repeat (first | (with_reducible first | exact HB.out | apply below_alloc | apply pw_below_drewN | apply below_drew1 | refine below_set ?_ (Aside0.out (by assumption))) | exact HB.out))) : w.heap.size ≤ gb214))
       replace HB := Aside0.mk (below_step (by repeat (first | (with_reducible first | exact HB.out | apply below_alloc | apply pw_below_drewN | apply below_drew1 | refine below_set ?_ (Aside0.out (by assumption))) | exact HB.out)) hb)
       have NB188_214 := Aside0.mk ((by rw [hg]; exact Nat.ne_of_lt (blk_lt BK188.out) : gb188 ≠ gb214))
       have NB214_188 := Aside0.mk ((by rw [hg]; exact Nat.ne_of_gt (blk_lt BK188.out) : gb214 ≠ gb188))
       replace BK188 := Aside0.mk (blk_below (by repeat (first | (with_reducible first | exact BK188.out | refine blk_drewN ?_ _ | refine blk_drew ?_ | refine blk_alloc ?_ _) | exact BK188.out)) hb)
       have NB189_214 := Aside0.mk ((by rw [hg]; exact Nat.ne_of_lt (blk_lt BK189.out) : gb189 ≠ gb214))
       have NB214_189 := Aside0.mk ((by rw [hg]; exact Nat.ne_of_gt (blk_lt BK189.out) : gb214 ≠ gb189))
       replace BK189 := Aside0.mk (blk_below (by repeat (first | (with_reducible first | exact BK189.out | refine blk_drewN ?_ _ | refine blk_drew ?_ | refine blk_alloc ?_ _) | exact BK189.out)) hb)
       have NB204_214 := Aside0.mk ((by rw [hg]; exact Nat.ne_of_lt (blk_lt BK204.out) : gb204 ≠ gb214))
       have NB214_204 := Aside0.mk ((by rw [hg]; exact Nat.ne_of_gt (blk_lt BK204.out) : gb214 ≠ gb204))
       replace BK204 := Aside0.mk (blk_below (by repeat (first | (with_reducible first | exact BK204.out | refine blk_drewN ?_ _ | refine blk_drew ?_ | refine blk_alloc ?_ _) | exact BK204.out)) hb)
       clear hb hbox hg
       obtain ⟨Ao52, co52, eo52⟩ := Kd.R_slice HO210.out
       (first | subst eo52 | (injection eo52 with f1_ f2_ f3_; have f4_ := f1_.symm; have f5_ := f3_.symm; clear f1_ f2_ f3_; subst f4_; subst f5_))
       refine hK.out _ _ ⟨(blk_cell BK204.out 0).trans rfl, (blk_cell BK204.out 1).trans rfl⟩ (fun hHeld => ?_)
       clear hK K
       refine norm_ (a' := ?_) ?_ ?_
       rotate_left
       ·show Act.put _ (some 12) _ = _
        simp only [Act.put, List.setIfInBounds_toArray, List.set_cons_zero, List.set_cons_succ, i64_w, i32_w]
        rfl
       refine one_ (i := 4) (N := some 88) #[tt, tt, tt, tt, tt, ff, ff, ff, tt, ff, ff] rfl rfl (one_of HT_.out (by kernel_rfl)) (by decide) (fun K hK => ?_)
       refine goes_ Try.func23 (by kernel_rfl) rfl #[.slice Ao52 y208.length co52, .agg #[.int .i64 t202, .int .i64 t203]] (by rfl) rfl rfl (by (try simp only [List.map_toArray, List.map_cons, List.map_nil]); first | done | rfl | (simp only [List.length_drop, List.length_take]; rfl)) ?_
       with_reducible refine (mill_Blank.calls kj7 _ _ y208 t202 t203 t211 t212 t213 _ ?side1 ?side2 A36.out).mono ?_
       (case side1 => repeat (first | exact (Kd.R_reads' HO210.out).2.2 | (with_reducible refine Kd.C_alloc ?_ _) | (with_reducible refine Kd.C_drewN ?_ _) | (with_reducible refine Kd.C_drew ?_)))
       (case side2 => exact (Kd.R_reads' HO210.out).2.1)
       rintro e w53 ⟨rfl, hb⟩
       refine ⟨_, rfl, ?_⟩
       replace HO_7 := Aside0.mk (Kd.R_below (by (with_reducible repeat (first | apply Kd.R_alloc | apply Kd.R_drewN | apply Kd.R_drew)); exact HO_7.out) hb)
       replace HO210 := Aside0.mk (Kd.R_below (by (with_reducible repeat (first | apply Kd.R_alloc | apply Kd.R_drewN | apply Kd.R_drew)); exact HO210.out) hb)
       replace BK188 := Aside0.mk (blk_below (by repeat (first | (with_reducible first | exact BK188.out | refine blk_drewN ?_ _ | refine blk_drew ?_ | refine blk_alloc ?_ _) | exact BK188.out)) hb)
       replace BK189 := Aside0.mk (blk_below (by repeat (first | (with_reducible first | exact BK189.out | refine blk_drewN ?_ _ | refine blk_drew ?_ | refine blk_alloc ?_ _) | exact BK189.out)) hb)
       replace BK204 := Aside0.mk (blk_below (by repeat (first | (with_reducible first | exact BK204.out | refine blk_drewN ?_ _ | refine blk_drew ?_ | refine blk_alloc ?_ _) | exact BK204.out)) hb)
       replace BK214 := Aside0.mk (blk_below (by repeat (first | (with_reducible first | exact BK214.out | refine blk_drewN ?_ _ | refine blk_drew ?_ | refine blk_alloc ?_ _) | exact BK214.out)) hb)
       replace HB := Aside0.mk (below_step (by repeat (first | (with_reducible first | exact HB.out | apply below_alloc | apply pw_below_drewN | apply below_drew1 | refine below_set ?_ (Aside0.out (by assumption))) | exact HB.out)) hb)
       (try clear hb)
       (try clear hb2)
       (try clear hk)
       (try clear hi)
       refine hK.out _ _ ⟨(blk_cell BK204.out 0).trans rfl, (blk_cell BK204.out 1).trans rfl⟩ (fun hHeld => ?_)
       clear hK K
       refine norm_ (a' := ?_) ?_ ?_
       rotate_left
       ·show Act.put _ (some 88) _ = _
        simp only [Act.put, List.setIfInBounds_toArray, List.set_cons_zero, List.set_cons_succ, i64_w, i32_w]
        rfl
       refine pure_ (i := 5) (N := some 83) (v := ?_) (a' := ?_) #[tt, tt, tt, tt, tt, tt, ff, ff, tt, ff, ff] rfl rfl (any_of HT_.out (by kernel_rfl)) (fun _ _ _ h => h) (Or.inl ⟨by rfl, ?_⟩) ?_ ?_
       rotate_left
       ·intro w'
        go_simp
        with_reducible rfl
       rotate_left
       ·simp only [Act.put, List.setIfInBounds_toArray, List.set_cons_zero, List.set_cons_succ, i64_w, i32_w]
        rfl
       refine pure_ (i := 6) (N := some 89) (v := ?_) (a' := ?_) #[tt, tt, tt, tt, tt, tt, tt, ff, tt, ff, ff] rfl rfl (any_of HT_.out (by kernel_rfl)) (fun _ _ _ h => h) (Or.inl ⟨by rfl, ?_⟩) ?_ ?_
       rotate_left
       ·intro w'
        go_simp
        with_reducible rfl
       rotate_left
       ·simp only [Act.put, List.setIfInBounds_toArray, List.set_cons_zero, List.set_cons_succ, i64_w, i32_w]
        rfl
       refine pure_ (i := 7) (N := some 90) (v := ?_) (a' := ?_) #[tt, tt, tt, tt, tt, tt, tt, tt, tt, ff, ff] rfl rfl (any_of HT_.out (by kernel_rfl)) (fun _ _ _ h => h) (Or.inl ⟨by rfl, ?_⟩) ?_ ?_
       rotate_left
       ·intro w'
        go_simp
        with_reducible rfl
       rotate_left
       ·simp only [Act.put, List.setIfInBounds_toArray, List.set_cons_zero, List.set_cons_succ, i64_w, i32_w]
        rfl
       exact norm_ (by simp only [putAll, Act.put, List.setIfInBounds_toArray, List.set_cons_zero, List.set_cons_succ]) (hCont (v206, .slice Ao52 y208.length co52, gb214) _ ⟨hHeld, (by (with_reducible repeat (first | apply Kd.R_alloc | apply Kd.R_drewN | apply Kd.R_drew)); exact HO210.out), (by (with_reducible repeat (first | apply Kd.R_alloc | apply Kd.R_drewN | apply Kd.R_drew)); exact Kd.R_mono HO_7.out (fun _ hk => hk.2)), (by repeat (first | (with_reducible first | exact BK188.out | refine blk_drewN ?_ _ | refine blk_drew ?_ | refine blk_alloc ?_ _) | exact BK188.out)), (by repeat (first | (with_reducible first | exact BK189.out | refine blk_drewN ?_ _ | refine blk_drew ?_ | refine blk_alloc ?_ _) | exact BK189.out)), (by repeat (first | (with_reducible first | exact BK204.out | refine blk_drewN ?_ _ | refine blk_drew ?_ | refine blk_alloc ?_ _) | exact BK204.out)), (by repeat (first | (with_reducible first | exact BK214.out | refine blk_drewN ?_ _ | refine blk_drew ?_ | refine blk_alloc ?_ _) | exact BK214.out)), GW214.out, GE214.out, NB188_214.out, NB214_188.out, NB189_214.out, NB214_189.out, NB204_214.out, NB214_204.out, (by repeat (first | (with_reducible first | exact HB.out | apply below_alloc | apply pw_below_drewN | apply below_drew1 | refine below_set ?_ (Aside0.out (by assumption))) | exact HB.out))⟩)
      skip
      refine box_step ?hg (N := 12) ?hd (cs := #[.int .i64 0, .int .i64 0]) (t := 41) ?hr ?_; (case hd => rfl); (case hg => rfl); (case hr => first | (go_simp; done) | (go_simp; rfl))
      intro gb214 hg w50 hbox hb
      replace HO_7 := Aside0.mk (Kd.R_below (by (with_reducible repeat (first | apply Kd.R_alloc | apply Kd.R_drewN | apply Kd.R_drew)); exact HO_7.out) hb)
      replace HO207 := Aside0.mk (Kd.R_below (by (with_reducible repeat (first | apply Kd.R_alloc | apply Kd.R_drewN | apply Kd.R_drew)); exact HO207.out) hb)
      have BK214 := Aside0.mk (hbox)
      have GW214 := Aside0.mk ((by rw [hg]; exact (below_size (by repeat (first | (with_reducible first | exact HB.out | apply below_alloc | apply pw_below_drewN | apply below_drew1 | refine below_set ?_ (Aside0.out (by assumption))) | exact HB.out))) : w.heap.size ≤ gb214))
      have GE214 := Aside0.mk ((by rw [hg]; exact (below_size (by repeat (first | (with_reducible first | exact HB.out | apply below_alloc | apply pw_below_drewN | apply below_drew1 | refine below_set ?_ (Aside0.out (by assumption))) | exact HB.out))) : w.heap.size ≤ gb214))
      replace HB := Aside0.mk (below_step (by repeat (first | (with_reducible first | exact HB.out | apply below_alloc | apply pw_below_drewN | apply below_drew1 | refine below_set ?_ (Aside0.out (by assumption))) | exact HB.out)) hb)
      have NB188_214 := Aside0.mk ((by rw [hg]; exact Nat.ne_of_lt (blk_lt BK188.out) : gb188 ≠ gb214))
      have NB214_188 := Aside0.mk ((by rw [hg]; exact Nat.ne_of_gt (blk_lt BK188.out) : gb214 ≠ gb188))
      replace BK188 := Aside0.mk (blk_below (by repeat (first | (with_reducible first | exact BK188.out | refine blk_drewN ?_ _ | refine blk_drew ?_ | refine blk_alloc ?_ _) | exact BK188.out)) hb)
      have NB189_214 := Aside0.mk ((by rw [hg]; exact Nat.ne_of_lt (blk_lt BK189.out) : gb189 ≠ gb214))
      have NB214_189 := Aside0.mk ((by rw [hg]; exact Nat.ne_of_gt (blk_lt BK189.out) : gb214 ≠ gb189))
      replace BK189 := Aside0.mk (blk_below (by repeat (first | (with_reducible first | exact BK189.out | refine blk_drewN ?_ _ | refine blk_drew ?_ | refine blk_alloc ?_ _) | exact BK189.out)) hb)
      have NB204_214 := Aside0.mk ((by rw [hg]; exact Nat.ne_of_lt (blk_lt BK204.out) : gb204 ≠ gb214))
      have NB214_204 := Aside0.mk ((by rw [hg]; exact Nat.ne_of_gt (blk_lt BK204.out) : gb214 ≠ gb204))
      replace BK204 := Aside0.mk (blk_below (by repeat (first | (with_reducible first | exact BK204.out | refine blk_drewN ?_ _ | refine blk_drew ?_ | refine blk_alloc ?_ _) | exact BK204.out)) hb)
      clear hb hbox hg
      refine hK.out _ _ ⟨(blk_cell BK204.out 0).trans rfl, (blk_cell BK204.out 1).trans rfl⟩ (fun hHeld => ?_)
      clear hK K
      refine norm_ (a' := ?_) ?_ ?_
      rotate_left
      ·show Act.put _ (some 12) _ = _
       simp only [Act.put, List.setIfInBounds_toArray, List.set_cons_zero, List.set_cons_succ, i64_w, i32_w]
       rfl
      refine one_ (i := 2) (N := some 86) #[tt, tt, tt, tt, ff, ff, ff, ff, tt, ff, ff] rfl rfl (one_of HT_.out (by kernel_rfl)) (by decide) (fun K hK => ?_)
      refine Kd.R_append_rows_step k46 (w0 := w) w.heap.size (by rfl) (.tmp 84) (.tmp 85) 39 46 (.agg #[(.int .i64 0), (.int .i64 0)]) 16 rfl Try.underlying39 info46 rfl (by decide) (by omega) v206 y205 x7_1 _ _ _ (fun k_ => some k_ ≠ (.slice Ao45 x7_1.length co45 : Value).ownBlock) (fun _ => False) rfl rfl ?aO ?aR (fun _ _ h => h) (fun _ h => h.elim) ?aF ?aB ?aS ?aL ?_
      (case aR => repeat (first | exact (Kd.R_reads' HO_7.out).2.2 | (with_reducible refine Kd.C_alloc ?_ _) | (with_reducible refine Kd.C_drewN ?_ _) | (with_reducible refine Kd.C_drew ?_)))
      (case aB => exact (by repeat (first | (with_reducible first | exact HB.out | apply below_alloc | apply pw_below_drewN | apply below_drew1 | refine below_set ?_ (Aside0.out (by assumption))) | exact HB.out)))
      (case aF => exact (fun k_ hk => Kd.fresh' (Kd.R_lt (by (with_reducible repeat (first | apply Kd.R_alloc | apply Kd.R_drewN | apply Kd.R_drew)); exact HO_7.out)) k_ hk))
      (case aO => exact (by (with_reducible repeat (first | apply Kd.R_alloc | apply Kd.R_drewN | apply Kd.R_drew)); exact Kd.R_mono HO207.out (fun _ hk => hk.2)))
      (case aS => exact (below_size (by repeat (first | (with_reducible first | exact HB.out | apply below_alloc | apply pw_below_drewN | apply below_drew1 | refine below_set ?_ (Aside0.out (by assumption))) | exact HB.out))))
      (case aL => have := LMc35.out; omega)
      intro v209 w51 ho hb hg hat
      rw [← Ny208.out] at ho
      have n0_ := Aside0.mk (Kd.R_after (ok := (fun _ => True)) (by (with_reducible repeat (first | apply Kd.R_alloc | apply Kd.R_drewN | apply Kd.R_drew)); exact HO_7.out) hg hat)
      have n1_ := Aside0.mk (blk_grown (by repeat (first | (with_reducible first | exact BK188.out | refine blk_drewN ?_ _ | refine blk_drew ?_ | refine blk_alloc ?_ _) | exact BK188.out)) hg (Kd.R_ne HO207.out BK188.out (by decide)))
      have n2_ := Aside0.mk (blk_grown (by repeat (first | (with_reducible first | exact BK189.out | refine blk_drewN ?_ _ | refine blk_drew ?_ | refine blk_alloc ?_ _) | exact BK189.out)) hg (Kd.R_ne HO207.out BK189.out (by decide)))
      have n3_ := Aside0.mk (blk_grown (by repeat (first | (with_reducible first | exact BK204.out | refine blk_drewN ?_ _ | refine blk_drew ?_ | refine blk_alloc ?_ _) | exact BK204.out)) hg (Kd.R_ne HO207.out BK204.out (by decide)))
      have n4_ := Aside0.mk (blk_grown (by repeat (first | (with_reducible first | exact BK214.out | refine blk_drewN ?_ _ | refine blk_drew ?_ | refine blk_alloc ?_ _) | exact BK214.out)) hg (Kd.R_ne HO207.out BK214.out (by decide)))
      have n5_ := Aside0.mk (hb)
      have n6_ := Aside0.mk (ho)
      clear HO_7
      clear BK188
      clear BK189
      clear BK204
      clear BK214
      clear HB
      clear HO207
      have HO_7 := n0_
      have BK188 := n1_
      have BK189 := n2_
      have BK204 := n3_
      have BK214 := n4_
      have HB := n5_
      have HO210 := n6_
      clear n0_ n1_ n2_ n3_ n4_ n5_ n6_
      clear ho hb hg hat
      obtain ⟨Ao52, co52, eo52⟩ := Kd.R_slice HO210.out
      (first | subst eo52 | (injection eo52 with f1_ f2_ f3_; have f4_ := f1_.symm; have f5_ := f3_.symm; clear f1_ f2_ f3_; subst f4_; subst f5_))
      refine hK.out _ _ ⟨(blk_cell BK204.out 0).trans rfl, (blk_cell BK204.out 1).trans rfl⟩ (fun hHeld => ?_)
      clear hK K
      refine norm_ (a' := ?_) ?_ ?_
      rotate_left
      ·show Act.put _ (some 86) _ = _
       simp only [Act.put, List.setIfInBounds_toArray, List.set_cons_zero, List.set_cons_succ, i64_w, i32_w]
       rfl
      refine one_ (i := 4) (N := some 88) #[tt, tt, tt, tt, tt, ff, ff, ff, tt, ff, ff] rfl rfl (one_of HT_.out (by kernel_rfl)) (by decide) (fun K hK => ?_)
      refine goes_ Try.func23 (by kernel_rfl) rfl #[.slice Ao52 y208.length co52, .agg #[.int .i64 t202, .int .i64 t203]] (by rfl) rfl rfl (by (try simp only [List.map_toArray, List.map_cons, List.map_nil]); first | done | rfl | (simp only [List.length_drop, List.length_take]; rfl)) ?_
      with_reducible refine (mill_Blank.calls kj7 _ _ y208 t202 t203 t211 t212 t213 _ ?side1 ?side2 A36.out).mono ?_
      (case side1 => repeat (first | exact (Kd.R_reads' HO210.out).2.2 | (with_reducible refine Kd.C_alloc ?_ _) | (with_reducible refine Kd.C_drewN ?_ _) | (with_reducible refine Kd.C_drew ?_)))
      (case side2 => exact (Kd.R_reads' HO210.out).2.1)
      rintro e w53 ⟨rfl, hb⟩
      refine ⟨_, rfl, ?_⟩
      replace HO_7 := Aside0.mk (Kd.R_below (by (with_reducible repeat (first | apply Kd.R_alloc | apply Kd.R_drewN | apply Kd.R_drew)); exact HO_7.out) hb)
      replace HO210 := Aside0.mk (Kd.R_below (by (with_reducible repeat (first | apply Kd.R_alloc | apply Kd.R_drewN | apply Kd.R_drew)); exact HO210.out) hb)
      replace BK188 := Aside0.mk (blk_below (by repeat (first | (with_reducible first | exact BK188.out | refine blk_drewN ?_ _ | refine blk_drew ?_ | refine blk_alloc ?_ _) | exact BK188.out)) hb)
      replace BK189 := Aside0.mk (blk_below (by repeat (first | (with_reducible first | exact BK189.out | refine blk_drewN ?_ _ | refine blk_drew ?_ | refine blk_alloc ?_ _) | exact BK189.out)) hb)
      replace BK204 := Aside0.mk (blk_below (by repeat (first | (with_reducible first | exact BK204.out | refine blk_drewN ?_ _ | refine blk_drew ?_ | refine blk_alloc ?_ _) | exact BK204.out)) hb)
      replace BK214 := Aside0.mk (blk_below (by repeat (first | (with_reducible first | exact BK214.out | refine blk_drewN ?_ _ | refine blk_drew ?_ | refine blk_alloc ?_ _) | exact BK214.out)) hb)
      replace HB := Aside0.mk (below_step (by repeat (first | (with_reducible first | exact HB.out | apply below_alloc | apply pw_below_drewN | apply below_drew1 | refine below_set ?_ (Aside0.out (by assumption))) | exact HB.out)) hb)
      (try clear hb)
      (try clear hb2)
      (try clear hk)
      (try clear hi)
      refine hK.out _ _ ⟨(blk_cell BK204.out 0).trans rfl, (blk_cell BK204.out 1).trans rfl⟩ (fun hHeld => ?_)
      clear hK K
      refine norm_ (a' := ?_) ?_ ?_
      rotate_left
      ·show Act.put _ (some 88) _ = _
       simp only [Act.put, List.setIfInBounds_toArray, List.set_cons_zero, List.set_cons_succ, i64_w, i32_w]
       rfl
      refine pure_ (i := 5) (N := some 83) (v := ?_) (a' := ?_) #[tt, tt, tt, tt, tt, tt, ff, ff, tt, ff, ff] rfl rfl (any_of HT_.out (by kernel_rfl)) (fun _ _ _ h => h) (Or.inl ⟨by rfl, ?_⟩) ?_ ?_
      rotate_left
      ·intro w'
       go_simp
       with_reducible rfl
      rotate_left
      ·simp only [Act.put, List.setIfInBounds_toArray, List.set_cons_zero, List.set_cons_succ, i64_w, i32_w]
       rfl
      refine pure_ (i := 6) (N := some 89) (v := ?_) (a' := ?_) #[tt, tt, tt, tt, tt, tt, tt, ff, tt, ff, ff] rfl rfl (any_of HT_.out (by kernel_rfl)) (fun _ _ _ h => h) (Or.inl ⟨by rfl, ?_⟩) ?_ ?_
      rotate_left
      ·intro w'
       go_simp
       with_reducible rfl
      rotate_left
      ·simp only [Act.put, List.setIfInBounds_toArray, List.set_cons_zero, List.set_cons_succ, i64_w, i32_w]
       rfl
      refine pure_ (i := 7) (N := some 90) (v := ?_) (a' := ?_) #[tt, tt, tt, tt, tt, tt, tt, tt, tt, ff, ff] rfl rfl (any_of HT_.out (by kernel_rfl)) (fun _ _ _ h => h) (Or.inl ⟨by rfl, ?_⟩) ?_ ?_
      rotate_left
      ·intro w'
       go_simp
       with_reducible rfl
      rotate_left
      ·simp only [Act.put, List.setIfInBounds_toArray, List.set_cons_zero, List.set_cons_succ, i64_w, i32_w]
       rfl
      exact norm_ (by simp only [putAll, Act.put, List.setIfInBounds_toArray, List.set_cons_zero, List.set_cons_succ]) (hCont (v206, .slice Ao52 y208.length co52, gb214) _ ⟨hHeld, (by (with_reducible repeat (first | apply Kd.R_alloc | apply Kd.R_drewN | apply Kd.R_drew)); exact HO210.out), (by (with_reducible repeat (first | apply Kd.R_alloc | apply Kd.R_drewN | apply Kd.R_drew)); exact Kd.R_mono HO_7.out (fun _ hk => hk.2)), (by repeat (first | (with_reducible first | exact BK188.out | refine blk_drewN ?_ _ | refine blk_drew ?_ | refine blk_alloc ?_ _) | exact BK188.out)), (by repeat (first | (with_reducible first | exact BK189.out | refine blk_drewN ?_ _ | refine blk_drew ?_ | refine blk_alloc ?_ _) | exact BK189.out)), (by repeat (first | (with_reducible first | exact BK204.out | refine blk_drewN ?_ _ | refine blk_drew ?_ | refine blk_alloc ?_ _) | exact BK204.out)), (by repeat (first | (with_reducible first | exact BK214.out | refine blk_drewN ?_ _ | refine blk_drew ?_ | refine blk_alloc ?_ _) | exact BK214.out)), GW214.out, GE214.out, NB188_214.out, NB214_188.out, NB189_214.out, NB214_189.out, NB204_214.out, NB214_204.out, (by repeat (first | (with_reducible first | exact HB.out | apply below_alloc | apply pw_below_drewN | apply below_drew1 | refine below_set ?_ (Aside0.out (by assumption))) | exact HB.out))⟩)
     skip
     refine box_step ?hg (N := 12) ?hd (cs := #[.int .i64 0, .int .i64 0]) (t := 41) ?hr ?_; (case hd => rfl); (case hg => rfl); (case hr => first | (go_simp; done) | (go_simp; rfl))
     intro gb214 hg w48 hbox hb
     replace HO_7 := Aside0.mk (Kd.R_below (by (with_reducible repeat (first | apply Kd.R_alloc | apply Kd.R_drewN | apply Kd.R_drew)); exact HO_7.out) hb)
     have BK214 := Aside0.mk (hbox)
     have GW214 := Aside0.mk ((by rw [hg]; exact (below_size (by repeat (first | (with_reducible first | exact HB.out | apply below_alloc | apply pw_below_drewN | apply below_drew1 | refine below_set ?_ (Aside0.out (by assumption))) | exact HB.out))) : w.heap.size ≤ gb214))
     have GE214 := Aside0.mk ((by rw [hg]; exact (below_size (by repeat (first | (with_reducible first | exact HB.out | apply below_alloc | apply pw_below_drewN | apply below_drew1 | refine below_set ?_ (Aside0.out (by assumption))) | exact HB.out))) : w.heap.size ≤ gb214))
     replace HB := Aside0.mk (below_step (by repeat (first | (with_reducible first | exact HB.out | apply below_alloc | apply pw_below_drewN | apply below_drew1 | refine below_set ?_ (Aside0.out (by assumption))) | exact HB.out)) hb)
     have NB188_214 := Aside0.mk ((by rw [hg]; exact Nat.ne_of_lt (blk_lt BK188.out) : gb188 ≠ gb214))
     have NB214_188 := Aside0.mk ((by rw [hg]; exact Nat.ne_of_gt (blk_lt BK188.out) : gb214 ≠ gb188))
     replace BK188 := Aside0.mk (blk_below (by repeat (first | (with_reducible first | exact BK188.out | refine blk_drewN ?_ _ | refine blk_drew ?_ | refine blk_alloc ?_ _) | exact BK188.out)) hb)
     have NB189_214 := Aside0.mk ((by rw [hg]; exact Nat.ne_of_lt (blk_lt BK189.out) : gb189 ≠ gb214))
     have NB214_189 := Aside0.mk ((by rw [hg]; exact Nat.ne_of_gt (blk_lt BK189.out) : gb214 ≠ gb189))
     replace BK189 := Aside0.mk (blk_below (by repeat (first | (with_reducible first | exact BK189.out | refine blk_drewN ?_ _ | refine blk_drew ?_ | refine blk_alloc ?_ _) | exact BK189.out)) hb)
     have NB204_214 := Aside0.mk ((by rw [hg]; exact Nat.ne_of_lt (blk_lt BK204.out) : gb204 ≠ gb214))
     have NB214_204 := Aside0.mk ((by rw [hg]; exact Nat.ne_of_gt (blk_lt BK204.out) : gb214 ≠ gb204))
     replace BK204 := Aside0.mk (blk_below (by repeat (first | (with_reducible first | exact BK204.out | refine blk_drewN ?_ _ | refine blk_drew ?_ | refine blk_alloc ?_ _) | exact BK204.out)) hb)
     clear hb hbox hg
     refine hK.out _ _ ⟨(blk_cell BK204.out 0).trans rfl, (blk_cell BK204.out 1).trans rfl⟩ (fun hHeld => ?_)
     clear hK K
     refine norm_ (a' := ?_) ?_ ?_
     rotate_left
     ·show Act.put _ (some 12) _ = _
      simp only [Act.put, List.setIfInBounds_toArray, List.set_cons_zero, List.set_cons_succ, i64_w, i32_w]
      rfl
     refine one_ (i := 0) (N := some 84) #[tt, tt, ff, tt, ff, ff, ff, ff, tt, ff, ff] rfl rfl (one_of HT_.out (by kernel_rfl)) (by decide) (fun K hK => ?_)
     refine Kd.R_lit_step k46 _ 46 ?hg (N := 84) ?hd (xs := ([] : List (S46))) (inner := []) (ok := fun _ => True) (okp := fun _ => True) ?hr ?hp (fun _ hk => hk) trivial (Below.refl _ _) (Nat.le_refl _) (by simp) ?_; (case hd => rfl); (case hg => rfl); (case hr => first | (go_simp; done) | (go_simp; rfl)); (case hp => exact (Reps.none _ _))
     intro v206 w49 ho50 hb hg_ hnew_
     clear hg_ hnew_
     (first | rw [← Ny205.out] at ho50 | (simp only [Int.reduceToNat] at ho50; rw [← Ny205.out] at ho50))
     have HO207 := Aside0.mk (Kd.R_lower (Kd.R_new' ho50 (Kd.R_lt (by (with_reducible repeat (first | apply Kd.R_alloc | apply Kd.R_drewN | apply Kd.R_drew)); exact HO_7.out))) (below_size (by repeat (first | (with_reducible first | exact HB.out | apply below_alloc | apply pw_below_drewN | apply below_drew1 | refine below_set ?_ (Aside0.out (by assumption))) | exact HB.out))))
     replace HO_7 := Aside0.mk (Kd.R_elder' (by (with_reducible repeat (first | apply Kd.R_alloc | apply Kd.R_drewN | apply Kd.R_drew)); exact HO_7.out) (Kd.R_base ho50) hb)
     replace BK188 := Aside0.mk (blk_below (by repeat (first | (with_reducible first | exact BK188.out | refine blk_drewN ?_ _ | refine blk_drew ?_ | refine blk_alloc ?_ _) | exact BK188.out)) hb)
     replace BK189 := Aside0.mk (blk_below (by repeat (first | (with_reducible first | exact BK189.out | refine blk_drewN ?_ _ | refine blk_drew ?_ | refine blk_alloc ?_ _) | exact BK189.out)) hb)
     replace BK204 := Aside0.mk (blk_below (by repeat (first | (with_reducible first | exact BK204.out | refine blk_drewN ?_ _ | refine blk_drew ?_ | refine blk_alloc ?_ _) | exact BK204.out)) hb)
     replace BK214 := Aside0.mk (blk_below (by repeat (first | (with_reducible first | exact BK214.out | refine blk_drewN ?_ _ | refine blk_drew ?_ | refine blk_alloc ?_ _) | exact BK214.out)) hb)
     replace HB := Aside0.mk (below_step (by repeat (first | (with_reducible first | exact HB.out | apply below_alloc | apply pw_below_drewN | apply below_drew1 | refine below_set ?_ (Aside0.out (by assumption))) | exact HB.out)) hb)
     clear hb ho50
     refine hK.out _ _ ⟨(blk_cell BK204.out 0).trans rfl, (blk_cell BK204.out 1).trans rfl⟩ (fun hHeld => ?_)
     clear hK K
     refine norm_ (a' := ?_) ?_ ?_
     rotate_left
     ·show Act.put _ (some 84) _ = _
      simp only [Act.put, List.setIfInBounds_toArray, List.set_cons_zero, List.set_cons_succ, i64_w, i32_w]
      rfl
     refine one_ (i := 2) (N := some 86) #[tt, tt, tt, tt, ff, ff, ff, ff, tt, ff, ff] rfl rfl (one_of HT_.out (by kernel_rfl)) (by decide) (fun K hK => ?_)
     refine Kd.R_append_rows_step k46 (w0 := w) w.heap.size (by rfl) (.tmp 84) (.tmp 85) 39 46 (.agg #[(.int .i64 0), (.int .i64 0)]) 16 rfl Try.underlying39 info46 rfl (by decide) (by omega) v206 y205 x7_1 _ _ _ (fun k_ => some k_ ≠ (.slice Ao45 x7_1.length co45 : Value).ownBlock) (fun _ => False) rfl rfl ?aO ?aR (fun _ _ h => h) (fun _ h => h.elim) ?aF ?aB ?aS ?aL ?_
     (case aR => repeat (first | exact (Kd.R_reads' HO_7.out).2.2 | (with_reducible refine Kd.C_alloc ?_ _) | (with_reducible refine Kd.C_drewN ?_ _) | (with_reducible refine Kd.C_drew ?_)))
     (case aB => exact (by repeat (first | (with_reducible first | exact HB.out | apply below_alloc | apply pw_below_drewN | apply below_drew1 | refine below_set ?_ (Aside0.out (by assumption))) | exact HB.out)))
     (case aF => exact (fun k_ hk => Kd.fresh' (Kd.R_lt (by (with_reducible repeat (first | apply Kd.R_alloc | apply Kd.R_drewN | apply Kd.R_drew)); exact HO_7.out)) k_ hk))
     (case aO => exact (by (with_reducible repeat (first | apply Kd.R_alloc | apply Kd.R_drewN | apply Kd.R_drew)); exact Kd.R_mono HO207.out (fun _ hk => hk.2)))
     (case aS => exact (below_size (by repeat (first | (with_reducible first | exact HB.out | apply below_alloc | apply pw_below_drewN | apply below_drew1 | refine below_set ?_ (Aside0.out (by assumption))) | exact HB.out))))
     (case aL => have := LMc35.out; omega)
     intro v209 w51 ho hb hg hat
     rw [← Ny208.out] at ho
     have n0_ := Aside0.mk (Kd.R_after (ok := (fun _ => True)) (by (with_reducible repeat (first | apply Kd.R_alloc | apply Kd.R_drewN | apply Kd.R_drew)); exact HO_7.out) hg hat)
     have n1_ := Aside0.mk (blk_grown (by repeat (first | (with_reducible first | exact BK188.out | refine blk_drewN ?_ _ | refine blk_drew ?_ | refine blk_alloc ?_ _) | exact BK188.out)) hg (Kd.R_ne HO207.out BK188.out (by decide)))
     have n2_ := Aside0.mk (blk_grown (by repeat (first | (with_reducible first | exact BK189.out | refine blk_drewN ?_ _ | refine blk_drew ?_ | refine blk_alloc ?_ _) | exact BK189.out)) hg (Kd.R_ne HO207.out BK189.out (by decide)))
     have n3_ := Aside0.mk (blk_grown (by repeat (first | (with_reducible first | exact BK204.out | refine blk_drewN ?_ _ | refine blk_drew ?_ | refine blk_alloc ?_ _) | exact BK204.out)) hg (Kd.R_ne HO207.out BK204.out (by decide)))
     have n4_ := Aside0.mk (blk_grown (by repeat (first | (with_reducible first | exact BK214.out | refine blk_drewN ?_ _ | refine blk_drew ?_ | refine blk_alloc ?_ _) | exact BK214.out)) hg (Kd.R_ne HO207.out BK214.out (by decide)))
     have n5_ := Aside0.mk (hb)
     have n6_ := Aside0.mk (ho)
     clear HO_7
     clear BK188
     clear BK189
     clear BK204
     clear BK214
     clear HB
     clear HO207
     have HO_7 := n0_
     have BK188 := n1_
     have BK189 := n2_
     have BK204 := n3_
     have BK214 := n4_
     have HB := n5_
     have HO210 := n6_
     clear n0_ n1_ n2_ n3_ n4_ n5_ n6_
     clear ho hb hg hat
     obtain ⟨Ao52, co52, eo52⟩ := Kd.R_slice HO210.out
     (first | subst eo52 | (injection eo52 with f1_ f2_ f3_; have f4_ := f1_.symm; have f5_ := f3_.symm; clear f1_ f2_ f3_; subst f4_; subst f5_))
     refine hK.out _ _ ⟨(blk_cell BK204.out 0).trans rfl, (blk_cell BK204.out 1).trans rfl⟩ (fun hHeld => ?_)
     clear hK K
     refine norm_ (a' := ?_) ?_ ?_
     rotate_left
     ·show Act.put _ (some 86) _ = _
      simp only [Act.put, List.setIfInBounds_toArray, List.set_cons_zero, List.set_cons_succ, i64_w, i32_w]
      rfl
     refine one_ (i := 4) (N := some 88) #[tt, tt, tt, tt, tt, ff, ff, ff, tt, ff, ff] rfl rfl (one_of HT_.out (by kernel_rfl)) (by decide) (fun K hK => ?_)
     refine goes_ Try.func23 (by kernel_rfl) rfl #[.slice Ao52 y208.length co52, .agg #[.int .i64 t202, .int .i64 t203]] (by rfl) rfl rfl (by (try simp only [List.map_toArray, List.map_cons, List.map_nil]); first | done | rfl | (simp only [List.length_drop, List.length_take]; rfl)) ?_
     with_reducible refine (mill_Blank.calls kj7 _ _ y208 t202 t203 t211 t212 t213 _ ?side1 ?side2 A36.out).mono ?_
     (case side1 => repeat (first | exact (Kd.R_reads' HO210.out).2.2 | (with_reducible refine Kd.C_alloc ?_ _) | (with_reducible refine Kd.C_drewN ?_ _) | (with_reducible refine Kd.C_drew ?_)))
     (case side2 => exact (Kd.R_reads' HO210.out).2.1)
     rintro e w53 ⟨rfl, hb⟩
     refine ⟨_, rfl, ?_⟩
     replace HO_7 := Aside0.mk (Kd.R_below (by (with_reducible repeat (first | apply Kd.R_alloc | apply Kd.R_drewN | apply Kd.R_drew)); exact HO_7.out) hb)
     replace HO210 := Aside0.mk (Kd.R_below (by (with_reducible repeat (first | apply Kd.R_alloc | apply Kd.R_drewN | apply Kd.R_drew)); exact HO210.out) hb)
     replace BK188 := Aside0.mk (blk_below (by repeat (first | (with_reducible first | exact BK188.out | refine blk_drewN ?_ _ | refine blk_drew ?_ | refine blk_alloc ?_ _) | exact BK188.out)) hb)
     replace BK189 := Aside0.mk (blk_below (by repeat (first | (with_reducible first | exact BK189.out | refine blk_drewN ?_ _ | refine blk_drew ?_ | refine blk_alloc ?_ _) | exact BK189.out)) hb)
     replace BK204 := Aside0.mk (blk_below (by repeat (first | (with_reducible first | exact BK204.out | refine blk_drewN ?_ _ | refine blk_drew ?_ | refine blk_alloc ?_ _) | exact BK204.out)) hb)
     replace BK214 := Aside0.mk (blk_below (by repeat (first | (with_reducible first | exact BK214.out | refine blk_drewN ?_ _ | refine blk_drew ?_ | refine blk_alloc ?_ _) | exact BK214.out)) hb)
     replace HB := Aside0.mk (below_step (by repeat (first | (with_reducible first | exact HB.out | apply below_alloc | apply pw_below_drewN | apply below_drew1 | refine below_set ?_ (Aside0.out (by assumption))) | exact HB.out)) hb)
     (try clear hb)
     (try clear hb2)
     (try clear hk)
     (try clear hi)
     refine hK.out _ _ ⟨(blk_cell BK204.out 0).trans rfl, (blk_cell BK204.out 1).trans rfl⟩ (fun hHeld => ?_)
     clear hK K
     refine norm_ (a' := ?_) ?_ ?_
     rotate_left
     ·show Act.put _ (some 88) _ = _
      simp only [Act.put, List.setIfInBounds_toArray, List.set_cons_zero, List.set_cons_succ, i64_w, i32_w]
      rfl
     refine pure_ (i := 5) (N := some 83) (v := ?_) (a' := ?_) #[tt, tt, tt, tt, tt, tt, ff, ff, tt, ff, ff] rfl rfl (any_of HT_.out (by kernel_rfl)) (fun _ _ _ h => h) (Or.inl ⟨by rfl, ?_⟩) ?_ ?_
     rotate_left
     ·intro w'
      go_simp
      with_reducible rfl
     rotate_left
     ·simp only [Act.put, List.setIfInBounds_toArray, List.set_cons_zero, List.set_cons_succ, i64_w, i32_w]
      rfl
     refine pure_ (i := 6) (N := some 89) (v := ?_) (a' := ?_) #[tt, tt, tt, tt, tt, tt, tt, ff, tt, ff, ff] rfl rfl (any_of HT_.out (by kernel_rfl)) (fun _ _ _ h => h) (Or.inl ⟨by rfl, ?_⟩) ?_ ?_
     rotate_left
     ·intro w'
      go_simp
      with_reducible rfl
     rotate_left
     ·simp only [Act.put, List.setIfInBounds_toArray, List.set_cons_zero, List.set_cons_succ, i64_w, i32_w]
      rfl
     refine pure_ (i := 7) (N := some 90) (v := ?_) (a' := ?_) #[tt, tt, tt, tt, tt, tt, tt, tt, tt, ff, ff] rfl rfl (any_of HT_.out (by kernel_rfl)) (fun _ _ _ h => h) (Or.inl ⟨by rfl, ?_⟩) ?_ ?_
     rotate_left
     ·intro w'
      go_simp
      with_reducible rfl
     rotate_left
     ·simp only [Act.put, List.setIfInBounds_toArray, List.set_cons_zero, List.set_cons_succ, i64_w, i32_w]
      rfl
     exact norm_ (by simp only [putAll, Act.put, List.setIfInBounds_toArray, List.set_cons_zero, List.set_cons_succ]) (hCont (v206, .slice Ao52 y208.length co52, gb214) _ ⟨hHeld, (by (with_reducible repeat (first | apply Kd.R_alloc | apply Kd.R_drewN | apply Kd.R_drew)); exact HO210.out), (by (with_reducible repeat (first | apply Kd.R_alloc | apply Kd.R_drewN | apply Kd.R_drew)); exact Kd.R_mono HO_7.out (fun _ hk => hk.2)), (by repeat (first | (with_reducible first | exact BK188.out | refine blk_drewN ?_ _ | refine blk_drew ?_ | refine blk_alloc ?_ _) | exact BK188.out)), (by repeat (first | (with_reducible first | exact BK189.out | refine blk_drewN ?_ _ | refine blk_drew ?_ | refine blk_alloc ?_ _) | exact BK189.out)), (by repeat (first | (with_reducible first | exact BK204.out | refine blk_drewN ?_ _ | refine blk_drew ?_ | refine blk_alloc ?_ _) | exact BK204.out)), (by repeat (first | (with_reducible first | exact BK214.out | refine blk_drewN ?_ _ | refine blk_drew ?_ | refine blk_alloc ?_ _) | exact BK214.out)), GW214.out, GE214.out, NB188_214.out, NB214_188.out, NB189_214.out, NB214_189.out, NB204_214.out, NB214_204.out, (by repeat (first | (with_reducible first | exact HB.out | apply below_alloc | apply pw_below_drewN | apply below_drew1 | refine below_set ?_ (Aside0.out (by assumption))) | exact HB.out))⟩)
    rintro ⟨v206, v209, gb214⟩ w54 ⟨hS_, h0_, h1_, h2_, h3_, h4_, h5_, h6_, h7_, h8_, h9_, h10_, h11_, h12_, h13_, h14_⟩
    have n0_ : Aside0 (Kd.R k46 46 w54 w.heap.size (fun k_ => some k_ ≠ (.slice Ao45 x7_1.length co45 : Value).ownBlock) v209 y208) := ⟨h0_⟩
    have n1_ : Aside0 (Kd.R k46 46 w54 w.heap.size (fun k_ => some k_ ≠ (v209 : Value).ownBlock) (.slice Ao45 x7_1.length co45) x7_1) := ⟨h1_⟩
    have n2_ : Aside0 (w54.heap[gb188]? = some (.cells #[.int .u8 a1_0, .int .u8 a1_1, .int .u8 a1_2] 94 (0, 0))) := ⟨h2_⟩
    have n3_ : Aside0 (w54.heap[gb189]? = some (.cells #[.int .u16 a2_0, .int .u16 a2_1, .int .u16 a2_2] 105 (0, 0))) := ⟨h3_⟩
    have n4_ : Aside0 (w54.heap[gb204]? = some (.cells #[.int .i64 t202, .int .i64 t203] 41 (0, 0))) := ⟨h4_⟩
    have n5_ : Aside0 (w54.heap[gb214]? = some (.cells #[.int .i64 0, .int .i64 0] 41 (0, 0))) := ⟨h5_⟩
    have n6_ : Aside0 (w.heap.size ≤ gb214) := ⟨h6_⟩
    have n7_ : Aside0 (w.heap.size ≤ gb214) := ⟨h7_⟩
    have n8_ : Aside0 (gb188 ≠ gb214) := ⟨h8_⟩
    have n9_ : Aside0 (gb214 ≠ gb188) := ⟨h9_⟩
    have n10_ : Aside0 (gb189 ≠ gb214) := ⟨h10_⟩
    have n11_ : Aside0 (gb214 ≠ gb189) := ⟨h11_⟩
    have n12_ : Aside0 (gb204 ≠ gb214) := ⟨h12_⟩
    have n13_ : Aside0 (gb214 ≠ gb204) := ⟨h13_⟩
    have n14_ : Aside0 (Below w.heap.size w w54) := ⟨h14_⟩
    clear HO_7
    clear BK188
    clear BK189
    clear BK204
    clear HB
    clear h0_ h1_ h2_ h3_ h4_ h5_ h6_ h7_ h8_ h9_ h10_ h11_ h12_ h13_ h14_
    have HO210 := n0_
    have HO_7 := n1_
    have BK188 := n2_
    have BK189 := n3_
    have BK204 := n4_
    have BK214 := n5_
    have GW214 := n6_
    have GE214 := n7_
    have NB188_214 := n8_
    have NB214_188 := n9_
    have NB189_214 := n10_
    have NB214_189 := n11_
    have NB204_214 := n12_
    have NB214_204 := n13_
    have HB := n14_
    clear n0_ n1_ n2_ n3_ n4_ n5_ n6_ n7_ n8_ n9_ n10_ n11_ n12_ n13_ n14_
    have hHeld : w54.cell? ⟨gb204, 0, none⟩ = some (.int .i64 t202) ∧ w54.cell? ⟨gb204, 1, none⟩ = some (.int .i64 t203) := hS_
    refine norm_ (a' := ?_) ?_ ?_
    rotate_left
    ·simp only [putAll, Act.put, List.setIfInBounds_toArray, List.set_cons_zero, List.set_cons_succ]
     rfl
    refine one_ (i := 9) (N := none) #[tt, tt, tt, tt, tt, tt, tt, tt, tt, tt, ff] rfl rfl (one_of HT_.out (by kernel_rfl)) (by decide) (fun K hK => ?_)
    have hs55 : w54.cell? ⟨gb214, 0, none⟩ = some (.int .i64 0) := (blk_cell BK214.out 0).trans rfl
    have hfs55 := blk_frozen BK214.out 0
    have hns55_0 := NB188_214.out
    have hns55_1 := NB189_214.out
    have hns55_2 := NB204_214.out
    have hms55_0 := NB214_188.out
    have hms55_1 := NB214_189.out
    have hms55_2 := NB214_204.out
    have hs56 : w54.cell? ⟨gb214, 1, none⟩ = some (.int .i64 0) := (blk_cell BK214.out 1).trans rfl
    have hfs56 := blk_frozen BK214.out 1
    have hns56_0 := NB188_214.out
    have hns56_1 := NB189_214.out
    have hns56_2 := NB204_214.out
    have hms56_0 := NB214_188.out
    have hms56_1 := NB214_189.out
    have hms56_2 := NB214_204.out
    refine skip_ (w1 := ?_) (by rfl) rfl ?_ ?_
    rotate_left
    ·go_simp
     rfl
    refine hK.out _ _ ⟨((cell_far (p := ⟨gb214, _, none⟩) NB204_214.out _).trans (((cell_far (p := ⟨gb214, _, none⟩) NB204_214.out _).trans (hHeld.1)))), ((cell_far (p := ⟨gb214, _, none⟩) NB204_214.out _).trans (((cell_far (p := ⟨gb214, _, none⟩) NB204_214.out _).trans (hHeld.2))))⟩ (fun hHeld => ?_)
    clear hK K
    refine pure_ (i := 10) (N := some 13) (v := ?_) (a' := ?_) #[tt, tt, tt, tt, tt, tt, tt, tt, tt, tt, tt] rfl rfl (any_of HT_.out (by kernel_rfl)) (fun _ _ _ h => h) (Or.inl ⟨by rfl, ?_⟩) ?_ ?_
    rotate_left
    ·intro w'
     go_simp
     with_reducible rfl
    rotate_left
    ·simp only [Act.put, List.setIfInBounds_toArray, List.set_cons_zero, List.set_cons_succ, i64_w, i32_w]
     rfl
    refine done_ (done_of HT_.out (by kernel_rfl)) ?_
    go_upto_region 11 with (fail)
    go_cut [104] (fun v104 wc => ∃ (kq : Nat) (x104_36 : Bool), v104 = .bool x104_36 ∧ Aside0 (acmelaw12_MillVolumes.j2 kq x7_1 x8_1 x104_36 a1_0 a1_1 a1_2 a2_0 a2_1 a2_2 t202 t203 t211 t212 = some r) ∧ Aside0 (kq ≤ kj7) ∧ Aside0 (Kd.R k46 46 wc w.heap.size (fun _ => True) (.slice Ao45 x7_1.length co45) x7_1) ∧ Aside0 (wc.heap[gb188]? = some (.cells #[.int .u8 a1_0, .int .u8 a1_1, .int .u8 a1_2] 94 (0, 0))) ∧ Aside0 (wc.heap[gb189]? = some (.cells #[.int .u16 a2_0, .int .u16 a2_1, .int .u16 a2_2] 105 (0, 0))) ∧ Aside0 (wc.heap[gb204]? = some (.cells #[.int .i64 t202, .int .i64 t203] 41 (0, 0))) ∧ Aside0 (wc.heap[gb214]? = some (.cells #[.int .i64 t211, .int .i64 t212] 41 (0, 0))) ∧ Aside0 (Below w.heap.size w wc))
    case first => as_aux_lemma =>
     have H := HC37.out
     clear HC37
     by_cases c57 : t213 = 0
     ·rw [if_pos c57] at H
      have c57b0 : (t213 == 0) = true := beq_iff_eq.mpr c57
      have c57b1 : (t213 != 0) = false := bne_eq_false_iff_eq.mpr c57
      clear c57
      (first | rw [c57b0] | (simp only [i64_w, i32_w]; rw [c57b0]) | skip)
      by_cases c58 : t211 < 0
      ·rw [if_pos c58] at H
       have c58b0 : decide (t211 < 0) = true := decide_eq_true c58
       clear c58
       have H' := Aside0.mk H
       clear H
       have hnb59 := NB214_188.out
       have hnc59 := NB188_214.out
       have hnb60 := NB214_189.out
       have hnc60 := NB189_214.out
       have hnb61 := NB214_204.out
       have hnc61 := NB204_214.out
       obtain ⟨hcz62_0, hcz62_1⟩ := bc2 BK214.out
       obtain ⟨hfz62_0, hfz62_1⟩ := bf2 BK214.out
       go_wp2
       go_meet
       case rel => exact ⟨_, (true), (by first | rfl | (simp; done) | (simp [*]; done)), H', ⟨by have := HK1.out; have := HJ7.out; first | omega | exact Nat.le_refl _⟩, ⟨by (with_reducible repeat (first | apply Kd.R_alloc | apply Kd.R_drewN | apply Kd.R_drew)); exact Kd.R_mono (Kd.R_far (p := ⟨gb214, 1, none⟩) (Kd.R_far (p := ⟨gb214, 0, none⟩) (Kd.R_types HO_7.out BK214.out (by decide)) (fun _ hk => hk.2) (.int .i64 t211)) (fun _ hk => hk.2) (.int .i64 t212)) (fun _ hk => trivial)⟩, ⟨by repeat (first | (with_reducible first | exact BK188.out | refine blk_drewN ?_ _ | refine blk_drew ?_ | refine blk_alloc ?_ _) | refine blk_far ?_ NB188_214.out _ | exact BK188.out)⟩, ⟨by repeat (first | (with_reducible first | exact BK189.out | refine blk_drewN ?_ _ | refine blk_drew ?_ | refine blk_alloc ?_ _) | refine blk_far ?_ NB189_214.out _ | exact BK189.out)⟩, ⟨by repeat (first | (with_reducible first | exact BK204.out | refine blk_drewN ?_ _ | refine blk_drew ?_ | refine blk_alloc ?_ _) | refine blk_far ?_ NB204_214.out _ | exact BK204.out)⟩, ⟨by exact bto (bput (bput (BK214.out) _ _) _ _) rfl⟩, ⟨by repeat (first | (with_reducible first | exact HB.out | apply below_alloc | apply pw_below_drewN | apply below_drew1 | refine below_set ?_ (Aside0.out (by assumption))) | exact HB.out)⟩⟩
      rw [if_neg c58] at H
      have c58b0 : decide (t211 < 0) = false := decide_eq_false c58
      clear c58
      have H' := Aside0.mk H
      clear H
      have hnb63 := NB214_188.out
      have hnc63 := NB188_214.out
      have hnb64 := NB214_189.out
      have hnc64 := NB189_214.out
      have hnb65 := NB214_204.out
      have hnc65 := NB204_214.out
      obtain ⟨hcz66_0, hcz66_1⟩ := bc2 BK214.out
      obtain ⟨hfz66_0, hfz66_1⟩ := bf2 BK214.out
      go_wp2
      go_meet
      case rel => exact ⟨_, (decide (t211 > t212)), (by first | rfl | (simp; done) | (simp [*]; done)), H', ⟨by have := HK1.out; have := HJ7.out; first | omega | exact Nat.le_refl _⟩, ⟨by (with_reducible repeat (first | apply Kd.R_alloc | apply Kd.R_drewN | apply Kd.R_drew)); exact Kd.R_mono (Kd.R_far (p := ⟨gb214, 1, none⟩) (Kd.R_far (p := ⟨gb214, 0, none⟩) (Kd.R_types HO_7.out BK214.out (by decide)) (fun _ hk => hk.2) (.int .i64 t211)) (fun _ hk => hk.2) (.int .i64 t212)) (fun _ hk => trivial)⟩, ⟨by repeat (first | (with_reducible first | exact BK188.out | refine blk_drewN ?_ _ | refine blk_drew ?_ | refine blk_alloc ?_ _) | refine blk_far ?_ NB188_214.out _ | exact BK188.out)⟩, ⟨by repeat (first | (with_reducible first | exact BK189.out | refine blk_drewN ?_ _ | refine blk_drew ?_ | refine blk_alloc ?_ _) | refine blk_far ?_ NB189_214.out _ | exact BK189.out)⟩, ⟨by repeat (first | (with_reducible first | exact BK204.out | refine blk_drewN ?_ _ | refine blk_drew ?_ | refine blk_alloc ?_ _) | refine blk_far ?_ NB204_214.out _ | exact BK204.out)⟩, ⟨by exact bto (bput (bput (BK214.out) _ _) _ _) rfl⟩, ⟨by repeat (first | (with_reducible first | exact HB.out | apply below_alloc | apply pw_below_drewN | apply below_drew1 | refine below_set ?_ (Aside0.out (by assumption))) | exact HB.out)⟩⟩
     rw [if_neg c57] at H
     have c57b0 : (t213 == 0) = false := beq_eq_false_iff_ne.mpr c57
     have c57b1 : (t213 != 0) = true := bne_iff_ne.mpr c57
     (first | rw [c57b0] | (simp only [i64_w, i32_w]; rw [c57b0]) | skip)
     have H' := Aside0.mk H
     clear H
     go_wp2
     go_meet
     case rel => exact ⟨_, (true), (by first | rfl | (simp; done) | (simp [*]; done)), H', ⟨by have := HK1.out; have := HJ7.out; first | omega | exact Nat.le_refl _⟩, ⟨by (with_reducible repeat (first | apply Kd.R_alloc | apply Kd.R_drewN | apply Kd.R_drew)); exact Kd.R_mono (Kd.R_far (p := ⟨gb214, 1, none⟩) (Kd.R_far (p := ⟨gb214, 0, none⟩) (Kd.R_types HO_7.out BK214.out (by decide)) (fun _ hk => hk.2) (.int .i64 t211)) (fun _ hk => hk.2) (.int .i64 t212)) (fun _ hk => trivial)⟩, ⟨by repeat (first | (with_reducible first | exact BK188.out | refine blk_drewN ?_ _ | refine blk_drew ?_ | refine blk_alloc ?_ _) | refine blk_far ?_ NB188_214.out _ | exact BK188.out)⟩, ⟨by repeat (first | (with_reducible first | exact BK189.out | refine blk_drewN ?_ _ | refine blk_drew ?_ | refine blk_alloc ?_ _) | refine blk_far ?_ NB189_214.out _ | exact BK189.out)⟩, ⟨by repeat (first | (with_reducible first | exact BK204.out | refine blk_drewN ?_ _ | refine blk_drew ?_ | refine blk_alloc ?_ _) | refine blk_far ?_ NB204_214.out _ | exact BK204.out)⟩, ⟨by exact bto (bput (bput (BK214.out) _ _) _ _) rfl⟩, ⟨by repeat (first | (with_reducible first | exact HB.out | apply below_alloc | apply pw_below_drewN | apply below_drew1 | refine below_set ?_ (Aside0.out (by assumption))) | exact HB.out)⟩⟩
    case rest => as_aux_lemma =>
     clear HC37
     try clear c2; try clear p2; try clear c3; try clear c5; try clear c6; try clear c23; try clear c35; try clear c57; try clear c57b0; try clear c57b1; try clear c58; try clear c58b0; try clear c59; try clear c60; try clear c61; try clear c63; try clear c64; try clear c65; try clear hcz62_0; try clear hcz62_1; try clear hcz66_0; try clear hcz66_1; try clear hfz62_0; try clear hfz62_1; try clear hfz66_0; try clear hfz66_1
     obtain ⟨kq, x104_36, rfl, HA, HJ36, HO_7, BK188, BK189, BK204, BK214, HB⟩ := hcut
     obtain _ | kj36 := kq
     ·exact absurd HA.out (by simp [acmelaw12_MillVolumes.j2])
     have H := HA.out
     clear HA
     simp only [acmelaw12_MillVolumes.j2] at H
     by_cases c67 : x104_36 = true
     ·subst c67
      have H1 : (none) = some r := by rw [if_pos rfl] at H; exact H
      clear H
      have H := H1
      clear H1
      exact absurd H (by simp)
     replace c67 := Bool.eq_false_iff.mpr c67
     subst c67
     have H1 : (if (wrap64 ((wrap64 (t203 - t202)) + 1)) = 0 then (none) else (if t212 > 1099511627776 then (acmelaw12_MillVolumes.j3 kj36 x7_1 x8_1 (wrap64 (t202 + (Int.tmod (wrap64 (a1_2)) (wrap64 ((wrap64 (t203 - t202)) + 1))))) true a2_0 a2_1 a2_2 t202 t203 t211 t212) else (if (wrap64 ((wrap64 ((wrap64 (t202 + (Int.tmod (wrap64 (a1_2)) (wrap64 ((wrap64 (t203 - t202)) + 1))))) * (wrap64 (t202 + (Int.tmod (wrap64 (a1_2)) (wrap64 ((wrap64 (t203 - t202)) + 1))))))) * t212)) < x8_1 then (acmelaw12_MillVolumes.j3 kj36 x7_1 x8_1 (wrap64 (t202 + (Int.tmod (wrap64 (a1_2)) (wrap64 ((wrap64 (t203 - t202)) + 1))))) true a2_0 a2_1 a2_2 t202 t203 t211 t212) else (if t211 > 0 then (acmelaw12_MillVolumes.j3 kj36 x7_1 x8_1 (wrap64 (t202 + (Int.tmod (wrap64 (a1_2)) (wrap64 ((wrap64 (t203 - t202)) + 1))))) (decide ((wrap64 ((wrap64 ((wrap64 (t202 + (Int.tmod (wrap64 (a1_2)) (wrap64 ((wrap64 (t203 - t202)) + 1))))) * (wrap64 (t202 + (Int.tmod (wrap64 (a1_2)) (wrap64 ((wrap64 (t203 - t202)) + 1))))))) * (wrap64 (t211 - 1)))) ≥ x8_1)) a2_0 a2_1 a2_2 t202 t203 t211 t212) else (acmelaw12_MillVolumes.j3 kj36 x7_1 x8_1 (wrap64 (t202 + (Int.tmod (wrap64 (a1_2)) (wrap64 ((wrap64 (t203 - t202)) + 1))))) false a2_0 a2_1 a2_2 t202 t203 t211 t212))))) = some r := by rw [if_neg (show ¬ (false = true) by decide)] at H; exact H
     clear H
     have H := H1
     clear H1
     by_cases c68 : (wrap64 ((wrap64 (t203 - t202)) + 1)) = 0
     ·rw [if_pos c68] at H
      exact absurd H (by simp)
     rw [if_neg c68] at H
     have c68b0 : ((wrap64 ((wrap64 (t203 - t202)) + 1)) == 0) = false := beq_eq_false_iff_ne.mpr c68
     have c68b1 : ((wrap64 ((wrap64 (t203 - t202)) + 1)) != 0) = true := bne_iff_ne.mpr c68
     have HC69 := Aside0.mk H
     clear H
     try go_wp2
     replace HO_7 := Aside0.mk (Kd.R_drew HO_7.out)
     replace BK188 := Aside0.mk (blk_drew BK188.out)
     replace BK189 := Aside0.mk (blk_drew BK189.out)
     replace BK204 := Aside0.mk (blk_drew BK204.out)
     replace BK214 := Aside0.mk (blk_drew BK214.out)
     replace HB := Aside0.mk (below_drew1 HB.out)
     refine start_ (n := 14) (S := fun w' => w'.cell? ⟨gb204, 0, none⟩ = some (.int .i64 t202) ∧ w'.cell? ⟨gb204, 1, none⟩ = some (.int .i64 t203) ∧ w'.cell? ⟨gb188, 0, none⟩ = some (.int .u8 a1_0) ∧ w'.cell? ⟨gb188, 1, none⟩ = some (.int .u8 a1_1) ∧ w'.cell? ⟨gb188, 2, none⟩ = some (.int .u8 a1_2)) (ds := []) #[ff, ff, ff, ff, ff, ff, ff, ff, ff, ff, ff, ff, ff, ff] (by kernel_rfl) rfl rfl ⟨(blk_cell BK204.out 0).trans rfl, (blk_cell BK204.out 1).trans rfl, (blk_cell BK188.out 0).trans rfl, (blk_cell BK188.out 1).trans rfl, (blk_cell BK188.out 2).trans rfl⟩ (fun hHeld => ?_); refine with_tabW acmelaw12_MillVolumes.tab13 acmelaw12_MillVolumes.bits13 (fun HT_ HW_ => ?_)
     generalize wc.drew = w70 at HO_7 BK188 BK189 BK204 BK214 HB hHeld ⊢
     refine pure_ (i := 0) (N := some 105) (v := ?_) (a' := ?_) #[tt, ff, ff, ff, ff, ff, ff, ff, ff, ff, ff, ff, ff, ff] rfl rfl (any_of HT_.out (by kernel_rfl)) (fun _ _ _ h => h) (Or.inl ⟨by rfl, ?_⟩) ?_ ?_
     rotate_left
     ·intro w'
      go_simp
      with_reducible rfl
     rotate_left
     ·simp only [Act.put, List.setIfInBounds_toArray, List.set_cons_zero, List.set_cons_succ, i64_w, i32_w]
      rfl
     refine pure_ (i := 2) (N := some 107) (v := ?_) (a' := ?_) #[tt, ff, tt, ff, ff, ff, ff, ff, ff, ff, ff, ff, ff, ff] rfl rfl (any_of HT_.out (by kernel_rfl)) (fun _ _ _ h => h) (Or.inl ⟨by rfl, ?_⟩) ?_ ?_
     rotate_left
     ·intro w'
      go_simp
      with_reducible rfl
     rotate_left
     ·simp only [Act.put, List.setIfInBounds_toArray, List.set_cons_zero, List.set_cons_succ, i64_w, i32_w]
      rfl
     refine pure_ (i := 5) (N := some 110) (v := ?_) (a' := ?_) #[tt, ff, tt, ff, ff, tt, ff, ff, ff, ff, ff, ff, ff, ff] rfl rfl (any_of HT_.out (by kernel_rfl)) (fun _ _ _ h => h) (Or.inl ⟨by rfl, ?_⟩) ?_ ?_
     rotate_left
     ·intro w'
      go_simp
      with_reducible rfl
     rotate_left
     ·simp only [Act.put, List.setIfInBounds_toArray, List.set_cons_zero, List.set_cons_succ, i64_w, i32_w]
      rfl
     refine pure_ (i := 7) (N := some 112) (v := ?_) (a' := ?_) #[tt, ff, tt, ff, ff, tt, ff, tt, ff, ff, ff, ff, ff, ff] rfl rfl (any_of HT_.out (by kernel_rfl)) (fun _ _ _ h => h) (Or.inl ⟨by rfl, ?_⟩) ?_ ?_
     rotate_left
     ·intro w'
      go_simp
      with_reducible rfl
     rotate_left
     ·simp only [Act.put, List.setIfInBounds_toArray, List.set_cons_zero, List.set_cons_succ, i64_w, i32_w]
      rfl
     refine take_ (i := 1) (N := some 106) (v := ?_) (a' := ?_) #[tt, tt, tt, ff, ff, tt, ff, tt, ff, ff, ff, ff, ff, ff] rfl rfl (take_ofW HT_.out HW_.out (by kernel_rfl)) (fun _ _ _ h => h) (Or.inl ⟨by rfl, ?_⟩) hHeld ?_ ?_
     rotate_left
     ·rintro w' ⟨s0, s1, s2, s3, s4⟩
      go_simp
      with_reducible rfl
     rotate_left
     ·simp only [Act.put, List.setIfInBounds_toArray, List.set_cons_zero, List.set_cons_succ, i64_w, i32_w]
      rfl
     refine take_ (i := 3) (N := some 108) (v := ?_) (a' := ?_) #[tt, tt, tt, tt, ff, tt, ff, tt, ff, ff, ff, ff, ff, ff] rfl rfl (take_ofW HT_.out HW_.out (by kernel_rfl)) (fun _ _ _ h => h) (Or.inl ⟨by rfl, ?_⟩) hHeld ?_ ?_
     rotate_left
     ·rintro w' ⟨s0, s1, s2, s3, s4⟩
      go_simp
      with_reducible rfl
     rotate_left
     ·simp only [Act.put, List.setIfInBounds_toArray, List.set_cons_zero, List.set_cons_succ, i64_w, i32_w]
      rfl
     refine pure_ (i := 4) (N := some 109) (v := ?_) (a' := ?_) #[tt, tt, tt, tt, tt, tt, ff, tt, ff, ff, ff, ff, ff, ff] rfl rfl (any_of HT_.out (by kernel_rfl)) (fun _ _ _ h => h) (Or.inl ⟨by rfl, ?_⟩) ?_ ?_
     rotate_left
     ·intro w'
      go_simp
      with_reducible rfl
     rotate_left
     ·simp only [Act.put, List.setIfInBounds_toArray, List.set_cons_zero, List.set_cons_succ, i64_w, i32_w]
      rfl
     refine take_ (i := 6) (N := some 111) (v := ?_) (a' := ?_) #[tt, tt, tt, tt, tt, tt, tt, tt, ff, ff, ff, ff, ff, ff] rfl rfl (take_ofW HT_.out HW_.out (by kernel_rfl)) (fun _ _ _ h => h) (Or.inl ⟨by rfl, ?_⟩) hHeld ?_ ?_
     rotate_left
     ·rintro w' ⟨s0, s1, s2, s3, s4⟩
      go_simp
      with_reducible rfl
     rotate_left
     ·simp only [Act.put, List.setIfInBounds_toArray, List.set_cons_zero, List.set_cons_succ, i64_w, i32_w]
      rfl
     refine take_ (i := 8) (N := some 113) (v := ?_) (a' := ?_) #[tt, tt, tt, tt, tt, tt, tt, tt, tt, ff, ff, ff, ff, ff] rfl rfl (take_ofW HT_.out HW_.out (by kernel_rfl)) (fun _ _ _ h => h) (Or.inl ⟨by rfl, ?_⟩) hHeld ?_ ?_
     rotate_left
     ·rintro w' ⟨s0, s1, s2, s3, s4⟩
      go_simp
      with_reducible rfl
     rotate_left
     ·simp only [Act.put, List.setIfInBounds_toArray, List.set_cons_zero, List.set_cons_succ, i64_w, i32_w]
      rfl
     refine pure_ (i := 9) (N := some 114) (v := ?_) (a' := ?_) #[tt, tt, tt, tt, tt, tt, tt, tt, tt, tt, ff, ff, ff, ff] rfl rfl (any_of HT_.out (by kernel_rfl)) (fun _ _ _ h => h) (Or.inl ⟨by rfl, ?_⟩) ?_ ?_
     rotate_left
     ·intro w'
      go_simp
      with_reducible rfl
     rotate_left
     ·simp only [Act.put, List.setIfInBounds_toArray, List.set_cons_zero, List.set_cons_succ, i64_w, i32_w]
      rfl
     refine pure_ (i := 10) (N := some 115) (v := ?_) (a' := ?_) #[tt, tt, tt, tt, tt, tt, tt, tt, tt, tt, tt, ff, ff, ff] rfl rfl (any_of HT_.out (by kernel_rfl)) (fun _ _ _ h => h) (Or.inl ⟨by rfl, ?_⟩) ?_ ?_
     rotate_left
     ·intro w'
      go_simp
      with_reducible rfl
     rotate_left
     ·simp only [Act.put, List.setIfInBounds_toArray, List.set_cons_zero, List.set_cons_succ, i64_w, i32_w]
      rfl
     refine pure_ (i := 11) (N := some 116) (v := ?_) (a' := ?_) #[tt, tt, tt, tt, tt, tt, tt, tt, tt, tt, tt, tt, ff, ff] rfl rfl (any_of HT_.out (by kernel_rfl)) (fun _ _ _ h => h) (Or.inl ⟨by rfl, ?_⟩) ?_ ?_
     rotate_left
     ·intro w'
      go_simp
      with_reducible rfl
     rotate_left
     ·simp only [Act.put, List.setIfInBounds_toArray, List.set_cons_zero, List.set_cons_succ, i64_w, i32_w]
      rfl
     refine pure_ (i := 12) (N := some 117) (v := ?_) (a' := ?_) #[tt, tt, tt, tt, tt, tt, tt, tt, tt, tt, tt, tt, tt, ff] rfl rfl (any_of HT_.out (by kernel_rfl)) (fun _ _ _ h => h) (Or.inl ⟨by rfl, ?_⟩) ?_ ?_
     rotate_left
     ·intro w'
      go_simp
      with_reducible rfl
     rotate_left
     ·simp only [Act.put, List.setIfInBounds_toArray, List.set_cons_zero, List.set_cons_succ, i64_w, i32_w]
      rfl
     refine pure_ (i := 13) (N := some 14) (v := ?_) (a' := ?_) #[tt, tt, tt, tt, tt, tt, tt, tt, tt, tt, tt, tt, tt, tt] rfl rfl (any_of HT_.out (by kernel_rfl)) (fun _ _ _ h => h) (Or.inl ⟨by rfl, ?_⟩) ?_ ?_
     rotate_left
     ·intro w'
      go_simp
      with_reducible rfl
     rotate_left
     ·simp only [Act.put, List.setIfInBounds_toArray, List.set_cons_zero, List.set_cons_succ, i64_w, i32_w]
      rfl
     refine done_ (done_of HT_.out (by kernel_rfl)) ?_
     go_upto_region 14 with (fail)
     go_cut [146] (fun v146 wc => ∃ (kq : Nat) (x146_68 : Bool), v146 = .bool x146_68 ∧ Aside0 (acmelaw12_MillVolumes.j3 kq x7_1 x8_1 (wrap64 (t202 + (Int.tmod (wrap64 (a1_2)) (wrap64 ((wrap64 (t203 - t202)) + 1))))) x146_68 a2_0 a2_1 a2_2 t202 t203 t211 t212 = some r) ∧ Aside0 (kq ≤ kj36) ∧ Aside0 (Kd.R k46 46 wc w.heap.size (fun _ => True) (.slice Ao45 x7_1.length co45) x7_1) ∧ Aside0 (wc.heap[gb188]? = some (.cells #[.int .u8 a1_0, .int .u8 a1_1, .int .u8 a1_2] 94 (0, 0))) ∧ Aside0 (wc.heap[gb189]? = some (.cells #[.int .u16 a2_0, .int .u16 a2_1, .int .u16 a2_2] 105 (0, 0))) ∧ Aside0 (wc.heap[gb204]? = some (.cells #[.int .i64 t202, .int .i64 t203] 41 (0, 0))) ∧ Aside0 (wc.heap[gb214]? = some (.cells #[.int .i64 t211, .int .i64 t212] 41 (0, 0))) ∧ Aside0 (Below w.heap.size w wc))
     case first => as_aux_lemma =>
      have H := HC69.out
      clear HC69
      by_cases c71 : t212 > 1099511627776
      ·rw [if_pos c71] at H
       have c71b0 : decide (1099511627776 < t212) = true := decide_eq_true c71
       clear c71
       (first | rw [c71b0] | (simp only [i64_w, i32_w]; rw [c71b0]) | skip)
       have H' := Aside0.mk H
       clear H
       have hnb72 := NB214_188.out
       have hnc72 := NB188_214.out
       have hnb73 := NB214_189.out
       have hnc73 := NB189_214.out
       have hnb74 := NB214_204.out
       have hnc74 := NB204_214.out
       obtain ⟨hcz75_0, hcz75_1⟩ := bc2 BK214.out
       obtain ⟨hfz75_0, hfz75_1⟩ := bf2 BK214.out
       go_wp2
       go_meet
       case rel => exact ⟨_, (true), (by first | rfl | (simp; done) | (simp [*]; done)), H', ⟨by have := HK1.out; have := HJ7.out; have := HJ36.out; first | omega | exact Nat.le_refl _⟩, ⟨by (with_reducible repeat (first | apply Kd.R_alloc | apply Kd.R_drewN | apply Kd.R_drew)); exact HO_7.out⟩, BK188, BK189, BK204, BK214, ⟨by repeat (first | (with_reducible first | exact HB.out | apply below_alloc | apply pw_below_drewN | apply below_drew1 | refine below_set ?_ (Aside0.out (by assumption))) | exact HB.out)⟩⟩
      rw [if_neg c71] at H
      have c71b0 : decide (1099511627776 < t212) = false := decide_eq_false c71
      clear c71
      (first | rw [c71b0] | (simp only [i64_w, i32_w]; rw [c71b0]) | skip)
      by_cases c76 : (wrap64 ((wrap64 ((wrap64 (t202 + (Int.tmod (wrap64 (a1_2)) (wrap64 ((wrap64 (t203 - t202)) + 1))))) * (wrap64 (t202 + (Int.tmod (wrap64 (a1_2)) (wrap64 ((wrap64 (t203 - t202)) + 1))))))) * t212)) < x8_1
      ·rw [if_pos c76] at H
       have c76b0 : decide ((wrap64 ((wrap64 ((wrap64 (t202 + (Int.tmod (wrap64 (a1_2)) (wrap64 ((wrap64 (t203 - t202)) + 1))))) * (wrap64 (t202 + (Int.tmod (wrap64 (a1_2)) (wrap64 ((wrap64 (t203 - t202)) + 1))))))) * t212)) < x8_1) = true := decide_eq_true c76
       clear c76
       have H' := Aside0.mk H
       clear H
       have hnb77 := NB214_188.out
       have hnc77 := NB188_214.out
       have hnb78 := NB214_189.out
       have hnc78 := NB189_214.out
       have hnb79 := NB214_204.out
       have hnc79 := NB204_214.out
       obtain ⟨hcz80_0, hcz80_1⟩ := bc2 BK214.out
       obtain ⟨hfz80_0, hfz80_1⟩ := bf2 BK214.out
       go_wp2
       go_meet
       case rel => exact ⟨_, (true), (by first | rfl | (simp; done) | (simp [*]; done)), H', ⟨by have := HK1.out; have := HJ7.out; have := HJ36.out; first | omega | exact Nat.le_refl _⟩, ⟨by (with_reducible repeat (first | apply Kd.R_alloc | apply Kd.R_drewN | apply Kd.R_drew)); exact HO_7.out⟩, BK188, BK189, BK204, BK214, ⟨by repeat (first | (with_reducible first | exact HB.out | apply below_alloc | apply pw_below_drewN | apply below_drew1 | refine below_set ?_ (Aside0.out (by assumption))) | exact HB.out)⟩⟩
      rw [if_neg c76] at H
      have c76b0 : decide ((wrap64 ((wrap64 ((wrap64 (t202 + (Int.tmod (wrap64 (a1_2)) (wrap64 ((wrap64 (t203 - t202)) + 1))))) * (wrap64 (t202 + (Int.tmod (wrap64 (a1_2)) (wrap64 ((wrap64 (t203 - t202)) + 1))))))) * t212)) < x8_1) = false := decide_eq_false c76
      clear c76
      by_cases c81 : t211 > 0
      ·rw [if_pos c81] at H
       have c81b0 : decide (0 < t211) = true := decide_eq_true c81
       clear c81
       have H' := Aside0.mk H
       clear H
       have hnb82 := NB214_188.out
       have hnc82 := NB188_214.out
       have hnb83 := NB214_189.out
       have hnc83 := NB189_214.out
       have hnb84 := NB214_204.out
       have hnc84 := NB204_214.out
       obtain ⟨hcz85_0, hcz85_1⟩ := bc2 BK214.out
       obtain ⟨hfz85_0, hfz85_1⟩ := bf2 BK214.out
       go_wp2
       go_meet
       case rel => exact ⟨_, (decide ((wrap64 ((wrap64 ((wrap64 (t202 + (Int.tmod (wrap64 (a1_2)) (wrap64 ((wrap64 (t203 - t202)) + 1))))) * (wrap64 (t202 + (Int.tmod (wrap64 (a1_2)) (wrap64 ((wrap64 (t203 - t202)) + 1))))))) * (wrap64 (t211 - 1)))) ≥ x8_1)), (by first | rfl | (simp; done) | (simp [*]; done)), H', ⟨by have := HK1.out; have := HJ7.out; have := HJ36.out; first | omega | exact Nat.le_refl _⟩, ⟨by (with_reducible repeat (first | apply Kd.R_alloc | apply Kd.R_drewN | apply Kd.R_drew)); exact HO_7.out⟩, BK188, BK189, BK204, BK214, ⟨by repeat (first | (with_reducible first | exact HB.out | apply below_alloc | apply pw_below_drewN | apply below_drew1 | refine below_set ?_ (Aside0.out (by assumption))) | exact HB.out)⟩⟩
      rw [if_neg c81] at H
      have c81b0 : decide (0 < t211) = false := decide_eq_false c81
      clear c81
      have H' := Aside0.mk H
      clear H
      have hnb86 := NB214_188.out
      have hnc86 := NB188_214.out
      have hnb87 := NB214_189.out
      have hnc87 := NB189_214.out
      have hnb88 := NB214_204.out
      have hnc88 := NB204_214.out
      obtain ⟨hcz89_0, hcz89_1⟩ := bc2 BK214.out
      obtain ⟨hfz89_0, hfz89_1⟩ := bf2 BK214.out
      go_wp2
      go_meet
      case rel => exact ⟨_, (false), (by first | rfl | (simp; done) | (simp [*]; done)), H', ⟨by have := HK1.out; have := HJ7.out; have := HJ36.out; first | omega | exact Nat.le_refl _⟩, ⟨by (with_reducible repeat (first | apply Kd.R_alloc | apply Kd.R_drewN | apply Kd.R_drew)); exact HO_7.out⟩, BK188, BK189, BK204, BK214, ⟨by repeat (first | (with_reducible first | exact HB.out | apply below_alloc | apply pw_below_drewN | apply below_drew1 | refine below_set ?_ (Aside0.out (by assumption))) | exact HB.out)⟩⟩
     case rest => as_aux_lemma =>
      clear HC69
      try clear c2; try clear p2; try clear c3; try clear c5; try clear c6; try clear p6; try clear c7; try clear c8; try clear c23; try clear c35; try clear c57; try clear c57b0; try clear c57b1; try clear c58; try clear c58b0; try clear c59; try clear c60; try clear c61; try clear c63; try clear c64; try clear p64; try clear c65; try clear c67; try clear c68; try clear c68b0; try clear c68b1; try clear c71; try clear c71b0; try clear c72; try clear c73; try clear c74; try clear c76; try clear c76b0; try clear c77; try clear c78; try clear c79; try clear c81; try clear c81b0; try clear c82; try clear c83; try clear c84; try clear c86; try clear c87; try clear c88; try clear hcz62_0; try clear hcz62_1; try clear hcz66_0; try clear hcz66_1; try clear hcz75_0; try clear hcz75_1; try clear hcz80_0; try clear hcz80_1; try clear hcz85_0; try clear hcz85_1; try clear hcz89_0; try clear hcz89_1; try clear hfz62_0; try clear hfz62_1; try clear hfz66_0; try clear hfz66_1; try clear hfz75_0; try clear hfz75_1; try clear hfz80_0; try clear hfz80_1; try clear hfz85_0; try clear hfz85_1; try clear hfz89_0; try clear hfz89_1; try clear p2
      obtain ⟨kq, x146_68, rfl, HA, HJ68, HO_7, BK188, BK189, BK204, BK214, HB⟩ := hcut
      obtain _ | kj68 := kq
      ·exact absurd HA.out (by simp [acmelaw12_MillVolumes.j3])
      have H := HA.out
      clear HA
      simp only [acmelaw12_MillVolumes.j3] at H
      by_cases c90 : x146_68 = true
      ·subst c90
       have H1 : (none) = some r := by rw [if_pos rfl] at H; exact H
       clear H
       have H := H1
       clear H1
       exact absurd H (by simp)
      replace c90 := Bool.eq_false_iff.mpr c90
      subst c90
      have H1 : ((acmelaw12_span.f (wrap64 (1 + (wrap64 (a2_0)))) (wrap64 ((wrap64 (1 + (wrap64 (a2_0)))) + (wrap64 (a2_1))))).bind fun bt215 => (if (Int.tmod a2_2 2) = 0 then (acmelaw12_MillVolumes.j4 kj68 x7_1 x8_1 (wrap64 (t202 + (Int.tmod (wrap64 (a1_2)) (wrap64 ((wrap64 (t203 - t202)) + 1))))) (decide (t212 ≤ 10000000)) a2_0 a2_1 a2_2 t202 t203 t211 t212 bt215.1 bt215.2) else (acmelaw12_MillVolumes.j4 kj68 x7_1 x8_1 (wrap64 (t202 + (Int.tmod (wrap64 (a1_2)) (wrap64 ((wrap64 (t203 - t202)) + 1))))) false a2_0 a2_1 a2_2 t202 t203 t211 t212 bt215.1 bt215.2))) = some r := by rw [if_neg (show ¬ (false = true) by decide)] at H; exact H
      clear H
      have H := H1
      clear H1
      replace H := Option.bind_eq_some_iff.mp H
      obtain ⟨⟨t215, t216⟩, A910, H⟩ := H; (try dsimp only at H)
      have A91 := Aside0.mk A910
      clear A910
      have HC92 := Aside0.mk H
      clear H
      have hnb93 := NB189_188.out
      have hnc93 := NB188_189.out
      have hnb94 := NB189_204.out
      have hnc94 := NB204_189.out
      have hnb95 := NB189_214.out
      have hnc95 := NB214_189.out
      obtain ⟨hcz96_0, hcz96_1, hcz96_2⟩ := bc3 BK189.out
      obtain ⟨hfz96_0, hfz96_1, hfz96_2⟩ := bf3 BK189.out
      go_upto_region 17 with (first | ((with_reducible refine gate_callee (f := 27) rfl ?_); refine goesL_ (some 159) rfl rfl Try.func27 (by kernel_rfl) rfl #[.int .i64 (wrap64 (1 + (wrap64 (a2_0)))), .int .i64 (wrap64 ((wrap64 (1 + (wrap64 (a2_0)))) + (wrap64 (a2_1))))] rfl (by (try simp only [List.map_toArray, List.map_cons, List.map_nil]); first | done | rfl | (simp only [List.length_drop, List.length_take]; rfl)) ?_; (with_reducible refine (acmelaw12_span.calls (wrap64 (1 + (wrap64 (a2_0)))) (wrap64 ((wrap64 (1 + (wrap64 (a2_0)))) + (wrap64 (a2_1)))) t215 t216 _ A91.out).mono ?_); rintro e w97 ⟨rfl, hb⟩; refine ⟨_, rfl, ?_⟩; replace HO_7 := Aside0.mk (Kd.R_below (by (with_reducible repeat (first | apply Kd.R_alloc | apply Kd.R_drewN | apply Kd.R_drew)); exact HO_7.out) hb); replace BK188 := Aside0.mk (blk_below (by repeat (first | (with_reducible first | exact BK188.out | refine blk_drewN ?_ _ | refine blk_drew ?_ | refine blk_alloc ?_ _) | exact BK188.out)) hb); replace BK189 := Aside0.mk (blk_below (by repeat (first | (with_reducible first | exact BK189.out | refine blk_drewN ?_ _ | refine blk_drew ?_ | refine blk_alloc ?_ _) | exact BK189.out)) hb); replace BK204 := Aside0.mk (blk_below (by repeat (first | (with_reducible first | exact BK204.out | refine blk_drewN ?_ _ | refine blk_drew ?_ | refine blk_alloc ?_ _) | exact BK204.out)) hb); replace BK214 := Aside0.mk (blk_below (by repeat (first | (with_reducible first | exact BK214.out | refine blk_drewN ?_ _ | refine blk_drew ?_ | refine blk_alloc ?_ _) | exact BK214.out)) hb); replace HB := Aside0.mk (below_step (by repeat (first | (with_reducible first | exact HB.out | apply below_alloc | apply pw_below_drewN | apply below_drew1 | refine below_set ?_ (Aside0.out (by assumption))) | exact HB.out)) hb); (try clear hb); (try clear hb2); (try clear hk); (try clear hi)) | ((with_reducible refine gate_dst (N := 15) rfl ?_); (try (refine gate_guard (by rfl) ?_; dsimp only)); refine box_event ?hg (N := 15) ?hd (cs := #[.int .i64 0, .int .i64 0]) (t := 41) ?hr ?_; (case hd => rfl); (case hg => rfl); (case hr => first | (go_simp; done) | (go_simp; rfl)); intro gb217 hg w98 hbox hb; replace HO_7 := Aside0.mk (Kd.R_below (by (with_reducible repeat (first | apply Kd.R_alloc | apply Kd.R_drewN | apply Kd.R_drew)); exact HO_7.out) hb); have BK217 := Aside0.mk (hbox); have GW217 := Aside0.mk ((by rw [hg]; exact (below_size (by repeat (first | (with_reducible first | exact HB.out | apply below_alloc | apply pw_below_drewN | apply below_drew1 | refine below_set ?_ (Aside0.out (by assumption))) | exact HB.out))) : w.heap.size ≤ gb217)); have GE217 := GW217; replace HB := Aside0.mk (below_step (by repeat (first | (with_reducible first | exact HB.out | apply below_alloc | apply pw_below_drewN | apply below_drew1 | refine below_set ?_ (Aside0.out (by assumption))) | exact HB.out)) hb); have NB188_217 := Aside0.mk ((by rw [hg]; exact Nat.ne_of_lt (blk_lt BK188.out) : gb188 ≠ gb217)); have NB217_188 := Aside0.mk ((by rw [hg]; exact Nat.ne_of_gt (blk_lt BK188.out) : gb217 ≠ gb188)); replace BK188 := Aside0.mk (blk_below (by repeat (first | (with_reducible first | exact BK188.out | refine blk_drewN ?_ _ | refine blk_drew ?_ | refine blk_alloc ?_ _) | exact BK188.out)) hb); have NB189_217 := Aside0.mk ((by rw [hg]; exact Nat.ne_of_lt (blk_lt BK189.out) : gb189 ≠ gb217)); have NB217_189 := Aside0.mk ((by rw [hg]; exact Nat.ne_of_gt (blk_lt BK189.out) : gb217 ≠ gb189)); replace BK189 := Aside0.mk (blk_below (by repeat (first | (with_reducible first | exact BK189.out | refine blk_drewN ?_ _ | refine blk_drew ?_ | refine blk_alloc ?_ _) | exact BK189.out)) hb); have NB204_217 := Aside0.mk ((by rw [hg]; exact Nat.ne_of_lt (blk_lt BK204.out) : gb204 ≠ gb217)); have NB217_204 := Aside0.mk ((by rw [hg]; exact Nat.ne_of_gt (blk_lt BK204.out) : gb217 ≠ gb204)); replace BK204 := Aside0.mk (blk_below (by repeat (first | (with_reducible first | exact BK204.out | refine blk_drewN ?_ _ | refine blk_drew ?_ | refine blk_alloc ?_ _) | exact BK204.out)) hb); have NB214_217 := Aside0.mk ((by rw [hg]; exact Nat.ne_of_lt (blk_lt BK214.out) : gb214 ≠ gb217)); have NB217_214 := Aside0.mk ((by rw [hg]; exact Nat.ne_of_gt (blk_lt BK214.out) : gb217 ≠ gb214)); replace BK214 := Aside0.mk (blk_below (by repeat (first | (with_reducible first | exact BK214.out | refine blk_drewN ?_ _ | refine blk_drew ?_ | refine blk_alloc ?_ _) | exact BK214.out)) hb); clear hb hbox hg; have hnb99 := NB217_188.out; have hnc99 := NB188_217.out; have hnb100 := NB217_189.out; have hnc100 := NB189_217.out; have hnb101 := NB217_204.out; have hnc101 := NB204_217.out; have hnb102 := NB217_214.out; have hnc102 := NB214_217.out; obtain ⟨hcz103_0, hcz103_1⟩ := bc2 BK217.out; obtain ⟨hfz103_0, hfz103_1⟩ := bf2 BK217.out))
      (try simp only [Act.put, List.setIfInBounds_toArray, List.set_cons_zero, List.set_cons_succ])
      go_cut [168] (fun v168 wc => ∃ (kq : Nat) (x168_91 : Bool), v168 = .bool x168_91 ∧ Aside0 (acmelaw12_MillVolumes.j4 kq x7_1 x8_1 (wrap64 (t202 + (Int.tmod (wrap64 (a1_2)) (wrap64 ((wrap64 (t203 - t202)) + 1))))) x168_91 a2_0 a2_1 a2_2 t202 t203 t211 t212 t215 t216 = some r) ∧ Aside0 (kq ≤ kj68) ∧ Aside0 (Kd.R k46 46 wc w.heap.size (fun _ => True) (.slice Ao45 x7_1.length co45) x7_1) ∧ Aside0 (wc.heap[gb188]? = some (.cells #[.int .u8 a1_0, .int .u8 a1_1, .int .u8 a1_2] 94 (0, 0))) ∧ Aside0 (wc.heap[gb189]? = some (.cells #[.int .u16 a2_0, .int .u16 a2_1, .int .u16 a2_2] 105 (0, 0))) ∧ Aside0 (wc.heap[gb204]? = some (.cells #[.int .i64 t202, .int .i64 t203] 41 (0, 0))) ∧ Aside0 (wc.heap[gb214]? = some (.cells #[.int .i64 t211, .int .i64 t212] 41 (0, 0))) ∧ Aside0 (wc.heap[gb217]? = some (.cells #[.int .i64 t215, .int .i64 t216] 41 (0, 0))) ∧ Aside0 (Below w.heap.size w wc))
      case first => as_aux_lemma =>
       have H := HC92.out
       clear HC92
       by_cases c104 : (Int.tmod a2_2 2) = 0
       ·rw [if_pos c104] at H
        have c104b0 : ((Int.tmod a2_2 2) == 0) = true := beq_iff_eq.mpr c104
        have c104b1 : ((Int.tmod a2_2 2) != 0) = false := bne_eq_false_iff_eq.mpr c104
        clear c104
        (first | rw [c104b0] | (simp only [i64_w, i32_w]; rw [c104b0]) | skip)
        have H' := Aside0.mk H
        clear H
        have hnb105 := NB189_188.out
        have hnc105 := NB188_189.out
        have hnb106 := NB189_204.out
        have hnc106 := NB204_189.out
        have hnb107 := NB189_214.out
        have hnc107 := NB214_189.out
        have hnb108 := NB189_217.out
        have hnc108 := NB217_189.out
        obtain ⟨hcz109_0, hcz109_1, hcz109_2⟩ := bc3 BK189.out
        obtain ⟨hfz109_0, hfz109_1, hfz109_2⟩ := bf3 BK189.out
        have hnb110 := NB214_188.out
        have hnc110 := NB188_214.out
        have hnb111 := NB214_204.out
        have hnc111 := NB204_214.out
        have hnb112 := NB214_217.out
        have hnc112 := NB217_214.out
        obtain ⟨hcz113_0, hcz113_1⟩ := bc2 BK214.out
        obtain ⟨hfz113_0, hfz113_1⟩ := bf2 BK214.out
        go_wp2
        go_meet
        case rel => exact ⟨_, (decide (t212 ≤ 10000000)), (by first | rfl | (simp; done) | (simp [*]; done)), H', ⟨by have := HK1.out; have := HJ7.out; have := HJ36.out; have := HJ68.out; first | omega | exact Nat.le_refl _⟩, ⟨by (with_reducible repeat (first | apply Kd.R_alloc | apply Kd.R_drewN | apply Kd.R_drew)); exact Kd.R_mono (Kd.R_far (p := ⟨gb217, 1, none⟩) (Kd.R_far (p := ⟨gb217, 0, none⟩) (Kd.R_types HO_7.out BK217.out (by decide)) (fun _ hk => hk.2) (.int .i64 t215)) (fun _ hk => hk.2) (.int .i64 t216)) (fun _ hk => trivial)⟩, ⟨by repeat (first | (with_reducible first | exact BK188.out | refine blk_drewN ?_ _ | refine blk_drew ?_ | refine blk_alloc ?_ _) | refine blk_far ?_ NB188_217.out _ | exact BK188.out)⟩, ⟨by repeat (first | (with_reducible first | exact BK189.out | refine blk_drewN ?_ _ | refine blk_drew ?_ | refine blk_alloc ?_ _) | refine blk_far ?_ NB189_217.out _ | exact BK189.out)⟩, ⟨by repeat (first | (with_reducible first | exact BK204.out | refine blk_drewN ?_ _ | refine blk_drew ?_ | refine blk_alloc ?_ _) | refine blk_far ?_ NB204_217.out _ | exact BK204.out)⟩, ⟨by repeat (first | (with_reducible first | exact BK214.out | refine blk_drewN ?_ _ | refine blk_drew ?_ | refine blk_alloc ?_ _) | refine blk_far ?_ NB214_217.out _ | exact BK214.out)⟩, ⟨by exact bto (bput (bput (BK217.out) _ _) _ _) rfl⟩, ⟨by repeat (first | (with_reducible first | exact HB.out | apply below_alloc | apply pw_below_drewN | apply below_drew1 | refine below_set ?_ (Aside0.out (by assumption))) | exact HB.out)⟩⟩
       rw [if_neg c104] at H
       have c104b0 : ((Int.tmod a2_2 2) == 0) = false := beq_eq_false_iff_ne.mpr c104
       have c104b1 : ((Int.tmod a2_2 2) != 0) = true := bne_iff_ne.mpr c104
       (first | rw [c104b0] | (simp only [i64_w, i32_w]; rw [c104b0]) | skip)
       have H' := Aside0.mk H
       clear H
       have hnb114 := NB189_188.out
       have hnc114 := NB188_189.out
       have hnb115 := NB189_204.out
       have hnc115 := NB204_189.out
       have hnb116 := NB189_214.out
       have hnc116 := NB214_189.out
       have hnb117 := NB189_217.out
       have hnc117 := NB217_189.out
       obtain ⟨hcz118_0, hcz118_1, hcz118_2⟩ := bc3 BK189.out
       obtain ⟨hfz118_0, hfz118_1, hfz118_2⟩ := bf3 BK189.out
       go_wp2
       go_meet
       case rel => exact ⟨_, (false), (by first | rfl | (simp; done) | (simp [*]; done)), H', ⟨by have := HK1.out; have := HJ7.out; have := HJ36.out; have := HJ68.out; first | omega | exact Nat.le_refl _⟩, ⟨by (with_reducible repeat (first | apply Kd.R_alloc | apply Kd.R_drewN | apply Kd.R_drew)); exact Kd.R_mono (Kd.R_far (p := ⟨gb217, 1, none⟩) (Kd.R_far (p := ⟨gb217, 0, none⟩) (Kd.R_types HO_7.out BK217.out (by decide)) (fun _ hk => hk.2) (.int .i64 t215)) (fun _ hk => hk.2) (.int .i64 t216)) (fun _ hk => trivial)⟩, ⟨by repeat (first | (with_reducible first | exact BK188.out | refine blk_drewN ?_ _ | refine blk_drew ?_ | refine blk_alloc ?_ _) | refine blk_far ?_ NB188_217.out _ | exact BK188.out)⟩, ⟨by repeat (first | (with_reducible first | exact BK189.out | refine blk_drewN ?_ _ | refine blk_drew ?_ | refine blk_alloc ?_ _) | refine blk_far ?_ NB189_217.out _ | exact BK189.out)⟩, ⟨by repeat (first | (with_reducible first | exact BK204.out | refine blk_drewN ?_ _ | refine blk_drew ?_ | refine blk_alloc ?_ _) | refine blk_far ?_ NB204_217.out _ | exact BK204.out)⟩, ⟨by repeat (first | (with_reducible first | exact BK214.out | refine blk_drewN ?_ _ | refine blk_drew ?_ | refine blk_alloc ?_ _) | refine blk_far ?_ NB214_217.out _ | exact BK214.out)⟩, ⟨by exact bto (bput (bput (BK217.out) _ _) _ _) rfl⟩, ⟨by repeat (first | (with_reducible first | exact HB.out | apply below_alloc | apply pw_below_drewN | apply below_drew1 | refine below_set ?_ (Aside0.out (by assumption))) | exact HB.out)⟩⟩
      case rest => as_aux_lemma =>
       clear HC92
       try clear c1; try clear c2; try clear p2; try clear c3; try clear c5; try clear c6; try clear p6; try clear c7; try clear c8; try clear c9; try clear c10; try clear c11; try clear c23; try clear c27; try clear c35; try clear c57; try clear c57b0; try clear c57b1; try clear c58; try clear c58b0; try clear c59; try clear c60; try clear c61; try clear c63; try clear c64; try clear p64; try clear c65; try clear c67; try clear c68; try clear c68b0; try clear c68b1; try clear c71; try clear c71b0; try clear c72; try clear c73; try clear c74; try clear c76; try clear c76b0; try clear c77; try clear c78; try clear c79; try clear c81; try clear c81b0; try clear c82; try clear c83; try clear c84; try clear c86; try clear c87; try clear c88; try clear c90; try clear c93; try clear c94; try clear c95; try clear c99; try clear c100; try clear c101; try clear c102; try clear c104; try clear c104b0; try clear c104b1; try clear c105; try clear c106; try clear c107; try clear c108; try clear c110; try clear c111; try clear c112; try clear c114; try clear c115; try clear c116; try clear c117; try clear hcz103_0; try clear hcz103_1; try clear hcz109_0; try clear hcz109_1; try clear hcz109_2; try clear hcz113_0; try clear hcz113_1; try clear hcz118_0; try clear hcz118_1; try clear hcz118_2; try clear hcz62_0; try clear hcz62_1; try clear hcz66_0; try clear hcz66_1; try clear hcz75_0; try clear hcz75_1; try clear hcz80_0; try clear hcz80_1; try clear hcz85_0; try clear hcz85_1; try clear hcz89_0; try clear hcz89_1; try clear hcz96_0; try clear hcz96_1; try clear hcz96_2; try clear hfz103_0; try clear hfz103_1; try clear hfz109_0; try clear hfz109_1; try clear hfz109_2; try clear hfz113_0; try clear hfz113_1; try clear hfz118_0; try clear hfz118_1; try clear hfz118_2; try clear hfz62_0; try clear hfz62_1; try clear hfz66_0; try clear hfz66_1; try clear hfz75_0; try clear hfz75_1; try clear hfz80_0; try clear hfz80_1; try clear hfz85_0; try clear hfz85_1; try clear hfz89_0; try clear hfz89_1; try clear hfz96_0; try clear hfz96_1; try clear hfz96_2; try clear p2; try clear p6; try clear p64
       obtain ⟨kq, x168_91, rfl, HA, HJ91, HO_7, BK188, BK189, BK204, BK214, BK217, HB⟩ := hcut
       obtain _ | kj91 := kq
       ·exact absurd HA.out (by simp [acmelaw12_MillVolumes.j4])
       have H := HA.out
       clear HA
       simp only [acmelaw12_MillVolumes.j4] at H
       have HC119 := Aside0.mk H
       clear H
       go_upto_if 168 with (fail)
       go_cut [] (fun wc => ∃ (kq : Nat) (x218000_118 : Int) (x218001_118 : Int), Aside0 (acmelaw12_MillVolumes.j5 kq x7_1 x8_1 (wrap64 (t202 + (Int.tmod (wrap64 (a1_2)) (wrap64 ((wrap64 (t203 - t202)) + 1))))) a2_0 a2_1 a2_2 t202 t203 t211 t212 x218000_118 x218001_118 = some r) ∧ Aside0 (kq ≤ kj91) ∧ Aside0 (Kd.R k46 46 wc w.heap.size (fun _ => True) (.slice Ao45 x7_1.length co45) x7_1) ∧ Aside0 (wc.heap[gb188]? = some (.cells #[.int .u8 a1_0, .int .u8 a1_1, .int .u8 a1_2] 94 (0, 0))) ∧ Aside0 (wc.heap[gb189]? = some (.cells #[.int .u16 a2_0, .int .u16 a2_1, .int .u16 a2_2] 105 (0, 0))) ∧ Aside0 (wc.heap[gb204]? = some (.cells #[.int .i64 t202, .int .i64 t203] 41 (0, 0))) ∧ Aside0 (wc.heap[gb214]? = some (.cells #[.int .i64 t211, .int .i64 t212] 41 (0, 0))) ∧ Aside0 (wc.heap[gb217]? = some (.cells #[.int .i64 x218000_118, .int .i64 x218001_118] 41 (0, 0))) ∧ Aside0 (Below w.heap.size w wc))
       case first => as_aux_lemma =>
        have H := HC119.out
        clear HC119
        by_cases c120 : x168_91 = true
        ·subst c120
         have H1 : ((acmelaw12_span.f t212 (wrap64 (t212 + (wrap64 (a2_1))))).bind fun bt218 => (acmelaw12_MillVolumes.j5 kj91 x7_1 x8_1 (wrap64 (t202 + (Int.tmod (wrap64 (a1_2)) (wrap64 ((wrap64 (t203 - t202)) + 1))))) a2_0 a2_1 a2_2 t202 t203 t211 t212 bt218.1 bt218.2)) = some r := by rw [if_pos rfl] at H; exact H
         clear H
         have H := H1
         clear H1
         replace H := Option.bind_eq_some_iff.mp H
         obtain ⟨⟨t218, t219⟩, A1210, H⟩ := H; (try dsimp only at H)
         have A121 := Aside0.mk A1210
         clear A1210
         have H' := Aside0.mk H
         clear H
         have hnb122 := NB214_188.out
         have hnc122 := NB188_214.out
         have hnb123 := NB214_189.out
         have hnc123 := NB189_214.out
         have hnb124 := NB214_204.out
         have hnc124 := NB204_214.out
         have hnb125 := NB214_217.out
         have hnc125 := NB217_214.out
         obtain ⟨hcz126_0, hcz126_1⟩ := bc2 BK214.out
         obtain ⟨hfz126_0, hfz126_1⟩ := bf2 BK214.out
         have hnb127 := NB189_188.out
         have hnc127 := NB188_189.out
         have hnb128 := NB189_204.out
         have hnc128 := NB204_189.out
         have hnb129 := NB189_217.out
         have hnc129 := NB217_189.out
         obtain ⟨hcz130_0, hcz130_1, hcz130_2⟩ := bc3 BK189.out
         obtain ⟨hfz130_0, hfz130_1, hfz130_2⟩ := bf3 BK189.out
         go_wp2_with (first | ((with_reducible refine gate_callee (f := 27) rfl ?_); refine goesL_ (some 177) rfl rfl Try.func27 (by kernel_rfl) rfl #[.int .i64 t212, .int .i64 (wrap64 (t212 + (wrap64 (a2_1))))] rfl (by (try simp only [List.map_toArray, List.map_cons, List.map_nil]); first | done | rfl | (simp only [List.length_drop, List.length_take]; rfl)) ?_; (with_reducible refine (acmelaw12_span.calls t212 (wrap64 (t212 + (wrap64 (a2_1)))) t218 t219 _ A121.out).mono ?_); rintro e w131 ⟨rfl, hb⟩; refine ⟨_, rfl, ?_⟩; replace HO_7 := Aside0.mk (Kd.R_below (by (with_reducible repeat (first | apply Kd.R_alloc | apply Kd.R_drewN | apply Kd.R_drew)); exact HO_7.out) hb); replace BK188 := Aside0.mk (blk_below (by repeat (first | (with_reducible first | exact BK188.out | refine blk_drewN ?_ _ | refine blk_drew ?_ | refine blk_alloc ?_ _) | exact BK188.out)) hb); replace BK189 := Aside0.mk (blk_below (by repeat (first | (with_reducible first | exact BK189.out | refine blk_drewN ?_ _ | refine blk_drew ?_ | refine blk_alloc ?_ _) | exact BK189.out)) hb); replace BK204 := Aside0.mk (blk_below (by repeat (first | (with_reducible first | exact BK204.out | refine blk_drewN ?_ _ | refine blk_drew ?_ | refine blk_alloc ?_ _) | exact BK204.out)) hb); replace BK214 := Aside0.mk (blk_below (by repeat (first | (with_reducible first | exact BK214.out | refine blk_drewN ?_ _ | refine blk_drew ?_ | refine blk_alloc ?_ _) | exact BK214.out)) hb); replace BK217 := Aside0.mk (blk_below (by repeat (first | (with_reducible first | exact BK217.out | refine blk_drewN ?_ _ | refine blk_drew ?_ | refine blk_alloc ?_ _) | exact BK217.out)) hb); replace HB := Aside0.mk (below_step (by repeat (first | (with_reducible first | exact HB.out | apply below_alloc | apply pw_below_drewN | apply below_drew1 | refine below_set ?_ (Aside0.out (by assumption))) | exact HB.out)) hb); (try clear hb); (try clear hb2); (try clear hk); (try clear hi); have hnb132 := NB217_188.out; have hnc132 := NB188_217.out; have hnb133 := NB217_204.out; have hnc133 := NB204_217.out; obtain ⟨hcz134_0, hcz134_1⟩ := bc2 BK217.out; obtain ⟨hfz134_0, hfz134_1⟩ := bf2 BK217.out))
         go_meet
         case rel => exact ⟨_, (t218), (t219), H', ⟨by have := HK1.out; have := HJ7.out; have := HJ36.out; have := HJ68.out; have := HJ91.out; first | omega | exact Nat.le_refl _⟩, ⟨by (with_reducible repeat (first | apply Kd.R_alloc | apply Kd.R_drewN | apply Kd.R_drew)); exact Kd.R_mono (Kd.R_far (p := ⟨gb217, 1, none⟩) (Kd.R_far (p := ⟨gb217, 0, none⟩) (Kd.R_types HO_7.out BK217.out (by decide)) (fun _ hk => hk.2) (.int .i64 t218)) (fun _ hk => hk.2) (.int .i64 t219)) (fun _ hk => trivial)⟩, ⟨by repeat (first | (with_reducible first | exact BK188.out | refine blk_drewN ?_ _ | refine blk_drew ?_ | refine blk_alloc ?_ _) | refine blk_far ?_ NB188_217.out _ | exact BK188.out)⟩, ⟨by repeat (first | (with_reducible first | exact BK189.out | refine blk_drewN ?_ _ | refine blk_drew ?_ | refine blk_alloc ?_ _) | refine blk_far ?_ NB189_217.out _ | exact BK189.out)⟩, ⟨by repeat (first | (with_reducible first | exact BK204.out | refine blk_drewN ?_ _ | refine blk_drew ?_ | refine blk_alloc ?_ _) | refine blk_far ?_ NB204_217.out _ | exact BK204.out)⟩, ⟨by repeat (first | (with_reducible first | exact BK214.out | refine blk_drewN ?_ _ | refine blk_drew ?_ | refine blk_alloc ?_ _) | refine blk_far ?_ NB214_217.out _ | exact BK214.out)⟩, ⟨by exact bto (bput (bput (BK217.out) _ _) _ _) rfl⟩, ⟨by repeat (first | (with_reducible first | exact HB.out | apply below_alloc | apply pw_below_drewN | apply below_drew1 | refine below_set ?_ (Aside0.out (by assumption))) | exact HB.out)⟩⟩
        replace c120 := Bool.eq_false_iff.mpr c120
        subst c120
        have H1 : (acmelaw12_MillVolumes.j5 kj91 x7_1 x8_1 (wrap64 (t202 + (Int.tmod (wrap64 (a1_2)) (wrap64 ((wrap64 (t203 - t202)) + 1))))) a2_0 a2_1 a2_2 t202 t203 t211 t212 t215 t216) = some r := by rw [if_neg (show ¬ (false = true) by decide)] at H; exact H
        clear H
        have H := H1
        clear H1
        have H' := Aside0.mk H
        clear H
        go_wp2
        go_meet
        case rel => exact ⟨_, (t215), (t216), H', ⟨by have := HK1.out; have := HJ7.out; have := HJ36.out; have := HJ68.out; have := HJ91.out; first | omega | exact Nat.le_refl _⟩, ⟨by (with_reducible repeat (first | apply Kd.R_alloc | apply Kd.R_drewN | apply Kd.R_drew)); exact HO_7.out⟩, BK188, BK189, BK204, BK214, BK217, ⟨by repeat (first | (with_reducible first | exact HB.out | apply below_alloc | apply pw_below_drewN | apply below_drew1 | refine below_set ?_ (Aside0.out (by assumption))) | exact HB.out)⟩⟩
       case rest => as_aux_lemma =>
        clear HC119
        try clear c1; try clear c2; try clear p2; try clear c3; try clear c5; try clear c6; try clear p6; try clear c7; try clear c8; try clear c9; try clear c10; try clear c11; try clear c12; try clear c13; try clear c23; try clear c27; try clear c35; try clear c57; try clear c57b0; try clear c57b1; try clear c58; try clear c58b0; try clear c59; try clear c60; try clear c61; try clear c63; try clear c64; try clear p64; try clear c65; try clear c67; try clear c68; try clear c68b0; try clear c68b1; try clear c71; try clear c71b0; try clear c72; try clear c73; try clear c74; try clear c76; try clear c76b0; try clear c77; try clear c78; try clear c79; try clear c81; try clear c81b0; try clear c82; try clear c83; try clear c84; try clear c86; try clear c87; try clear c88; try clear c90; try clear c93; try clear c94; try clear c95; try clear c99; try clear c100; try clear c101; try clear c102; try clear c104; try clear c104b0; try clear c104b1; try clear c105; try clear c106; try clear c107; try clear c108; try clear c110; try clear c111; try clear c112; try clear c114; try clear c115; try clear c116; try clear c117; try clear c120; try clear c122; try clear c123; try clear c124; try clear c125; try clear c127; try clear c128; try clear c129; try clear c132; try clear c133; try clear hcz103_0; try clear hcz103_1; try clear hcz109_0; try clear hcz109_1; try clear hcz109_2; try clear hcz113_0; try clear hcz113_1; try clear hcz118_0; try clear hcz118_1; try clear hcz118_2; try clear hcz126_0; try clear hcz126_1; try clear hcz130_0; try clear hcz130_1; try clear hcz130_2; try clear hcz134_0; try clear hcz134_1; try clear hcz62_0; try clear hcz62_1; try clear hcz66_0; try clear hcz66_1; try clear hcz75_0; try clear hcz75_1; try clear hcz80_0; try clear hcz80_1; try clear hcz85_0; try clear hcz85_1; try clear hcz89_0; try clear hcz89_1; try clear hcz96_0; try clear hcz96_1; try clear hcz96_2; try clear hfz103_0; try clear hfz103_1; try clear hfz109_0; try clear hfz109_1; try clear hfz109_2; try clear hfz113_0; try clear hfz113_1; try clear hfz118_0; try clear hfz118_1; try clear hfz118_2; try clear hfz126_0; try clear hfz126_1; try clear hfz130_0; try clear hfz130_1; try clear hfz130_2; try clear hfz134_0; try clear hfz134_1; try clear hfz62_0; try clear hfz62_1; try clear hfz66_0; try clear hfz66_1; try clear hfz75_0; try clear hfz75_1; try clear hfz80_0; try clear hfz80_1; try clear hfz85_0; try clear hfz85_1; try clear hfz89_0; try clear hfz89_1; try clear hfz96_0; try clear hfz96_1; try clear hfz96_2; try clear p2; try clear p6; try clear p64
        obtain ⟨kq, x218000_118, x218001_118, HA, HJ118, HO_7, BK188, BK189, BK204, BK214, BK217, HB⟩ := hcut
        obtain _ | kj118 := kq
        ·exact absurd HA.out (by simp [acmelaw12_MillVolumes.j5])
        have H := HA.out
        clear HA
        simp only [acmelaw12_MillVolumes.j5] at H
        by_cases c135 : x218001_118 > 10000000
        ·rw [if_pos c135] at H
         have c135b0 : decide (10000000 < x218001_118) = true := decide_eq_true c135
         clear c135
         replace H := Option.bind_eq_some_iff.mp H
         obtain ⟨t220, A1360, H⟩ := H; (try dsimp only at H)
         have A136 := Aside0.mk A1360
         clear A1360
         obtain rfl := Option.some.inj H
         have hnb137 := NB217_188.out
         have hnc137 := NB188_217.out
         have hnb138 := NB217_189.out
         have hnc138 := NB189_217.out
         have hnb139 := NB217_204.out
         have hnc139 := NB204_217.out
         have hnb140 := NB217_214.out
         have hnc140 := NB214_217.out
         obtain ⟨hcz141_0, hcz141_1⟩ := bc2 BK217.out
         obtain ⟨hfz141_0, hfz141_1⟩ := bf2 BK217.out
         go_wp2_with (first | ((with_reducible refine gate_callee (f := 15) rfl ?_); refine goesL_ (some 181) rfl rfl Try.func15 (by kernel_rfl) rfl #[] rfl (by (try simp only [List.map_toArray, List.map_cons, List.map_nil]); first | done | rfl | (simp only [List.length_drop, List.length_take]; rfl)) ?_; (with_reducible refine (acmelaw12_known.calls  t220 _ A136.out).mono ?_); rintro e w142 ⟨rfl, hb⟩; refine ⟨_, rfl, ?_⟩; replace HO_7 := Aside0.mk (Kd.R_below (by (with_reducible repeat (first | apply Kd.R_alloc | apply Kd.R_drewN | apply Kd.R_drew)); exact HO_7.out) hb); replace BK188 := Aside0.mk (blk_below (by repeat (first | (with_reducible first | exact BK188.out | refine blk_drewN ?_ _ | refine blk_drew ?_ | refine blk_alloc ?_ _) | exact BK188.out)) hb); replace BK189 := Aside0.mk (blk_below (by repeat (first | (with_reducible first | exact BK189.out | refine blk_drewN ?_ _ | refine blk_drew ?_ | refine blk_alloc ?_ _) | exact BK189.out)) hb); replace BK204 := Aside0.mk (blk_below (by repeat (first | (with_reducible first | exact BK204.out | refine blk_drewN ?_ _ | refine blk_drew ?_ | refine blk_alloc ?_ _) | exact BK204.out)) hb); replace BK214 := Aside0.mk (blk_below (by repeat (first | (with_reducible first | exact BK214.out | refine blk_drewN ?_ _ | refine blk_drew ?_ | refine blk_alloc ?_ _) | exact BK214.out)) hb); replace BK217 := Aside0.mk (blk_below (by repeat (first | (with_reducible first | exact BK217.out | refine blk_drewN ?_ _ | refine blk_drew ?_ | refine blk_alloc ?_ _) | exact BK217.out)) hb); replace HB := Aside0.mk (below_step (by repeat (first | (with_reducible first | exact HB.out | apply below_alloc | apply pw_below_drewN | apply below_drew1 | refine below_set ?_ (Aside0.out (by assumption))) | exact HB.out)) hb); (try clear hb); (try clear hb2); (try clear hk); (try clear hi)))
         go_ret
         exact ⟨by first | rfl | (simp [errW_none, errW_some] <;> rfl) | (simp [*, errW_none, errW_some] <;> rfl), by repeat (first | (with_reducible first | exact HB.out | apply below_alloc | apply pw_below_drewN | apply below_drew1 | refine below_set ?_ (Aside0.out (by assumption))) | exact HB.out)⟩
        rw [if_neg c135] at H
        have c135b0 : decide (10000000 < x218001_118) = false := decide_eq_false c135
        clear c135
        obtain ⟨y221, hy221⟩ : ∃ y_ : List (S46), y_ = (([] : List (S46))) := ⟨_, rfl⟩
        replace H : (if y221.length + x7_1.length < 8796093022208 then ((mill_Spare.f kj118 (y221 ++ x7_1) t202 t203 x218000_118 x218001_118).bind fun bt227 => (if (wrap64 ((wrap64 (x218001_118 - x218000_118)) + 1)) = 0 then (none) else (if bt227.2.2 = 0 then (if (wrap64 ((wrap64 ((wrap64 ((wrap64 (x218000_118 + (Int.tmod (wrap64 (a2_2)) (wrap64 ((wrap64 (x218001_118 - x218000_118)) + 1))))) * (wrap64 (t202 + (Int.tmod (wrap64 (a1_2)) (wrap64 ((wrap64 (t203 - t202)) + 1))))))) * (wrap64 (t202 + (Int.tmod (wrap64 (a1_2)) (wrap64 ((wrap64 (t203 - t202)) + 1))))))) - x8_1)) < bt227.1 then (none) else (if (wrap64 ((wrap64 ((wrap64 ((wrap64 (x218000_118 + (Int.tmod (wrap64 (a2_2)) (wrap64 ((wrap64 (x218001_118 - x218000_118)) + 1))))) * (wrap64 (t202 + (Int.tmod (wrap64 (a1_2)) (wrap64 ((wrap64 (t203 - t202)) + 1))))))) * (wrap64 (t202 + (Int.tmod (wrap64 (a1_2)) (wrap64 ((wrap64 (t203 - t202)) + 1))))))) - x8_1)) > bt227.2.1 then (none) else (if x218000_118 ≥ t212 then (if bt227.1 < 0 then (none) else (if bt227.1 = (wrap64 ((wrap64 ((wrap64 (x218000_118 * t202)) * t202)) - x8_1)) then (if bt227.2.1 = (wrap64 ((wrap64 ((wrap64 (x218001_118 * t203)) * t203)) - x8_1)) then ((acmelaw12_known.f).bind fun t231 => (some t231)) else (none)) else (none))) else (if bt227.1 = (wrap64 ((wrap64 ((wrap64 (x218000_118 * t202)) * t202)) - x8_1)) then (if bt227.2.1 = (wrap64 ((wrap64 ((wrap64 (x218001_118 * t203)) * t203)) - x8_1)) then ((acmelaw12_known.f).bind fun t232 => (some t232)) else (none)) else (none))))) else (none)))) else (none)) = some r := by first | (rw [hy221]; with_reducible exact H) | (have H2_ := (Option.bind_some _ _).symm.trans H; rw [hy221]; with_reducible exact H2_) | (have H2_ := (Option.bind_some _ _).symm.trans H; with_reducible exact H2_) | with_reducible exact H | (rw [hy221]; exact H) | exact H
        have Ny221 := Aside0.mk hy221
        clear hy221
        by_cases c143 : y221.length + x7_1.length < 8796093022208
        rotate_left
        ·rw [if_neg c143] at H
         exact absurd H (by simp)
        rw [if_pos c143] at H
        have LMc143 := Aside0.mk c143
        clear c143
        obtain ⟨y224, hy224⟩ : ∃ y_ : List (S46), y_ = (y221 ++ x7_1) := ⟨_, rfl⟩
        replace H : ((mill_Spare.f kj118 y224 t202 t203 x218000_118 x218001_118).bind fun bt227 => (if (wrap64 ((wrap64 (x218001_118 - x218000_118)) + 1)) = 0 then (none) else (if bt227.2.2 = 0 then (if (wrap64 ((wrap64 ((wrap64 ((wrap64 (x218000_118 + (Int.tmod (wrap64 (a2_2)) (wrap64 ((wrap64 (x218001_118 - x218000_118)) + 1))))) * (wrap64 (t202 + (Int.tmod (wrap64 (a1_2)) (wrap64 ((wrap64 (t203 - t202)) + 1))))))) * (wrap64 (t202 + (Int.tmod (wrap64 (a1_2)) (wrap64 ((wrap64 (t203 - t202)) + 1))))))) - x8_1)) < bt227.1 then (none) else (if (wrap64 ((wrap64 ((wrap64 ((wrap64 (x218000_118 + (Int.tmod (wrap64 (a2_2)) (wrap64 ((wrap64 (x218001_118 - x218000_118)) + 1))))) * (wrap64 (t202 + (Int.tmod (wrap64 (a1_2)) (wrap64 ((wrap64 (t203 - t202)) + 1))))))) * (wrap64 (t202 + (Int.tmod (wrap64 (a1_2)) (wrap64 ((wrap64 (t203 - t202)) + 1))))))) - x8_1)) > bt227.2.1 then (none) else (if x218000_118 ≥ t212 then (if bt227.1 < 0 then (none) else (if bt227.1 = (wrap64 ((wrap64 ((wrap64 (x218000_118 * t202)) * t202)) - x8_1)) then (if bt227.2.1 = (wrap64 ((wrap64 ((wrap64 (x218001_118 * t203)) * t203)) - x8_1)) then ((acmelaw12_known.f).bind fun t231 => (some t231)) else (none)) else (none))) else (if bt227.1 = (wrap64 ((wrap64 ((wrap64 (x218000_118 * t202)) * t202)) - x8_1)) then (if bt227.2.1 = (wrap64 ((wrap64 ((wrap64 (x218001_118 * t203)) * t203)) - x8_1)) then ((acmelaw12_known.f).bind fun t232 => (some t232)) else (none)) else (none))))) else (none)))) = some r := by first | (rw [hy224]; with_reducible exact H) | (have H2_ := (Option.bind_some _ _).symm.trans H; rw [hy224]; with_reducible exact H2_) | (have H2_ := (Option.bind_some _ _).symm.trans H; with_reducible exact H2_) | with_reducible exact H | (rw [hy224]; exact H) | exact H
        have Ny224 := Aside0.mk hy224
        clear hy224
        replace H := Option.bind_eq_some_iff.mp H
        obtain ⟨⟨t227, t228, t229⟩, A1440, H⟩ := H; (try dsimp only at H)
        have A144 := Aside0.mk A1440
        clear A1440
        by_cases c145 : (wrap64 ((wrap64 (x218001_118 - x218000_118)) + 1)) = 0
        ·rw [if_pos c145] at H
         exact absurd H (by simp)
        rw [if_neg c145] at H
        have c145b0 : ((wrap64 ((wrap64 (x218001_118 - x218000_118)) + 1)) == 0) = false := beq_eq_false_iff_ne.mpr c145
        have c145b1 : ((wrap64 ((wrap64 (x218001_118 - x218000_118)) + 1)) != 0) = true := bne_iff_ne.mpr c145
        by_cases c146 : t229 = 0
        rotate_left
        ·rw [if_neg c146] at H
         exact absurd H (by simp)
        rw [if_pos c146] at H
        have c146b0 : (t229 == 0) = true := beq_iff_eq.mpr c146
        have c146b1 : (t229 != 0) = false := bne_eq_false_iff_eq.mpr c146
        clear c146
        by_cases c147 : (wrap64 ((wrap64 ((wrap64 ((wrap64 (x218000_118 + (Int.tmod (wrap64 (a2_2)) (wrap64 ((wrap64 (x218001_118 - x218000_118)) + 1))))) * (wrap64 (t202 + (Int.tmod (wrap64 (a1_2)) (wrap64 ((wrap64 (t203 - t202)) + 1))))))) * (wrap64 (t202 + (Int.tmod (wrap64 (a1_2)) (wrap64 ((wrap64 (t203 - t202)) + 1))))))) - x8_1)) < t227
        ·rw [if_pos c147] at H
         exact absurd H (by simp)
        rw [if_neg c147] at H
        have c147b0 : decide ((wrap64 ((wrap64 ((wrap64 ((wrap64 (x218000_118 + (Int.tmod (wrap64 (a2_2)) (wrap64 ((wrap64 (x218001_118 - x218000_118)) + 1))))) * (wrap64 (t202 + (Int.tmod (wrap64 (a1_2)) (wrap64 ((wrap64 (t203 - t202)) + 1))))))) * (wrap64 (t202 + (Int.tmod (wrap64 (a1_2)) (wrap64 ((wrap64 (t203 - t202)) + 1))))))) - x8_1)) < t227) = false := decide_eq_false c147
        clear c147
        by_cases c148 : (wrap64 ((wrap64 ((wrap64 ((wrap64 (x218000_118 + (Int.tmod (wrap64 (a2_2)) (wrap64 ((wrap64 (x218001_118 - x218000_118)) + 1))))) * (wrap64 (t202 + (Int.tmod (wrap64 (a1_2)) (wrap64 ((wrap64 (t203 - t202)) + 1))))))) * (wrap64 (t202 + (Int.tmod (wrap64 (a1_2)) (wrap64 ((wrap64 (t203 - t202)) + 1))))))) - x8_1)) > t228
        ·rw [if_pos c148] at H
         exact absurd H (by simp)
        rw [if_neg c148] at H
        have c148b0 : decide (t228 < (wrap64 ((wrap64 ((wrap64 ((wrap64 (x218000_118 + (Int.tmod (wrap64 (a2_2)) (wrap64 ((wrap64 (x218001_118 - x218000_118)) + 1))))) * (wrap64 (t202 + (Int.tmod (wrap64 (a1_2)) (wrap64 ((wrap64 (t203 - t202)) + 1))))))) * (wrap64 (t202 + (Int.tmod (wrap64 (a1_2)) (wrap64 ((wrap64 (t203 - t202)) + 1))))))) - x8_1))) = false := decide_eq_false c148
        clear c148
        have hnb154 := NB217_188.out
        have hnc154 := NB188_217.out
        have hnb155 := NB217_189.out
        have hnc155 := NB189_217.out
        have hnb156 := NB217_204.out
        have hnc156 := NB204_217.out
        have hnb157 := NB217_214.out
        have hnc157 := NB214_217.out
        obtain ⟨hcz158_0, hcz158_1⟩ := bc2 BK217.out
        obtain ⟨hfz158_0, hfz158_1⟩ := bf2 BK217.out
        try go_wp2
        replace HO_7 := Aside0.mk (Kd.R_drew HO_7.out)
        replace BK188 := Aside0.mk (blk_drew BK188.out)
        replace BK189 := Aside0.mk (blk_drew BK189.out)
        replace BK204 := Aside0.mk (blk_drew BK204.out)
        replace BK214 := Aside0.mk (blk_drew BK214.out)
        replace BK217 := Aside0.mk (blk_drew BK217.out)
        replace HB := Aside0.mk (below_drew1 HB.out)
        refine start_ (n := 12) (S := fun w' => w'.cell? ⟨gb204, 0, none⟩ = some (.int .i64 t202) ∧ w'.cell? ⟨gb204, 1, none⟩ = some (.int .i64 t203) ∧ w'.cell? ⟨gb217, 0, none⟩ = some (.int .i64 x218000_118) ∧ w'.cell? ⟨gb217, 1, none⟩ = some (.int .i64 x218001_118)) (ds := []) #[ff, ff, ff, ff, ff, ff, ff, ff, ff, ff, ff, ff] (by kernel_rfl) rfl rfl ⟨(blk_cell BK204.out 0).trans rfl, (blk_cell BK204.out 1).trans rfl, (blk_cell BK217.out 0).trans rfl, (blk_cell BK217.out 1).trans rfl⟩ (fun hHeld => ?_); refine with_tabW acmelaw12_MillVolumes.tab21 acmelaw12_MillVolumes.bits21 (fun HT_ HW_ => ?_)
        generalize wc.drew = w159 at HO_7 BK188 BK189 BK204 BK214 BK217 HB hHeld ⊢
        refine pure_ (i := 1) (N := some 184) (v := ?_) (a' := ?_) #[ff, tt, ff, ff, ff, ff, ff, ff, ff, ff, ff, ff] rfl rfl (any_of HT_.out (by kernel_rfl)) (fun _ _ _ h => h) (Or.inl ⟨by rfl, ?_⟩) ?_ ?_
        rotate_left
        ·intro w'
         go_simp
         with_reducible rfl
        rotate_left
        ·simp only [Act.put, List.setIfInBounds_toArray, List.set_cons_zero, List.set_cons_succ, i64_w, i32_w]
         rfl
        refine take_ (i := 3) (N := some 186) (v := ?_) (a' := ?_) #[ff, tt, ff, tt, ff, ff, ff, ff, ff, ff, ff, ff] rfl rfl (take_ofW HT_.out HW_.out (by kernel_rfl)) (fun _ _ _ h => h) (Or.inl ⟨by rfl, ?_⟩) hHeld ?_ ?_
        rotate_left
        ·rintro w' ⟨s0, s1, s2, s3⟩
         go_simp
         with_reducible rfl
        rotate_left
        ·simp only [Act.put, List.setIfInBounds_toArray, List.set_cons_zero, List.set_cons_succ, i64_w, i32_w]
         rfl
        refine take_ (i := 4) (N := some 187) (v := ?_) (a' := ?_) #[ff, tt, ff, tt, tt, ff, ff, ff, ff, ff, ff, ff] rfl rfl (take_ofW HT_.out HW_.out (by kernel_rfl)) (fun _ _ _ h => h) (Or.inl ⟨by rfl, ?_⟩) hHeld ?_ ?_
        rotate_left
        ·rintro w' ⟨s0, s1, s2, s3⟩
         go_simp
         with_reducible rfl
        rotate_left
        ·simp only [Act.put, List.setIfInBounds_toArray, List.set_cons_zero, List.set_cons_succ, i64_w, i32_w]
         rfl
        refine join_ (σ := Value × Value × Nat) 2 #[tt, tt, tt, tt, tt, tt, tt, tt, tt, tt, ff, ff] (fun s_ => [(183, s_.1), (185, s_.2.1), (188, .tuple #[.agg #[.int .i64 t227, .int .i64 t228], .int .i64 t229]), (16, .pointer (some ⟨s_.2.2, 0, none⟩)), (182, .tuple #[.agg #[.int .i64 t227, .int .i64 t228], .int .i64 t229]), (189, .agg #[.int .i64 t227, .int .i64 t228]), (190, .int .i64 t229)]) (fun s_ w' => (w'.cell? ⟨gb204, 0, none⟩ = some (.int .i64 t202) ∧ w'.cell? ⟨gb204, 1, none⟩ = some (.int .i64 t203) ∧ w'.cell? ⟨gb217, 0, none⟩ = some (.int .i64 x218000_118) ∧ w'.cell? ⟨gb217, 1, none⟩ = some (.int .i64 x218001_118)) ∧ (Kd.R k46 46 w' w.heap.size (fun k_ => some k_ ≠ (.slice Ao45 x7_1.length co45 : Value).ownBlock) s_.2.1 y224) ∧ (Kd.R k46 46 w' w.heap.size (fun k_ => some k_ ≠ (s_.2.1 : Value).ownBlock) (.slice Ao45 x7_1.length co45) x7_1) ∧ (w'.heap[gb188]? = some (.cells #[.int .u8 a1_0, .int .u8 a1_1, .int .u8 a1_2] 94 (0, 0))) ∧ (w'.heap[gb189]? = some (.cells #[.int .u16 a2_0, .int .u16 a2_1, .int .u16 a2_2] 105 (0, 0))) ∧ (w'.heap[gb204]? = some (.cells #[.int .i64 t202, .int .i64 t203] 41 (0, 0))) ∧ (w'.heap[gb214]? = some (.cells #[.int .i64 t211, .int .i64 t212] 41 (0, 0))) ∧ (w'.heap[gb217]? = some (.cells #[.int .i64 x218000_118, .int .i64 x218001_118] 41 (0, 0))) ∧ (w'.heap[s_.2.2]? = some (.cells #[.int .i64 0, .int .i64 0] 41 (0, 0))) ∧ (w.heap.size ≤ s_.2.2) ∧ (w.heap.size ≤ s_.2.2) ∧ (gb188 ≠ s_.2.2) ∧ (s_.2.2 ≠ gb188) ∧ (gb189 ≠ s_.2.2) ∧ (s_.2.2 ≠ gb189) ∧ (gb204 ≠ s_.2.2) ∧ (s_.2.2 ≠ gb204) ∧ (gb214 ≠ s_.2.2) ∧ (s_.2.2 ≠ gb214) ∧ (gb217 ≠ s_.2.2) ∧ (s_.2.2 ≠ gb217) ∧ (Below w.heap.size w w')) ?_ ?_
        rotate_left
        ·intro hCont
         refine two_ (i := 0) (j := 9) (Ni := some 183) (Nj := some 16) #[tt, tt, ff, tt, tt, ff, ff, ff, ff, ff, ff, ff] #[ff, tt, ff, tt, tt, ff, ff, ff, ff, tt, ff, ff] rfl rfl rfl rfl (two_of HT_.out (by kernel_rfl)) (by decide) (by decide) (fun K hK => ?_) (fun K hK => ?_)
         ·skip
          refine Kd.R_lit_step k46 _ 46 ?hg (N := 183) ?hd (xs := ([] : List (S46))) (inner := []) (ok := fun _ => True) (okp := fun _ => True) ?hr ?hp (fun _ hk => hk) trivial (Below.refl _ _) (Nat.le_refl _) (by simp) ?_; (case hd => rfl); (case hg => rfl); (case hr => first | (go_simp; done) | (go_simp; rfl)); (case hp => exact (Reps.none _ _))
          intro v222 w160 ho161 hb hg_ hnew_
          clear hg_ hnew_
          (first | rw [← Ny221.out] at ho161 | (simp only [Int.reduceToNat] at ho161; rw [← Ny221.out] at ho161))
          have HO223 := Aside0.mk (Kd.R_lower (Kd.R_new' ho161 (Kd.R_lt (by (with_reducible repeat (first | apply Kd.R_alloc | apply Kd.R_drewN | apply Kd.R_drew)); exact HO_7.out))) (below_size (by repeat (first | (with_reducible first | exact HB.out | apply below_alloc | apply pw_below_drewN | apply below_drew1 | refine below_set ?_ (Aside0.out (by assumption))) | exact HB.out))))
          replace HO_7 := Aside0.mk (Kd.R_elder' (by (with_reducible repeat (first | apply Kd.R_alloc | apply Kd.R_drewN | apply Kd.R_drew)); exact HO_7.out) (Kd.R_base ho161) hb)
          replace BK188 := Aside0.mk (blk_below (by repeat (first | (with_reducible first | exact BK188.out | refine blk_drewN ?_ _ | refine blk_drew ?_ | refine blk_alloc ?_ _) | exact BK188.out)) hb)
          replace BK189 := Aside0.mk (blk_below (by repeat (first | (with_reducible first | exact BK189.out | refine blk_drewN ?_ _ | refine blk_drew ?_ | refine blk_alloc ?_ _) | exact BK189.out)) hb)
          replace BK204 := Aside0.mk (blk_below (by repeat (first | (with_reducible first | exact BK204.out | refine blk_drewN ?_ _ | refine blk_drew ?_ | refine blk_alloc ?_ _) | exact BK204.out)) hb)
          replace BK214 := Aside0.mk (blk_below (by repeat (first | (with_reducible first | exact BK214.out | refine blk_drewN ?_ _ | refine blk_drew ?_ | refine blk_alloc ?_ _) | exact BK214.out)) hb)
          replace BK217 := Aside0.mk (blk_below (by repeat (first | (with_reducible first | exact BK217.out | refine blk_drewN ?_ _ | refine blk_drew ?_ | refine blk_alloc ?_ _) | exact BK217.out)) hb)
          replace HB := Aside0.mk (below_step (by repeat (first | (with_reducible first | exact HB.out | apply below_alloc | apply pw_below_drewN | apply below_drew1 | refine below_set ?_ (Aside0.out (by assumption))) | exact HB.out)) hb)
          clear hb ho161
          refine hK.out _ _ ⟨(blk_cell BK204.out 0).trans rfl, (blk_cell BK204.out 1).trans rfl, (blk_cell BK217.out 0).trans rfl, (blk_cell BK217.out 1).trans rfl⟩ (fun hHeld => ?_)
          clear hK K
          refine norm_ (a' := ?_) ?_ ?_
          rotate_left
          ·show Act.put _ (some 183) _ = _
           simp only [Act.put, List.setIfInBounds_toArray, List.set_cons_zero, List.set_cons_succ, i64_w, i32_w]
           rfl
          refine two_ (i := 2) (j := 9) (Ni := some 185) (Nj := some 16) #[tt, tt, tt, tt, tt, ff, ff, ff, ff, ff, ff, ff] #[tt, tt, ff, tt, tt, ff, ff, ff, ff, tt, ff, ff] rfl rfl rfl rfl (two_of HT_.out (by kernel_rfl)) (by decide) (by decide) (fun K hK => ?_) (fun K hK => ?_)
          ·skip
           refine Kd.R_append_rows_step k46 (w0 := w) w.heap.size (by rfl) (.tmp 183) (.tmp 184) 39 46 (.agg #[(.int .i64 0), (.int .i64 0)]) 16 rfl Try.underlying39 info46 rfl (by decide) (by omega) v222 y221 x7_1 _ _ _ (fun k_ => some k_ ≠ (.slice Ao45 x7_1.length co45 : Value).ownBlock) (fun _ => False) rfl rfl ?aO ?aR (fun _ _ h => h) (fun _ h => h.elim) ?aF ?aB ?aS ?aL ?_
           (case aR => repeat (first | exact (Kd.R_reads' HO_7.out).2.2 | (with_reducible refine Kd.C_alloc ?_ _) | (with_reducible refine Kd.C_drewN ?_ _) | (with_reducible refine Kd.C_drew ?_)))
           (case aB => exact (by repeat (first | (with_reducible first | exact HB.out | apply below_alloc | apply pw_below_drewN | apply below_drew1 | refine below_set ?_ (Aside0.out (by assumption))) | exact HB.out)))
           (case aF => exact (fun k_ hk => Kd.fresh' (Kd.R_lt (by (with_reducible repeat (first | apply Kd.R_alloc | apply Kd.R_drewN | apply Kd.R_drew)); exact HO_7.out)) k_ hk))
           (case aO => exact (by (with_reducible repeat (first | apply Kd.R_alloc | apply Kd.R_drewN | apply Kd.R_drew)); exact Kd.R_mono HO223.out (fun _ hk => hk.2)))
           (case aS => exact (below_size (by repeat (first | (with_reducible first | exact HB.out | apply below_alloc | apply pw_below_drewN | apply below_drew1 | refine below_set ?_ (Aside0.out (by assumption))) | exact HB.out))))
           (case aL => have := LMc143.out; omega)
           intro v225 w162 ho hb hg hat
           rw [← Ny224.out] at ho
           have n0_ := Aside0.mk (Kd.R_after (ok := (fun _ => True)) (by (with_reducible repeat (first | apply Kd.R_alloc | apply Kd.R_drewN | apply Kd.R_drew)); exact HO_7.out) hg hat)
           have n1_ := Aside0.mk (blk_grown (by repeat (first | (with_reducible first | exact BK188.out | refine blk_drewN ?_ _ | refine blk_drew ?_ | refine blk_alloc ?_ _) | exact BK188.out)) hg (Kd.R_ne HO223.out BK188.out (by decide)))
           have n2_ := Aside0.mk (blk_grown (by repeat (first | (with_reducible first | exact BK189.out | refine blk_drewN ?_ _ | refine blk_drew ?_ | refine blk_alloc ?_ _) | exact BK189.out)) hg (Kd.R_ne HO223.out BK189.out (by decide)))
           have n3_ := Aside0.mk (blk_grown (by repeat (first | (with_reducible first | exact BK204.out | refine blk_drewN ?_ _ | refine blk_drew ?_ | refine blk_alloc ?_ _) | exact BK204.out)) hg (Kd.R_ne HO223.out BK204.out (by decide)))
           have n4_ := Aside0.mk (blk_grown (by repeat (first | (with_reducible first | exact BK214.out | refine blk_drewN ?_ _ | refine blk_drew ?_ | refine blk_alloc ?_ _) | exact BK214.out)) hg (Kd.R_ne HO223.out BK214.out (by decide)))
           have n5_ := Aside0.mk (blk_grown (by repeat (first | (with_reducible first | exact BK217.out | refine blk_drewN ?_ _ | refine blk_drew ?_ | refine blk_alloc ?_ _) | exact BK217.out)) hg (Kd.R_ne HO223.out BK217.out (by decide)))
           have n6_ := Aside0.mk (hb)
           have n7_ := Aside0.mk (ho)
           clear HO_7
           clear BK188
           clear BK189
           clear BK204
           clear BK214
           clear BK217
           clear HB
           clear HO223
           have HO_7 := n0_
           have BK188 := n1_
           have BK189 := n2_
           have BK204 := n3_
           have BK214 := n4_
           have BK217 := n5_
           have HB := n6_
           have HO226 := n7_
           clear n0_ n1_ n2_ n3_ n4_ n5_ n6_ n7_
           clear ho hb hg hat
           obtain ⟨Ao163, co163, eo163⟩ := Kd.R_slice HO226.out
           (first | subst eo163 | (injection eo163 with f1_ f2_ f3_; have f4_ := f1_.symm; have f5_ := f3_.symm; clear f1_ f2_ f3_; subst f4_; subst f5_))
           refine hK.out _ _ ⟨(blk_cell BK204.out 0).trans rfl, (blk_cell BK204.out 1).trans rfl, (blk_cell BK217.out 0).trans rfl, (blk_cell BK217.out 1).trans rfl⟩ (fun hHeld => ?_)
           clear hK K
           refine norm_ (a' := ?_) ?_ ?_
           rotate_left
           ·show Act.put _ (some 185) _ = _
            simp only [Act.put, List.setIfInBounds_toArray, List.set_cons_zero, List.set_cons_succ, i64_w, i32_w]
            rfl
           refine two_ (i := 5) (j := 9) (Ni := some 188) (Nj := some 16) #[tt, tt, tt, tt, tt, tt, ff, ff, ff, ff, ff, ff] #[tt, tt, tt, tt, tt, ff, ff, ff, ff, tt, ff, ff] rfl rfl rfl rfl (two_of HT_.out (by kernel_rfl)) (by decide) (by decide) (fun K hK => ?_) (fun K hK => ?_)
           ·skip
            refine goes_ Try.func24 (by kernel_rfl) rfl #[.slice Ao163 y224.length co163, .agg #[.int .i64 t202, .int .i64 t203], .agg #[.int .i64 x218000_118, .int .i64 x218001_118]] (by rfl) rfl rfl (by (try simp only [List.map_toArray, List.map_cons, List.map_nil]); first | done | rfl | (simp only [List.length_drop, List.length_take]; rfl)) ?_
            with_reducible refine (mill_Spare.calls kj118 _ _ y224 t202 t203 x218000_118 x218001_118 t227 t228 t229 _ ?side1 ?side2 A144.out).mono ?_
            (case side1 => repeat (first | exact (Kd.R_reads' HO226.out).2.2 | (with_reducible refine Kd.C_alloc ?_ _) | (with_reducible refine Kd.C_drewN ?_ _) | (with_reducible refine Kd.C_drew ?_)))
            (case side2 => exact (Kd.R_reads' HO226.out).2.1)
            rintro e w164 ⟨rfl, hb⟩
            refine ⟨_, rfl, ?_⟩
            replace HO_7 := Aside0.mk (Kd.R_below (by (with_reducible repeat (first | apply Kd.R_alloc | apply Kd.R_drewN | apply Kd.R_drew)); exact HO_7.out) hb)
            replace HO226 := Aside0.mk (Kd.R_below (by (with_reducible repeat (first | apply Kd.R_alloc | apply Kd.R_drewN | apply Kd.R_drew)); exact HO226.out) hb)
            replace BK188 := Aside0.mk (blk_below (by repeat (first | (with_reducible first | exact BK188.out | refine blk_drewN ?_ _ | refine blk_drew ?_ | refine blk_alloc ?_ _) | exact BK188.out)) hb)
            replace BK189 := Aside0.mk (blk_below (by repeat (first | (with_reducible first | exact BK189.out | refine blk_drewN ?_ _ | refine blk_drew ?_ | refine blk_alloc ?_ _) | exact BK189.out)) hb)
            replace BK204 := Aside0.mk (blk_below (by repeat (first | (with_reducible first | exact BK204.out | refine blk_drewN ?_ _ | refine blk_drew ?_ | refine blk_alloc ?_ _) | exact BK204.out)) hb)
            replace BK214 := Aside0.mk (blk_below (by repeat (first | (with_reducible first | exact BK214.out | refine blk_drewN ?_ _ | refine blk_drew ?_ | refine blk_alloc ?_ _) | exact BK214.out)) hb)
            replace BK217 := Aside0.mk (blk_below (by repeat (first | (with_reducible first | exact BK217.out | refine blk_drewN ?_ _ | refine blk_drew ?_ | refine blk_alloc ?_ _) | exact BK217.out)) hb)
            replace HB := Aside0.mk (below_step (by repeat (first | (with_reducible first | exact HB.out | apply below_alloc | apply pw_below_drewN | apply below_drew1 | refine below_set ?_ (Aside0.out (by assumption))) | exact HB.out)) hb)
            (try clear hb)
            (try clear hb2)
            (try clear hk)
            (try clear hi)
            refine hK.out _ _ ⟨(blk_cell BK204.out 0).trans rfl, (blk_cell BK204.out 1).trans rfl, (blk_cell BK217.out 0).trans rfl, (blk_cell BK217.out 1).trans rfl⟩ (fun hHeld => ?_)
            clear hK K
            refine norm_ (a' := ?_) ?_ ?_
            rotate_left
            ·show Act.put _ (some 188) _ = _
             simp only [Act.put, List.setIfInBounds_toArray, List.set_cons_zero, List.set_cons_succ, i64_w, i32_w]
             rfl
            refine pure_ (i := 6) (N := some 182) (v := ?_) (a' := ?_) #[tt, tt, tt, tt, tt, tt, tt, ff, ff, ff, ff, ff] rfl rfl (any_of HT_.out (by kernel_rfl)) (fun _ _ _ h => h) (Or.inl ⟨by rfl, ?_⟩) ?_ ?_
            rotate_left
            ·intro w'
             go_simp
             with_reducible rfl
            rotate_left
            ·simp only [Act.put, List.setIfInBounds_toArray, List.set_cons_zero, List.set_cons_succ, i64_w, i32_w]
             rfl
            refine pure_ (i := 7) (N := some 189) (v := ?_) (a' := ?_) #[tt, tt, tt, tt, tt, tt, tt, tt, ff, ff, ff, ff] rfl rfl (any_of HT_.out (by kernel_rfl)) (fun _ _ _ h => h) (Or.inl ⟨by rfl, ?_⟩) ?_ ?_
            rotate_left
            ·intro w'
             go_simp
             with_reducible rfl
            rotate_left
            ·simp only [Act.put, List.setIfInBounds_toArray, List.set_cons_zero, List.set_cons_succ, i64_w, i32_w]
             rfl
            refine pure_ (i := 8) (N := some 190) (v := ?_) (a' := ?_) #[tt, tt, tt, tt, tt, tt, tt, tt, tt, ff, ff, ff] rfl rfl (any_of HT_.out (by kernel_rfl)) (fun _ _ _ h => h) (Or.inl ⟨by rfl, ?_⟩) ?_ ?_
            rotate_left
            ·intro w'
             go_simp
             with_reducible rfl
            rotate_left
            ·simp only [Act.put, List.setIfInBounds_toArray, List.set_cons_zero, List.set_cons_succ, i64_w, i32_w]
             rfl
            refine one_ (i := 9) (N := some 16) #[tt, tt, tt, tt, tt, tt, tt, tt, tt, tt, ff, ff] rfl rfl (one_of HT_.out (by kernel_rfl)) (by decide) (fun K hK => ?_)
            refine box_step ?hg (N := 16) ?hd (cs := #[.int .i64 0, .int .i64 0]) (t := 41) ?hr ?_; (case hd => rfl); (case hg => rfl); (case hr => first | (go_simp; done) | (go_simp; rfl))
            intro gb230 hg w165 hbox hb
            replace HO_7 := Aside0.mk (Kd.R_below (by (with_reducible repeat (first | apply Kd.R_alloc | apply Kd.R_drewN | apply Kd.R_drew)); exact HO_7.out) hb)
            replace HO226 := Aside0.mk (Kd.R_below (by (with_reducible repeat (first | apply Kd.R_alloc | apply Kd.R_drewN | apply Kd.R_drew)); exact HO226.out) hb)
            have BK230 := Aside0.mk (hbox)
            have GW230 := Aside0.mk ((by rw [hg]; exact (below_size (by repeat (first | (with_reducible first | exact HB.out | apply below_alloc | apply pw_below_drewN | apply below_drew1 | refine below_set ?_ (Aside0.out (by assumption))) | exact HB.out))) : w.heap.size ≤ gb230))
            have GE230 := Aside0.mk ((by rw [hg]; exact (below_size (by repeat (first | (with_reducible first | exact HB.out | apply below_alloc | apply pw_below_drewN | apply below_drew1 | refine below_set ?_ (Aside0.out (by assumption))) | exact HB.out))) : w.heap.size ≤ gb230))
            replace HB := Aside0.mk (below_step (by repeat (first | (with_reducible first | exact HB.out | apply below_alloc | apply pw_below_drewN | apply below_drew1 | refine below_set ?_ (Aside0.out (by assumption))) | exact HB.out)) hb)
            have NB188_230 := Aside0.mk ((by rw [hg]; exact Nat.ne_of_lt (blk_lt BK188.out) : gb188 ≠ gb230))
            have NB230_188 := Aside0.mk ((by rw [hg]; exact Nat.ne_of_gt (blk_lt BK188.out) : gb230 ≠ gb188))
            replace BK188 := Aside0.mk (blk_below (by repeat (first | (with_reducible first | exact BK188.out | refine blk_drewN ?_ _ | refine blk_drew ?_ | refine blk_alloc ?_ _) | exact BK188.out)) hb)
            have NB189_230 := Aside0.mk ((by rw [hg]; exact Nat.ne_of_lt (blk_lt BK189.out) : gb189 ≠ gb230))
            have NB230_189 := Aside0.mk ((by rw [hg]; exact Nat.ne_of_gt (blk_lt BK189.out) : gb230 ≠ gb189))
            replace BK189 := Aside0.mk (blk_below (by repeat (first | (with_reducible first | exact BK189.out | refine blk_drewN ?_ _ | refine blk_drew ?_ | refine blk_alloc ?_ _) | exact BK189.out)) hb)
            have NB204_230 := Aside0.mk ((by rw [hg]; exact Nat.ne_of_lt (blk_lt BK204.out) : gb204 ≠ gb230))
            have NB230_204 := Aside0.mk ((by rw [hg]; exact Nat.ne_of_gt (blk_lt BK204.out) : gb230 ≠ gb204))
            replace BK204 := Aside0.mk (blk_below (by repeat (first | (with_reducible first | exact BK204.out | refine blk_drewN ?_ _ | refine blk_drew ?_ | refine blk_alloc ?_ _) | exact BK204.out)) hb)
            have NB214_230 := Aside0.mk ((by rw [hg]; exact Nat.ne_of_lt (blk_lt BK214.out) : gb214 ≠ gb230))
            have NB230_214 := Aside0.mk ((by rw [hg]; exact Nat.ne_of_gt (blk_lt BK214.out) : gb230 ≠ gb214))
            replace BK214 := Aside0.mk (blk_below (by repeat (first | (with_reducible first | exact BK214.out | refine blk_drewN ?_ _ | refine blk_drew ?_ | refine blk_alloc ?_ _) | exact BK214.out)) hb)
            have NB217_230 := Aside0.mk ((by rw [hg]; exact Nat.ne_of_lt (blk_lt BK217.out) : gb217 ≠ gb230))
            have NB230_217 := Aside0.mk ((by rw [hg]; exact Nat.ne_of_gt (blk_lt BK217.out) : gb230 ≠ gb217))
            replace BK217 := Aside0.mk (blk_below (by repeat (first | (with_reducible first | exact BK217.out | refine blk_drewN ?_ _ | refine blk_drew ?_ | refine blk_alloc ?_ _) | exact BK217.out)) hb)
            clear hb hbox hg
            refine hK.out _ _ ⟨(blk_cell BK204.out 0).trans rfl, (blk_cell BK204.out 1).trans rfl, (blk_cell BK217.out 0).trans rfl, (blk_cell BK217.out 1).trans rfl⟩ (fun hHeld => ?_)
            clear hK K
            refine norm_ (a' := ?_) ?_ ?_
            rotate_left
            ·show Act.put _ (some 16) _ = _
             simp only [Act.put, List.setIfInBounds_toArray, List.set_cons_zero, List.set_cons_succ, i64_w, i32_w]
             rfl
            exact norm_ (by simp only [putAll, Act.put, List.setIfInBounds_toArray, List.set_cons_zero, List.set_cons_succ]) (hCont (v222, .slice Ao163 y224.length co163, gb230) _ ⟨hHeld, (by (with_reducible repeat (first | apply Kd.R_alloc | apply Kd.R_drewN | apply Kd.R_drew)); exact HO226.out), (by (with_reducible repeat (first | apply Kd.R_alloc | apply Kd.R_drewN | apply Kd.R_drew)); exact Kd.R_mono HO_7.out (fun _ hk => hk.2)), (by repeat (first | (with_reducible first | exact BK188.out | refine blk_drewN ?_ _ | refine blk_drew ?_ | refine blk_alloc ?_ _) | exact BK188.out)), (by repeat (first | (with_reducible first | exact BK189.out | refine blk_drewN ?_ _ | refine blk_drew ?_ | refine blk_alloc ?_ _) | exact BK189.out)), (by repeat (first | (with_reducible first | exact BK204.out | refine blk_drewN ?_ _ | refine blk_drew ?_ | refine blk_alloc ?_ _) | exact BK204.out)), (by repeat (first | (with_reducible first | exact BK214.out | refine blk_drewN ?_ _ | refine blk_drew ?_ | refine blk_alloc ?_ _) | exact BK214.out)), (by repeat (first | (with_reducible first | exact BK217.out | refine blk_drewN ?_ _ | refine blk_drew ?_ | refine blk_alloc ?_ _) | exact BK217.out)), (by repeat (first | (with_reducible first | exact BK230.out | refine blk_drewN ?_ _ | refine blk_drew ?_ | refine blk_alloc ?_ _) | exact BK230.out)), GW230.out, GE230.out, NB188_230.out, NB230_188.out, NB189_230.out, NB230_189.out, NB204_230.out, NB230_204.out, NB214_230.out, NB230_214.out, NB217_230.out, NB230_217.out, (by repeat (first | (with_reducible first | exact HB.out | apply below_alloc | apply pw_below_drewN | apply below_drew1 | refine below_set ?_ (Aside0.out (by assumption))) | exact HB.out))⟩)
           skip
           refine box_step ?hg (N := 16) ?hd (cs := #[.int .i64 0, .int .i64 0]) (t := 41) ?hr ?_; (case hd => rfl); (case hg => rfl); (case hr => first | (go_simp; done) | (go_simp; rfl))
           intro gb230 hg w163 hbox hb
           replace HO_7 := Aside0.mk (Kd.R_below (by (with_reducible repeat (first | apply Kd.R_alloc | apply Kd.R_drewN | apply Kd.R_drew)); exact HO_7.out) hb)
           replace HO226 := Aside0.mk (Kd.R_below (by (with_reducible repeat (first | apply Kd.R_alloc | apply Kd.R_drewN | apply Kd.R_drew)); exact HO226.out) hb)
           have BK230 := Aside0.mk (hbox)
           have GW230 := Aside0.mk ((by rw [hg]; exact (below_size (by repeat (first | (with_reducible first | exact HB.out | apply below_alloc | apply pw_below_drewN | apply below_drew1 | refine below_set ?_ (Aside0.out (by assumption))) | exact HB.out))) : w.heap.size ≤ gb230))
           have GE230 := Aside0.mk ((by rw [hg]; exact (below_size (by repeat (first | (with_reducible first | exact HB.out | apply below_alloc | apply pw_below_drewN | apply below_drew1 | refine below_set ?_ (Aside0.out (by assumption))) | exact HB.out))) : w.heap.size ≤ gb230))
           replace HB := Aside0.mk (below_step (by repeat (first | (with_reducible first | exact HB.out | apply below_alloc | apply pw_below_drewN | apply below_drew1 | refine below_set ?_ (Aside0.out (by assumption))) | exact HB.out)) hb)
           have NB188_230 := Aside0.mk ((by rw [hg]; exact Nat.ne_of_lt (blk_lt BK188.out) : gb188 ≠ gb230))
           have NB230_188 := Aside0.mk ((by rw [hg]; exact Nat.ne_of_gt (blk_lt BK188.out) : gb230 ≠ gb188))
           replace BK188 := Aside0.mk (blk_below (by repeat (first | (with_reducible first | exact BK188.out | refine blk_drewN ?_ _ | refine blk_drew ?_ | refine blk_alloc ?_ _) | exact BK188.out)) hb)
           have NB189_230 := Aside0.mk ((by rw [hg]; exact Nat.ne_of_lt (blk_lt BK189.out) : gb189 ≠ gb230))
           have NB230_189 := Aside0.mk ((by rw [hg]; exact Nat.ne_of_gt (blk_lt BK189.out) : gb230 ≠ gb189))
           replace BK189 := Aside0.mk (blk_below (by repeat (first | (with_reducible first | exact BK189.out | refine blk_drewN ?_ _ | refine blk_drew ?_ | refine blk_alloc ?_ _) | exact BK189.out)) hb)
           have NB204_230 := Aside0.mk ((by rw [hg]; exact Nat.ne_of_lt (blk_lt BK204.out) : gb204 ≠ gb230))
           have NB230_204 := Aside0.mk ((by rw [hg]; exact Nat.ne_of_gt (blk_lt BK204.out) : gb230 ≠ gb204))
           replace BK204 := Aside0.mk (blk_below (by repeat (first | (with_reducible first | exact BK204.out | refine blk_drewN ?_ _ | refine blk_drew ?_ | refine blk_alloc ?_ _) | exact BK204.out)) hb)
           have NB214_230 := Aside0.mk ((by rw [hg]; exact Nat.ne_of_lt (blk_lt BK214.out) : gb214 ≠ gb230))
           have NB230_214 := Aside0.mk ((by rw [hg]; exact Nat.ne_of_gt (blk_lt BK214.out) : gb230 ≠ gb214))
           replace BK214 := Aside0.mk (blk_below (by repeat (first | (with_reducible first | exact BK214.out | refine blk_drewN ?_ _ | refine blk_drew ?_ | refine blk_alloc ?_ _) | exact BK214.out)) hb)
           have NB217_230 := Aside0.mk ((by rw [hg]; exact Nat.ne_of_lt (blk_lt BK217.out) : gb217 ≠ gb230))
           have NB230_217 := Aside0.mk ((by rw [hg]; exact Nat.ne_of_gt (blk_lt BK217.out) : gb230 ≠ gb217))
           replace BK217 := Aside0.mk (blk_below (by repeat (first | (with_reducible first | exact BK217.out | refine blk_drewN ?_ _ | refine blk_drew ?_ | refine blk_alloc ?_ _) | exact BK217.out)) hb)
           clear hb hbox hg
           obtain ⟨Ao164, co164, eo164⟩ := Kd.R_slice HO226.out
           (first | subst eo164 | (injection eo164 with f1_ f2_ f3_; have f4_ := f1_.symm; have f5_ := f3_.symm; clear f1_ f2_ f3_; subst f4_; subst f5_))
           refine hK.out _ _ ⟨(blk_cell BK204.out 0).trans rfl, (blk_cell BK204.out 1).trans rfl, (blk_cell BK217.out 0).trans rfl, (blk_cell BK217.out 1).trans rfl⟩ (fun hHeld => ?_)
           clear hK K
           refine norm_ (a' := ?_) ?_ ?_
           rotate_left
           ·show Act.put _ (some 16) _ = _
            simp only [Act.put, List.setIfInBounds_toArray, List.set_cons_zero, List.set_cons_succ, i64_w, i32_w]
            rfl
           refine one_ (i := 5) (N := some 188) #[tt, tt, tt, tt, tt, tt, ff, ff, ff, tt, ff, ff] rfl rfl (one_of HT_.out (by kernel_rfl)) (by decide) (fun K hK => ?_)
           refine goes_ Try.func24 (by kernel_rfl) rfl #[.slice Ao164 y224.length co164, .agg #[.int .i64 t202, .int .i64 t203], .agg #[.int .i64 x218000_118, .int .i64 x218001_118]] (by rfl) rfl rfl (by (try simp only [List.map_toArray, List.map_cons, List.map_nil]); first | done | rfl | (simp only [List.length_drop, List.length_take]; rfl)) ?_
           with_reducible refine (mill_Spare.calls kj118 _ _ y224 t202 t203 x218000_118 x218001_118 t227 t228 t229 _ ?side1 ?side2 A144.out).mono ?_
           (case side1 => repeat (first | exact (Kd.R_reads' HO226.out).2.2 | (with_reducible refine Kd.C_alloc ?_ _) | (with_reducible refine Kd.C_drewN ?_ _) | (with_reducible refine Kd.C_drew ?_)))
           (case side2 => exact (Kd.R_reads' HO226.out).2.1)
           rintro e w165 ⟨rfl, hb⟩
           refine ⟨_, rfl, ?_⟩
           replace HO_7 := Aside0.mk (Kd.R_below (by (with_reducible repeat (first | apply Kd.R_alloc | apply Kd.R_drewN | apply Kd.R_drew)); exact HO_7.out) hb)
           replace HO226 := Aside0.mk (Kd.R_below (by (with_reducible repeat (first | apply Kd.R_alloc | apply Kd.R_drewN | apply Kd.R_drew)); exact HO226.out) hb)
           replace BK188 := Aside0.mk (blk_below (by repeat (first | (with_reducible first | exact BK188.out | refine blk_drewN ?_ _ | refine blk_drew ?_ | refine blk_alloc ?_ _) | exact BK188.out)) hb)
           replace BK189 := Aside0.mk (blk_below (by repeat (first | (with_reducible first | exact BK189.out | refine blk_drewN ?_ _ | refine blk_drew ?_ | refine blk_alloc ?_ _) | exact BK189.out)) hb)
           replace BK204 := Aside0.mk (blk_below (by repeat (first | (with_reducible first | exact BK204.out | refine blk_drewN ?_ _ | refine blk_drew ?_ | refine blk_alloc ?_ _) | exact BK204.out)) hb)
           replace BK214 := Aside0.mk (blk_below (by repeat (first | (with_reducible first | exact BK214.out | refine blk_drewN ?_ _ | refine blk_drew ?_ | refine blk_alloc ?_ _) | exact BK214.out)) hb)
           replace BK217 := Aside0.mk (blk_below (by repeat (first | (with_reducible first | exact BK217.out | refine blk_drewN ?_ _ | refine blk_drew ?_ | refine blk_alloc ?_ _) | exact BK217.out)) hb)
           replace BK230 := Aside0.mk (blk_below (by repeat (first | (with_reducible first | exact BK230.out | refine blk_drewN ?_ _ | refine blk_drew ?_ | refine blk_alloc ?_ _) | exact BK230.out)) hb)
           replace HB := Aside0.mk (below_step (by repeat (first | (with_reducible first | exact HB.out | apply below_alloc | apply pw_below_drewN | apply below_drew1 | refine below_set ?_ (Aside0.out (by assumption))) | exact HB.out)) hb)
           (try clear hb)
           (try clear hb2)
           (try clear hk)
           (try clear hi)
           refine hK.out _ _ ⟨(blk_cell BK204.out 0).trans rfl, (blk_cell BK204.out 1).trans rfl, (blk_cell BK217.out 0).trans rfl, (blk_cell BK217.out 1).trans rfl⟩ (fun hHeld => ?_)
           clear hK K
           refine norm_ (a' := ?_) ?_ ?_
           rotate_left
           ·show Act.put _ (some 188) _ = _
            simp only [Act.put, List.setIfInBounds_toArray, List.set_cons_zero, List.set_cons_succ, i64_w, i32_w]
            rfl
           refine pure_ (i := 6) (N := some 182) (v := ?_) (a' := ?_) #[tt, tt, tt, tt, tt, tt, tt, ff, ff, tt, ff, ff] rfl rfl (any_of HT_.out (by kernel_rfl)) (fun _ _ _ h => h) (Or.inl ⟨by rfl, ?_⟩) ?_ ?_
           rotate_left
           ·intro w'
            go_simp
            with_reducible rfl
           rotate_left
           ·simp only [Act.put, List.setIfInBounds_toArray, List.set_cons_zero, List.set_cons_succ, i64_w, i32_w]
            rfl
           refine pure_ (i := 7) (N := some 189) (v := ?_) (a' := ?_) #[tt, tt, tt, tt, tt, tt, tt, tt, ff, tt, ff, ff] rfl rfl (any_of HT_.out (by kernel_rfl)) (fun _ _ _ h => h) (Or.inl ⟨by rfl, ?_⟩) ?_ ?_
           rotate_left
           ·intro w'
            go_simp
            with_reducible rfl
           rotate_left
           ·simp only [Act.put, List.setIfInBounds_toArray, List.set_cons_zero, List.set_cons_succ, i64_w, i32_w]
            rfl
           refine pure_ (i := 8) (N := some 190) (v := ?_) (a' := ?_) #[tt, tt, tt, tt, tt, tt, tt, tt, tt, tt, ff, ff] rfl rfl (any_of HT_.out (by kernel_rfl)) (fun _ _ _ h => h) (Or.inl ⟨by rfl, ?_⟩) ?_ ?_
           rotate_left
           ·intro w'
            go_simp
            with_reducible rfl
           rotate_left
           ·simp only [Act.put, List.setIfInBounds_toArray, List.set_cons_zero, List.set_cons_succ, i64_w, i32_w]
            rfl
           exact norm_ (by simp only [putAll, Act.put, List.setIfInBounds_toArray, List.set_cons_zero, List.set_cons_succ]) (hCont (v222, .slice Ao164 y224.length co164, gb230) _ ⟨hHeld, (by (with_reducible repeat (first | apply Kd.R_alloc | apply Kd.R_drewN | apply Kd.R_drew)); exact HO226.out), (by (with_reducible repeat (first | apply Kd.R_alloc | apply Kd.R_drewN | apply Kd.R_drew)); exact Kd.R_mono HO_7.out (fun _ hk => hk.2)), (by repeat (first | (with_reducible first | exact BK188.out | refine blk_drewN ?_ _ | refine blk_drew ?_ | refine blk_alloc ?_ _) | exact BK188.out)), (by repeat (first | (with_reducible first | exact BK189.out | refine blk_drewN ?_ _ | refine blk_drew ?_ | refine blk_alloc ?_ _) | exact BK189.out)), (by repeat (first | (with_reducible first | exact BK204.out | refine blk_drewN ?_ _ | refine blk_drew ?_ | refine blk_alloc ?_ _) | exact BK204.out)), (by repeat (first | (with_reducible first | exact BK214.out | refine blk_drewN ?_ _ | refine blk_drew ?_ | refine blk_alloc ?_ _) | exact BK214.out)), (by repeat (first | (with_reducible first | exact BK217.out | refine blk_drewN ?_ _ | refine blk_drew ?_ | refine blk_alloc ?_ _) | exact BK217.out)), (by repeat (first | (with_reducible first | exact BK230.out | refine blk_drewN ?_ _ | refine blk_drew ?_ | refine blk_alloc ?_ _) | exact BK230.out)), GW230.out, GE230.out, NB188_230.out, NB230_188.out, NB189_230.out, NB230_189.out, NB204_230.out, NB230_204.out, NB214_230.out, NB230_214.out, NB217_230.out, NB230_217.out, (by repeat (first | (with_reducible first | exact HB.out | apply below_alloc | apply pw_below_drewN | apply below_drew1 | refine below_set ?_ (Aside0.out (by assumption))) | exact HB.out))⟩)
          skip
          refine box_step ?hg (N := 16) ?hd (cs := #[.int .i64 0, .int .i64 0]) (t := 41) ?hr ?_; (case hd => rfl); (case hg => rfl); (case hr => first | (go_simp; done) | (go_simp; rfl))
          intro gb230 hg w162 hbox hb
          replace HO_7 := Aside0.mk (Kd.R_below (by (with_reducible repeat (first | apply Kd.R_alloc | apply Kd.R_drewN | apply Kd.R_drew)); exact HO_7.out) hb)
          replace HO223 := Aside0.mk (Kd.R_below (by (with_reducible repeat (first | apply Kd.R_alloc | apply Kd.R_drewN | apply Kd.R_drew)); exact HO223.out) hb)
          have BK230 := Aside0.mk (hbox)
          have GW230 := Aside0.mk ((by rw [hg]; exact (below_size (by repeat (first | (with_reducible first | exact HB.out | apply below_alloc | apply pw_below_drewN | apply below_drew1 | refine below_set ?_ (Aside0.out (by assumption))) | exact HB.out))) : w.heap.size ≤ gb230))
          have GE230 := Aside0.mk ((by rw [hg]; exact (below_size (by repeat (first | (with_reducible first | exact HB.out | apply below_alloc | apply pw_below_drewN | apply below_drew1 | refine below_set ?_ (Aside0.out (by assumption))) | exact HB.out))) : w.heap.size ≤ gb230))
          replace HB := Aside0.mk (below_step (by repeat (first | (with_reducible first | exact HB.out | apply below_alloc | apply pw_below_drewN | apply below_drew1 | refine below_set ?_ (Aside0.out (by assumption))) | exact HB.out)) hb)
          have NB188_230 := Aside0.mk ((by rw [hg]; exact Nat.ne_of_lt (blk_lt BK188.out) : gb188 ≠ gb230))
          have NB230_188 := Aside0.mk ((by rw [hg]; exact Nat.ne_of_gt (blk_lt BK188.out) : gb230 ≠ gb188))
          replace BK188 := Aside0.mk (blk_below (by repeat (first | (with_reducible first | exact BK188.out | refine blk_drewN ?_ _ | refine blk_drew ?_ | refine blk_alloc ?_ _) | exact BK188.out)) hb)
          have NB189_230 := Aside0.mk ((by rw [hg]; exact Nat.ne_of_lt (blk_lt BK189.out) : gb189 ≠ gb230))
          have NB230_189 := Aside0.mk ((by rw [hg]; exact Nat.ne_of_gt (blk_lt BK189.out) : gb230 ≠ gb189))
          replace BK189 := Aside0.mk (blk_below (by repeat (first | (with_reducible first | exact BK189.out | refine blk_drewN ?_ _ | refine blk_drew ?_ | refine blk_alloc ?_ _) | exact BK189.out)) hb)
          have NB204_230 := Aside0.mk ((by rw [hg]; exact Nat.ne_of_lt (blk_lt BK204.out) : gb204 ≠ gb230))
          have NB230_204 := Aside0.mk ((by rw [hg]; exact Nat.ne_of_gt (blk_lt BK204.out) : gb230 ≠ gb204))
          replace BK204 := Aside0.mk (blk_below (by repeat (first | (with_reducible first | exact BK204.out | refine blk_drewN ?_ _ | refine blk_drew ?_ | refine blk_alloc ?_ _) | exact BK204.out)) hb)
          have NB214_230 := Aside0.mk ((by rw [hg]; exact Nat.ne_of_lt (blk_lt BK214.out) : gb214 ≠ gb230))
          have NB230_214 := Aside0.mk ((by rw [hg]; exact Nat.ne_of_gt (blk_lt BK214.out) : gb230 ≠ gb214))
          replace BK214 := Aside0.mk (blk_below (by repeat (first | (with_reducible first | exact BK214.out | refine blk_drewN ?_ _ | refine blk_drew ?_ | refine blk_alloc ?_ _) | exact BK214.out)) hb)
          have NB217_230 := Aside0.mk ((by rw [hg]; exact Nat.ne_of_lt (blk_lt BK217.out) : gb217 ≠ gb230))
          have NB230_217 := Aside0.mk ((by rw [hg]; exact Nat.ne_of_gt (blk_lt BK217.out) : gb230 ≠ gb217))
          replace BK217 := Aside0.mk (blk_below (by repeat (first | (with_reducible first | exact BK217.out | refine blk_drewN ?_ _ | refine blk_drew ?_ | refine blk_alloc ?_ _) | exact BK217.out)) hb)
          clear hb hbox hg
          refine hK.out _ _ ⟨(blk_cell BK204.out 0).trans rfl, (blk_cell BK204.out 1).trans rfl, (blk_cell BK217.out 0).trans rfl, (blk_cell BK217.out 1).trans rfl⟩ (fun hHeld => ?_)
          clear hK K
          refine norm_ (a' := ?_) ?_ ?_
          rotate_left
          ·show Act.put _ (some 16) _ = _
           simp only [Act.put, List.setIfInBounds_toArray, List.set_cons_zero, List.set_cons_succ, i64_w, i32_w]
           rfl
          refine one_ (i := 2) (N := some 185) #[tt, tt, tt, tt, tt, ff, ff, ff, ff, tt, ff, ff] rfl rfl (one_of HT_.out (by kernel_rfl)) (by decide) (fun K hK => ?_)
          refine Kd.R_append_rows_step k46 (w0 := w) w.heap.size (by rfl) (.tmp 183) (.tmp 184) 39 46 (.agg #[(.int .i64 0), (.int .i64 0)]) 16 rfl Try.underlying39 info46 rfl (by decide) (by omega) v222 y221 x7_1 _ _ _ (fun k_ => some k_ ≠ (.slice Ao45 x7_1.length co45 : Value).ownBlock) (fun _ => False) rfl rfl ?aO ?aR (fun _ _ h => h) (fun _ h => h.elim) ?aF ?aB ?aS ?aL ?_
          (case aR => repeat (first | exact (Kd.R_reads' HO_7.out).2.2 | (with_reducible refine Kd.C_alloc ?_ _) | (with_reducible refine Kd.C_drewN ?_ _) | (with_reducible refine Kd.C_drew ?_)))
          (case aB => exact (by repeat (first | (with_reducible first | exact HB.out | apply below_alloc | apply pw_below_drewN | apply below_drew1 | refine below_set ?_ (Aside0.out (by assumption))) | exact HB.out)))
          (case aF => exact (fun k_ hk => Kd.fresh' (Kd.R_lt (by (with_reducible repeat (first | apply Kd.R_alloc | apply Kd.R_drewN | apply Kd.R_drew)); exact HO_7.out)) k_ hk))
          (case aO => exact (by (with_reducible repeat (first | apply Kd.R_alloc | apply Kd.R_drewN | apply Kd.R_drew)); exact Kd.R_mono HO223.out (fun _ hk => hk.2)))
          (case aS => exact (below_size (by repeat (first | (with_reducible first | exact HB.out | apply below_alloc | apply pw_below_drewN | apply below_drew1 | refine below_set ?_ (Aside0.out (by assumption))) | exact HB.out))))
          (case aL => have := LMc143.out; omega)
          intro v225 w163 ho hb hg hat
          rw [← Ny224.out] at ho
          have n0_ := Aside0.mk (Kd.R_after (ok := (fun _ => True)) (by (with_reducible repeat (first | apply Kd.R_alloc | apply Kd.R_drewN | apply Kd.R_drew)); exact HO_7.out) hg hat)
          have n1_ := Aside0.mk (blk_grown (by repeat (first | (with_reducible first | exact BK188.out | refine blk_drewN ?_ _ | refine blk_drew ?_ | refine blk_alloc ?_ _) | exact BK188.out)) hg (Kd.R_ne HO223.out BK188.out (by decide)))
          have n2_ := Aside0.mk (blk_grown (by repeat (first | (with_reducible first | exact BK189.out | refine blk_drewN ?_ _ | refine blk_drew ?_ | refine blk_alloc ?_ _) | exact BK189.out)) hg (Kd.R_ne HO223.out BK189.out (by decide)))
          have n3_ := Aside0.mk (blk_grown (by repeat (first | (with_reducible first | exact BK204.out | refine blk_drewN ?_ _ | refine blk_drew ?_ | refine blk_alloc ?_ _) | exact BK204.out)) hg (Kd.R_ne HO223.out BK204.out (by decide)))
          have n4_ := Aside0.mk (blk_grown (by repeat (first | (with_reducible first | exact BK214.out | refine blk_drewN ?_ _ | refine blk_drew ?_ | refine blk_alloc ?_ _) | exact BK214.out)) hg (Kd.R_ne HO223.out BK214.out (by decide)))
          have n5_ := Aside0.mk (blk_grown (by repeat (first | (with_reducible first | exact BK217.out | refine blk_drewN ?_ _ | refine blk_drew ?_ | refine blk_alloc ?_ _) | exact BK217.out)) hg (Kd.R_ne HO223.out BK217.out (by decide)))
          have n6_ := Aside0.mk (blk_grown (by repeat (first | (with_reducible first | exact BK230.out | refine blk_drewN ?_ _ | refine blk_drew ?_ | refine blk_alloc ?_ _) | exact BK230.out)) hg (Kd.R_ne HO223.out BK230.out (by decide)))
          have n7_ := Aside0.mk (hb)
          have n8_ := Aside0.mk (ho)
          clear HO_7
          clear BK188
          clear BK189
          clear BK204
          clear BK214
          clear BK217
          clear BK230
          clear HB
          clear HO223
          have HO_7 := n0_
          have BK188 := n1_
          have BK189 := n2_
          have BK204 := n3_
          have BK214 := n4_
          have BK217 := n5_
          have BK230 := n6_
          have HB := n7_
          have HO226 := n8_
          clear n0_ n1_ n2_ n3_ n4_ n5_ n6_ n7_ n8_
          clear ho hb hg hat
          obtain ⟨Ao164, co164, eo164⟩ := Kd.R_slice HO226.out
          (first | subst eo164 | (injection eo164 with f1_ f2_ f3_; have f4_ := f1_.symm; have f5_ := f3_.symm; clear f1_ f2_ f3_; subst f4_; subst f5_))
          refine hK.out _ _ ⟨(blk_cell BK204.out 0).trans rfl, (blk_cell BK204.out 1).trans rfl, (blk_cell BK217.out 0).trans rfl, (blk_cell BK217.out 1).trans rfl⟩ (fun hHeld => ?_)
          clear hK K
          refine norm_ (a' := ?_) ?_ ?_
          rotate_left
          ·show Act.put _ (some 185) _ = _
           simp only [Act.put, List.setIfInBounds_toArray, List.set_cons_zero, List.set_cons_succ, i64_w, i32_w]
           rfl
          refine one_ (i := 5) (N := some 188) #[tt, tt, tt, tt, tt, tt, ff, ff, ff, tt, ff, ff] rfl rfl (one_of HT_.out (by kernel_rfl)) (by decide) (fun K hK => ?_)
          refine goes_ Try.func24 (by kernel_rfl) rfl #[.slice Ao164 y224.length co164, .agg #[.int .i64 t202, .int .i64 t203], .agg #[.int .i64 x218000_118, .int .i64 x218001_118]] (by rfl) rfl rfl (by (try simp only [List.map_toArray, List.map_cons, List.map_nil]); first | done | rfl | (simp only [List.length_drop, List.length_take]; rfl)) ?_
          with_reducible refine (mill_Spare.calls kj118 _ _ y224 t202 t203 x218000_118 x218001_118 t227 t228 t229 _ ?side1 ?side2 A144.out).mono ?_
          (case side1 => repeat (first | exact (Kd.R_reads' HO226.out).2.2 | (with_reducible refine Kd.C_alloc ?_ _) | (with_reducible refine Kd.C_drewN ?_ _) | (with_reducible refine Kd.C_drew ?_)))
          (case side2 => exact (Kd.R_reads' HO226.out).2.1)
          rintro e w165 ⟨rfl, hb⟩
          refine ⟨_, rfl, ?_⟩
          replace HO_7 := Aside0.mk (Kd.R_below (by (with_reducible repeat (first | apply Kd.R_alloc | apply Kd.R_drewN | apply Kd.R_drew)); exact HO_7.out) hb)
          replace HO226 := Aside0.mk (Kd.R_below (by (with_reducible repeat (first | apply Kd.R_alloc | apply Kd.R_drewN | apply Kd.R_drew)); exact HO226.out) hb)
          replace BK188 := Aside0.mk (blk_below (by repeat (first | (with_reducible first | exact BK188.out | refine blk_drewN ?_ _ | refine blk_drew ?_ | refine blk_alloc ?_ _) | exact BK188.out)) hb)
          replace BK189 := Aside0.mk (blk_below (by repeat (first | (with_reducible first | exact BK189.out | refine blk_drewN ?_ _ | refine blk_drew ?_ | refine blk_alloc ?_ _) | exact BK189.out)) hb)
          replace BK204 := Aside0.mk (blk_below (by repeat (first | (with_reducible first | exact BK204.out | refine blk_drewN ?_ _ | refine blk_drew ?_ | refine blk_alloc ?_ _) | exact BK204.out)) hb)
          replace BK214 := Aside0.mk (blk_below (by repeat (first | (with_reducible first | exact BK214.out | refine blk_drewN ?_ _ | refine blk_drew ?_ | refine blk_alloc ?_ _) | exact BK214.out)) hb)
          replace BK217 := Aside0.mk (blk_below (by repeat (first | (with_reducible first | exact BK217.out | refine blk_drewN ?_ _ | refine blk_drew ?_ | refine blk_alloc ?_ _) | exact BK217.out)) hb)
          replace BK230 := Aside0.mk (blk_below (by repeat (first | (with_reducible first | exact BK230.out | refine blk_drewN ?_ _ | refine blk_drew ?_ | refine blk_alloc ?_ _) | exact BK230.out)) hb)
          replace HB := Aside0.mk (below_step (by repeat (first | (with_reducible first | exact HB.out | apply below_alloc | apply pw_below_drewN | apply below_drew1 | refine below_set ?_ (Aside0.out (by assumption))) | exact HB.out)) hb)
          (try clear hb)
          (try clear hb2)
          (try clear hk)
          (try clear hi)
          refine hK.out _ _ ⟨(blk_cell BK204.out 0).trans rfl, (blk_cell BK204.out 1).trans rfl, (blk_cell BK217.out 0).trans rfl, (blk_cell BK217.out 1).trans rfl⟩ (fun hHeld => ?_)
          clear hK K
          refine norm_ (a' := ?_) ?_ ?_
          rotate_left
          ·show Act.put _ (some 188) _ = _
           simp only [Act.put, List.setIfInBounds_toArray, List.set_cons_zero, List.set_cons_succ, i64_w, i32_w]
           rfl
          refine pure_ (i := 6) (N := some 182) (v := ?_) (a' := ?_) #[tt, tt, tt, tt, tt, tt, tt, ff, ff, tt, ff, ff] rfl rfl (any_of HT_.out (by kernel_rfl)) (fun _ _ _ h => h) (Or.inl ⟨by rfl, ?_⟩) ?_ ?_
          rotate_left
          ·intro w'
           go_simp
           with_reducible rfl
          rotate_left
          ·simp only [Act.put, List.setIfInBounds_toArray, List.set_cons_zero, List.set_cons_succ, i64_w, i32_w]
           rfl
          refine pure_ (i := 7) (N := some 189) (v := ?_) (a' := ?_) #[tt, tt, tt, tt, tt, tt, tt, tt, ff, tt, ff, ff] rfl rfl (any_of HT_.out (by kernel_rfl)) (fun _ _ _ h => h) (Or.inl ⟨by rfl, ?_⟩) ?_ ?_
          rotate_left
          ·intro w'
           go_simp
           with_reducible rfl
          rotate_left
          ·simp only [Act.put, List.setIfInBounds_toArray, List.set_cons_zero, List.set_cons_succ, i64_w, i32_w]
           rfl
          refine pure_ (i := 8) (N := some 190) (v := ?_) (a' := ?_) #[tt, tt, tt, tt, tt, tt, tt, tt, tt, tt, ff, ff] rfl rfl (any_of HT_.out (by kernel_rfl)) (fun _ _ _ h => h) (Or.inl ⟨by rfl, ?_⟩) ?_ ?_
          rotate_left
          ·intro w'
           go_simp
           with_reducible rfl
          rotate_left
          ·simp only [Act.put, List.setIfInBounds_toArray, List.set_cons_zero, List.set_cons_succ, i64_w, i32_w]
           rfl
          exact norm_ (by simp only [putAll, Act.put, List.setIfInBounds_toArray, List.set_cons_zero, List.set_cons_succ]) (hCont (v222, .slice Ao164 y224.length co164, gb230) _ ⟨hHeld, (by (with_reducible repeat (first | apply Kd.R_alloc | apply Kd.R_drewN | apply Kd.R_drew)); exact HO226.out), (by (with_reducible repeat (first | apply Kd.R_alloc | apply Kd.R_drewN | apply Kd.R_drew)); exact Kd.R_mono HO_7.out (fun _ hk => hk.2)), (by repeat (first | (with_reducible first | exact BK188.out | refine blk_drewN ?_ _ | refine blk_drew ?_ | refine blk_alloc ?_ _) | exact BK188.out)), (by repeat (first | (with_reducible first | exact BK189.out | refine blk_drewN ?_ _ | refine blk_drew ?_ | refine blk_alloc ?_ _) | exact BK189.out)), (by repeat (first | (with_reducible first | exact BK204.out | refine blk_drewN ?_ _ | refine blk_drew ?_ | refine blk_alloc ?_ _) | exact BK204.out)), (by repeat (first | (with_reducible first | exact BK214.out | refine blk_drewN ?_ _ | refine blk_drew ?_ | refine blk_alloc ?_ _) | exact BK214.out)), (by repeat (first | (with_reducible first | exact BK217.out | refine blk_drewN ?_ _ | refine blk_drew ?_ | refine blk_alloc ?_ _) | exact BK217.out)), (by repeat (first | (with_reducible first | exact BK230.out | refine blk_drewN ?_ _ | refine blk_drew ?_ | refine blk_alloc ?_ _) | exact BK230.out)), GW230.out, GE230.out, NB188_230.out, NB230_188.out, NB189_230.out, NB230_189.out, NB204_230.out, NB230_204.out, NB214_230.out, NB230_214.out, NB217_230.out, NB230_217.out, (by repeat (first | (with_reducible first | exact HB.out | apply below_alloc | apply pw_below_drewN | apply below_drew1 | refine below_set ?_ (Aside0.out (by assumption))) | exact HB.out))⟩)
         skip
         refine box_step ?hg (N := 16) ?hd (cs := #[.int .i64 0, .int .i64 0]) (t := 41) ?hr ?_; (case hd => rfl); (case hg => rfl); (case hr => first | (go_simp; done) | (go_simp; rfl))
         intro gb230 hg w160 hbox hb
         replace HO_7 := Aside0.mk (Kd.R_below (by (with_reducible repeat (first | apply Kd.R_alloc | apply Kd.R_drewN | apply Kd.R_drew)); exact HO_7.out) hb)
         have BK230 := Aside0.mk (hbox)
         have GW230 := Aside0.mk ((by rw [hg]; exact (below_size (by repeat (first | (with_reducible first | exact HB.out | apply below_alloc | apply pw_below_drewN | apply below_drew1 | refine below_set ?_ (Aside0.out (by assumption))) | exact HB.out))) : w.heap.size ≤ gb230))
         have GE230 := Aside0.mk ((by rw [hg]; exact (below_size (by repeat (first | (with_reducible first | exact HB.out | apply below_alloc | apply pw_below_drewN | apply below_drew1 | refine below_set ?_ (Aside0.out (by assumption))) | exact HB.out))) : w.heap.size ≤ gb230))
         replace HB := Aside0.mk (below_step (by repeat (first | (with_reducible first | exact HB.out | apply below_alloc | apply pw_below_drewN | apply below_drew1 | refine below_set ?_ (Aside0.out (by assumption))) | exact HB.out)) hb)
         have NB188_230 := Aside0.mk ((by rw [hg]; exact Nat.ne_of_lt (blk_lt BK188.out) : gb188 ≠ gb230))
         have NB230_188 := Aside0.mk ((by rw [hg]; exact Nat.ne_of_gt (blk_lt BK188.out) : gb230 ≠ gb188))
         replace BK188 := Aside0.mk (blk_below (by repeat (first | (with_reducible first | exact BK188.out | refine blk_drewN ?_ _ | refine blk_drew ?_ | refine blk_alloc ?_ _) | exact BK188.out)) hb)
         have NB189_230 := Aside0.mk ((by rw [hg]; exact Nat.ne_of_lt (blk_lt BK189.out) : gb189 ≠ gb230))
         have NB230_189 := Aside0.mk ((by rw [hg]; exact Nat.ne_of_gt (blk_lt BK189.out) : gb230 ≠ gb189))
         replace BK189 := Aside0.mk (blk_below (by repeat (first | (with_reducible first | exact BK189.out | refine blk_drewN ?_ _ | refine blk_drew ?_ | refine blk_alloc ?_ _) | exact BK189.out)) hb)
         have NB204_230 := Aside0.mk ((by rw [hg]; exact Nat.ne_of_lt (blk_lt BK204.out) : gb204 ≠ gb230))
         have NB230_204 := Aside0.mk ((by rw [hg]; exact Nat.ne_of_gt (blk_lt BK204.out) : gb230 ≠ gb204))
         replace BK204 := Aside0.mk (blk_below (by repeat (first | (with_reducible first | exact BK204.out | refine blk_drewN ?_ _ | refine blk_drew ?_ | refine blk_alloc ?_ _) | exact BK204.out)) hb)
         have NB214_230 := Aside0.mk ((by rw [hg]; exact Nat.ne_of_lt (blk_lt BK214.out) : gb214 ≠ gb230))
         have NB230_214 := Aside0.mk ((by rw [hg]; exact Nat.ne_of_gt (blk_lt BK214.out) : gb230 ≠ gb214))
         replace BK214 := Aside0.mk (blk_below (by repeat (first | (with_reducible first | exact BK214.out | refine blk_drewN ?_ _ | refine blk_drew ?_ | refine blk_alloc ?_ _) | exact BK214.out)) hb)
         have NB217_230 := Aside0.mk ((by rw [hg]; exact Nat.ne_of_lt (blk_lt BK217.out) : gb217 ≠ gb230))
         have NB230_217 := Aside0.mk ((by rw [hg]; exact Nat.ne_of_gt (blk_lt BK217.out) : gb230 ≠ gb217))
         replace BK217 := Aside0.mk (blk_below (by repeat (first | (with_reducible first | exact BK217.out | refine blk_drewN ?_ _ | refine blk_drew ?_ | refine blk_alloc ?_ _) | exact BK217.out)) hb)
         clear hb hbox hg
         refine hK.out _ _ ⟨(blk_cell BK204.out 0).trans rfl, (blk_cell BK204.out 1).trans rfl, (blk_cell BK217.out 0).trans rfl, (blk_cell BK217.out 1).trans rfl⟩ (fun hHeld => ?_)
         clear hK K
         refine norm_ (a' := ?_) ?_ ?_
         rotate_left
         ·show Act.put _ (some 16) _ = _
          simp only [Act.put, List.setIfInBounds_toArray, List.set_cons_zero, List.set_cons_succ, i64_w, i32_w]
          rfl
         refine one_ (i := 0) (N := some 183) #[tt, tt, ff, tt, tt, ff, ff, ff, ff, tt, ff, ff] rfl rfl (one_of HT_.out (by kernel_rfl)) (by decide) (fun K hK => ?_)
         refine Kd.R_lit_step k46 _ 46 ?hg (N := 183) ?hd (xs := ([] : List (S46))) (inner := []) (ok := fun _ => True) (okp := fun _ => True) ?hr ?hp (fun _ hk => hk) trivial (Below.refl _ _) (Nat.le_refl _) (by simp) ?_; (case hd => rfl); (case hg => rfl); (case hr => first | (go_simp; done) | (go_simp; rfl)); (case hp => exact (Reps.none _ _))
         intro v222 w161 ho162 hb hg_ hnew_
         clear hg_ hnew_
         (first | rw [← Ny221.out] at ho162 | (simp only [Int.reduceToNat] at ho162; rw [← Ny221.out] at ho162))
         have HO223 := Aside0.mk (Kd.R_lower (Kd.R_new' ho162 (Kd.R_lt (by (with_reducible repeat (first | apply Kd.R_alloc | apply Kd.R_drewN | apply Kd.R_drew)); exact HO_7.out))) (below_size (by repeat (first | (with_reducible first | exact HB.out | apply below_alloc | apply pw_below_drewN | apply below_drew1 | refine below_set ?_ (Aside0.out (by assumption))) | exact HB.out))))
         replace HO_7 := Aside0.mk (Kd.R_elder' (by (with_reducible repeat (first | apply Kd.R_alloc | apply Kd.R_drewN | apply Kd.R_drew)); exact HO_7.out) (Kd.R_base ho162) hb)
         replace BK188 := Aside0.mk (blk_below (by repeat (first | (with_reducible first | exact BK188.out | refine blk_drewN ?_ _ | refine blk_drew ?_ | refine blk_alloc ?_ _) | exact BK188.out)) hb)
         replace BK189 := Aside0.mk (blk_below (by repeat (first | (with_reducible first | exact BK189.out | refine blk_drewN ?_ _ | refine blk_drew ?_ | refine blk_alloc ?_ _) | exact BK189.out)) hb)
         replace BK204 := Aside0.mk (blk_below (by repeat (first | (with_reducible first | exact BK204.out | refine blk_drewN ?_ _ | refine blk_drew ?_ | refine blk_alloc ?_ _) | exact BK204.out)) hb)
         replace BK214 := Aside0.mk (blk_below (by repeat (first | (with_reducible first | exact BK214.out | refine blk_drewN ?_ _ | refine blk_drew ?_ | refine blk_alloc ?_ _) | exact BK214.out)) hb)
         replace BK217 := Aside0.mk (blk_below (by repeat (first | (with_reducible first | exact BK217.out | refine blk_drewN ?_ _ | refine blk_drew ?_ | refine blk_alloc ?_ _) | exact BK217.out)) hb)
         replace BK230 := Aside0.mk (blk_below (by repeat (first | (with_reducible first | exact BK230.out | refine blk_drewN ?_ _ | refine blk_drew ?_ | refine blk_alloc ?_ _) | exact BK230.out)) hb)
         replace HB := Aside0.mk (below_step (by repeat (first | (with_reducible first | exact HB.out | apply below_alloc | apply pw_below_drewN | apply below_drew1 | refine below_set ?_ (Aside0.out (by assumption))) | exact HB.out)) hb)
         clear hb ho162
         refine hK.out _ _ ⟨(blk_cell BK204.out 0).trans rfl, (blk_cell BK204.out 1).trans rfl, (blk_cell BK217.out 0).trans rfl, (blk_cell BK217.out 1).trans rfl⟩ (fun hHeld => ?_)
         clear hK K
         refine norm_ (a' := ?_) ?_ ?_
         rotate_left
         ·show Act.put _ (some 183) _ = _
          simp only [Act.put, List.setIfInBounds_toArray, List.set_cons_zero, List.set_cons_succ, i64_w, i32_w]
          rfl
         refine one_ (i := 2) (N := some 185) #[tt, tt, tt, tt, tt, ff, ff, ff, ff, tt, ff, ff] rfl rfl (one_of HT_.out (by kernel_rfl)) (by decide) (fun K hK => ?_)
         refine Kd.R_append_rows_step k46 (w0 := w) w.heap.size (by rfl) (.tmp 183) (.tmp 184) 39 46 (.agg #[(.int .i64 0), (.int .i64 0)]) 16 rfl Try.underlying39 info46 rfl (by decide) (by omega) v222 y221 x7_1 _ _ _ (fun k_ => some k_ ≠ (.slice Ao45 x7_1.length co45 : Value).ownBlock) (fun _ => False) rfl rfl ?aO ?aR (fun _ _ h => h) (fun _ h => h.elim) ?aF ?aB ?aS ?aL ?_
         (case aR => repeat (first | exact (Kd.R_reads' HO_7.out).2.2 | (with_reducible refine Kd.C_alloc ?_ _) | (with_reducible refine Kd.C_drewN ?_ _) | (with_reducible refine Kd.C_drew ?_)))
         (case aB => exact (by repeat (first | (with_reducible first | exact HB.out | apply below_alloc | apply pw_below_drewN | apply below_drew1 | refine below_set ?_ (Aside0.out (by assumption))) | exact HB.out)))
         (case aF => exact (fun k_ hk => Kd.fresh' (Kd.R_lt (by (with_reducible repeat (first | apply Kd.R_alloc | apply Kd.R_drewN | apply Kd.R_drew)); exact HO_7.out)) k_ hk))
         (case aO => exact (by (with_reducible repeat (first | apply Kd.R_alloc | apply Kd.R_drewN | apply Kd.R_drew)); exact Kd.R_mono HO223.out (fun _ hk => hk.2)))
         (case aS => exact (below_size (by repeat (first | (with_reducible first | exact HB.out | apply below_alloc | apply pw_below_drewN | apply below_drew1 | refine below_set ?_ (Aside0.out (by assumption))) | exact HB.out))))
         (case aL => have := LMc143.out; omega)
         intro v225 w163 ho hb hg hat
         rw [← Ny224.out] at ho
         have n0_ := Aside0.mk (Kd.R_after (ok := (fun _ => True)) (by (with_reducible repeat (first | apply Kd.R_alloc | apply Kd.R_drewN | apply Kd.R_drew)); exact HO_7.out) hg hat)
         have n1_ := Aside0.mk (blk_grown (by repeat (first | (with_reducible first | exact BK188.out | refine blk_drewN ?_ _ | refine blk_drew ?_ | refine blk_alloc ?_ _) | exact BK188.out)) hg (Kd.R_ne HO223.out BK188.out (by decide)))
         have n2_ := Aside0.mk (blk_grown (by repeat (first | (with_reducible first | exact BK189.out | refine blk_drewN ?_ _ | refine blk_drew ?_ | refine blk_alloc ?_ _) | exact BK189.out)) hg (Kd.R_ne HO223.out BK189.out (by decide)))
         have n3_ := Aside0.mk (blk_grown (by repeat (first | (with_reducible first | exact BK204.out | refine blk_drewN ?_ _ | refine blk_drew ?_ | refine blk_alloc ?_ _) | exact BK204.out)) hg (Kd.R_ne HO223.out BK204.out (by decide)))
         have n4_ := Aside0.mk (blk_grown (by repeat (first | (with_reducible first | exact BK214.out | refine blk_drewN ?_ _ | refine blk_drew ?_ | refine blk_alloc ?_ _) | exact BK214.out)) hg (Kd.R_ne HO223.out BK214.out (by decide)))
         have n5_ := Aside0.mk (blk_grown (by repeat (first | (with_reducible first | exact BK217.out | refine blk_drewN ?_ _ | refine blk_drew ?_ | refine blk_alloc ?_ _) | exact BK217.out)) hg (Kd.R_ne HO223.out BK217.out (by decide)))
         have n6_ := Aside0.mk (blk_grown (by repeat (first | (with_reducible first | exact BK230.out | refine blk_drewN ?_ _ | refine blk_drew ?_ | refine blk_alloc ?_ _) | exact BK230.out)) hg (Kd.R_ne HO223.out BK230.out (by decide)))
         have n7_ := Aside0.mk (hb)
         have n8_ := Aside0.mk (ho)
         clear HO_7
         clear BK188
         clear BK189
         clear BK204
         clear BK214
         clear BK217
         clear BK230
         clear HB
         clear HO223
         have HO_7 := n0_
         have BK188 := n1_
         have BK189 := n2_
         have BK204 := n3_
         have BK214 := n4_
         have BK217 := n5_
         have BK230 := n6_
         have HB := n7_
         have HO226 := n8_
         clear n0_ n1_ n2_ n3_ n4_ n5_ n6_ n7_ n8_
         clear ho hb hg hat
         obtain ⟨Ao164, co164, eo164⟩ := Kd.R_slice HO226.out
         (first | subst eo164 | (injection eo164 with f1_ f2_ f3_; have f4_ := f1_.symm; have f5_ := f3_.symm; clear f1_ f2_ f3_; subst f4_; subst f5_))
         refine hK.out _ _ ⟨(blk_cell BK204.out 0).trans rfl, (blk_cell BK204.out 1).trans rfl, (blk_cell BK217.out 0).trans rfl, (blk_cell BK217.out 1).trans rfl⟩ (fun hHeld => ?_)
         clear hK K
         refine norm_ (a' := ?_) ?_ ?_
         rotate_left
         ·show Act.put _ (some 185) _ = _
          simp only [Act.put, List.setIfInBounds_toArray, List.set_cons_zero, List.set_cons_succ, i64_w, i32_w]
          rfl
         refine one_ (i := 5) (N := some 188) #[tt, tt, tt, tt, tt, tt, ff, ff, ff, tt, ff, ff] rfl rfl (one_of HT_.out (by kernel_rfl)) (by decide) (fun K hK => ?_)
         refine goes_ Try.func24 (by kernel_rfl) rfl #[.slice Ao164 y224.length co164, .agg #[.int .i64 t202, .int .i64 t203], .agg #[.int .i64 x218000_118, .int .i64 x218001_118]] (by rfl) rfl rfl (by (try simp only [List.map_toArray, List.map_cons, List.map_nil]); first | done | rfl | (simp only [List.length_drop, List.length_take]; rfl)) ?_
         with_reducible refine (mill_Spare.calls kj118 _ _ y224 t202 t203 x218000_118 x218001_118 t227 t228 t229 _ ?side1 ?side2 A144.out).mono ?_
         (case side1 => repeat (first | exact (Kd.R_reads' HO226.out).2.2 | (with_reducible refine Kd.C_alloc ?_ _) | (with_reducible refine Kd.C_drewN ?_ _) | (with_reducible refine Kd.C_drew ?_)))
         (case side2 => exact (Kd.R_reads' HO226.out).2.1)
         rintro e w165 ⟨rfl, hb⟩
         refine ⟨_, rfl, ?_⟩
         replace HO_7 := Aside0.mk (Kd.R_below (by (with_reducible repeat (first | apply Kd.R_alloc | apply Kd.R_drewN | apply Kd.R_drew)); exact HO_7.out) hb)
         replace HO226 := Aside0.mk (Kd.R_below (by (with_reducible repeat (first | apply Kd.R_alloc | apply Kd.R_drewN | apply Kd.R_drew)); exact HO226.out) hb)
         replace BK188 := Aside0.mk (blk_below (by repeat (first | (with_reducible first | exact BK188.out | refine blk_drewN ?_ _ | refine blk_drew ?_ | refine blk_alloc ?_ _) | exact BK188.out)) hb)
         replace BK189 := Aside0.mk (blk_below (by repeat (first | (with_reducible first | exact BK189.out | refine blk_drewN ?_ _ | refine blk_drew ?_ | refine blk_alloc ?_ _) | exact BK189.out)) hb)
         replace BK204 := Aside0.mk (blk_below (by repeat (first | (with_reducible first | exact BK204.out | refine blk_drewN ?_ _ | refine blk_drew ?_ | refine blk_alloc ?_ _) | exact BK204.out)) hb)
         replace BK214 := Aside0.mk (blk_below (by repeat (first | (with_reducible first | exact BK214.out | refine blk_drewN ?_ _ | refine blk_drew ?_ | refine blk_alloc ?_ _) | exact BK214.out)) hb)
         replace BK217 := Aside0.mk (blk_below (by repeat (first | (with_reducible first | exact BK217.out | refine blk_drewN ?_ _ | refine blk_drew ?_ | refine blk_alloc ?_ _) | exact BK217.out)) hb)
         replace BK230 := Aside0.mk (blk_below (by repeat (first | (with_reducible first | exact BK230.out | refine blk_drewN ?_ _ | refine blk_drew ?_ | refine blk_alloc ?_ _) | exact BK230.out)) hb)
         replace HB := Aside0.mk (below_step (by repeat (first | (with_reducible first | exact HB.out | apply below_alloc | apply pw_below_drewN | apply below_drew1 | refine below_set ?_ (Aside0.out (by assumption))) | exact HB.out)) hb)
         (try clear hb)
         (try clear hb2)
         (try clear hk)
         (try clear hi)
         refine hK.out _ _ ⟨(blk_cell BK204.out 0).trans rfl, (blk_cell BK204.out 1).trans rfl, (blk_cell BK217.out 0).trans rfl, (blk_cell BK217.out 1).trans rfl⟩ (fun hHeld => ?_)
         clear hK K
         refine norm_ (a' := ?_) ?_ ?_
         rotate_left
         ·show Act.put _ (some 188) _ = _
          simp only [Act.put, List.setIfInBounds_toArray, List.set_cons_zero, List.set_cons_succ, i64_w, i32_w]
          rfl
         refine pure_ (i := 6) (N := some 182) (v := ?_) (a' := ?_) #[tt, tt, tt, tt, tt, tt, tt, ff, ff, tt, ff, ff] rfl rfl (any_of HT_.out (by kernel_rfl)) (fun _ _ _ h => h) (Or.inl ⟨by rfl, ?_⟩) ?_ ?_
         rotate_left
         ·intro w'
          go_simp
          with_reducible rfl
         rotate_left
         ·simp only [Act.put, List.setIfInBounds_toArray, List.set_cons_zero, List.set_cons_succ, i64_w, i32_w]
          rfl
         refine pure_ (i := 7) (N := some 189) (v := ?_) (a' := ?_) #[tt, tt, tt, tt, tt, tt, tt, tt, ff, tt, ff, ff] rfl rfl (any_of HT_.out (by kernel_rfl)) (fun _ _ _ h => h) (Or.inl ⟨by rfl, ?_⟩) ?_ ?_
         rotate_left
         ·intro w'
          go_simp
          with_reducible rfl
         rotate_left
         ·simp only [Act.put, List.setIfInBounds_toArray, List.set_cons_zero, List.set_cons_succ, i64_w, i32_w]
          rfl
         refine pure_ (i := 8) (N := some 190) (v := ?_) (a' := ?_) #[tt, tt, tt, tt, tt, tt, tt, tt, tt, tt, ff, ff] rfl rfl (any_of HT_.out (by kernel_rfl)) (fun _ _ _ h => h) (Or.inl ⟨by rfl, ?_⟩) ?_ ?_
         rotate_left
         ·intro w'
          go_simp
          with_reducible rfl
         rotate_left
         ·simp only [Act.put, List.setIfInBounds_toArray, List.set_cons_zero, List.set_cons_succ, i64_w, i32_w]
          rfl
         exact norm_ (by simp only [putAll, Act.put, List.setIfInBounds_toArray, List.set_cons_zero, List.set_cons_succ]) (hCont (v222, .slice Ao164 y224.length co164, gb230) _ ⟨hHeld, (by (with_reducible repeat (first | apply Kd.R_alloc | apply Kd.R_drewN | apply Kd.R_drew)); exact HO226.out), (by (with_reducible repeat (first | apply Kd.R_alloc | apply Kd.R_drewN | apply Kd.R_drew)); exact Kd.R_mono HO_7.out (fun _ hk => hk.2)), (by repeat (first | (with_reducible first | exact BK188.out | refine blk_drewN ?_ _ | refine blk_drew ?_ | refine blk_alloc ?_ _) | exact BK188.out)), (by repeat (first | (with_reducible first | exact BK189.out | refine blk_drewN ?_ _ | refine blk_drew ?_ | refine blk_alloc ?_ _) | exact BK189.out)), (by repeat (first | (with_reducible first | exact BK204.out | refine blk_drewN ?_ _ | refine blk_drew ?_ | refine blk_alloc ?_ _) | exact BK204.out)), (by repeat (first | (with_reducible first | exact BK214.out | refine blk_drewN ?_ _ | refine blk_drew ?_ | refine blk_alloc ?_ _) | exact BK214.out)), (by repeat (first | (with_reducible first | exact BK217.out | refine blk_drewN ?_ _ | refine blk_drew ?_ | refine blk_alloc ?_ _) | exact BK217.out)), (by repeat (first | (with_reducible first | exact BK230.out | refine blk_drewN ?_ _ | refine blk_drew ?_ | refine blk_alloc ?_ _) | exact BK230.out)), GW230.out, GE230.out, NB188_230.out, NB230_188.out, NB189_230.out, NB230_189.out, NB204_230.out, NB230_204.out, NB214_230.out, NB230_214.out, NB217_230.out, NB230_217.out, (by repeat (first | (with_reducible first | exact HB.out | apply below_alloc | apply pw_below_drewN | apply below_drew1 | refine below_set ?_ (Aside0.out (by assumption))) | exact HB.out))⟩)
        rintro ⟨v222, v225, gb230⟩ w166 ⟨hS_, h0_, h1_, h2_, h3_, h4_, h5_, h6_, h7_, h8_, h9_, h10_, h11_, h12_, h13_, h14_, h15_, h16_, h17_, h18_, h19_, h20_⟩
        have n0_ : Aside0 (Kd.R k46 46 w166 w.heap.size (fun k_ => some k_ ≠ (.slice Ao45 x7_1.length co45 : Value).ownBlock) v225 y224) := ⟨h0_⟩
        have n1_ : Aside0 (Kd.R k46 46 w166 w.heap.size (fun k_ => some k_ ≠ (v225 : Value).ownBlock) (.slice Ao45 x7_1.length co45) x7_1) := ⟨h1_⟩
        have n2_ : Aside0 (w166.heap[gb188]? = some (.cells #[.int .u8 a1_0, .int .u8 a1_1, .int .u8 a1_2] 94 (0, 0))) := ⟨h2_⟩
        have n3_ : Aside0 (w166.heap[gb189]? = some (.cells #[.int .u16 a2_0, .int .u16 a2_1, .int .u16 a2_2] 105 (0, 0))) := ⟨h3_⟩
        have n4_ : Aside0 (w166.heap[gb204]? = some (.cells #[.int .i64 t202, .int .i64 t203] 41 (0, 0))) := ⟨h4_⟩
        have n5_ : Aside0 (w166.heap[gb214]? = some (.cells #[.int .i64 t211, .int .i64 t212] 41 (0, 0))) := ⟨h5_⟩
        have n6_ : Aside0 (w166.heap[gb217]? = some (.cells #[.int .i64 x218000_118, .int .i64 x218001_118] 41 (0, 0))) := ⟨h6_⟩
        have n7_ : Aside0 (w166.heap[gb230]? = some (.cells #[.int .i64 0, .int .i64 0] 41 (0, 0))) := ⟨h7_⟩
        have n8_ : Aside0 (w.heap.size ≤ gb230) := ⟨h8_⟩
        have n9_ : Aside0 (w.heap.size ≤ gb230) := ⟨h9_⟩
        have n10_ : Aside0 (gb188 ≠ gb230) := ⟨h10_⟩
        have n11_ : Aside0 (gb230 ≠ gb188) := ⟨h11_⟩
        have n12_ : Aside0 (gb189 ≠ gb230) := ⟨h12_⟩
        have n13_ : Aside0 (gb230 ≠ gb189) := ⟨h13_⟩
        have n14_ : Aside0 (gb204 ≠ gb230) := ⟨h14_⟩
        have n15_ : Aside0 (gb230 ≠ gb204) := ⟨h15_⟩
        have n16_ : Aside0 (gb214 ≠ gb230) := ⟨h16_⟩
        have n17_ : Aside0 (gb230 ≠ gb214) := ⟨h17_⟩
        have n18_ : Aside0 (gb217 ≠ gb230) := ⟨h18_⟩
        have n19_ : Aside0 (gb230 ≠ gb217) := ⟨h19_⟩
        have n20_ : Aside0 (Below w.heap.size w w166) := ⟨h20_⟩
        clear HO_7
        clear BK188
        clear BK189
        clear BK204
        clear BK214
        clear BK217
        clear HB
        clear h0_ h1_ h2_ h3_ h4_ h5_ h6_ h7_ h8_ h9_ h10_ h11_ h12_ h13_ h14_ h15_ h16_ h17_ h18_ h19_ h20_
        have HO226 := n0_
        have HO_7 := n1_
        have BK188 := n2_
        have BK189 := n3_
        have BK204 := n4_
        have BK214 := n5_
        have BK217 := n6_
        have BK230 := n7_
        have GW230 := n8_
        have GE230 := n9_
        have NB188_230 := n10_
        have NB230_188 := n11_
        have NB189_230 := n12_
        have NB230_189 := n13_
        have NB204_230 := n14_
        have NB230_204 := n15_
        have NB214_230 := n16_
        have NB230_214 := n17_
        have NB217_230 := n18_
        have NB230_217 := n19_
        have HB := n20_
        clear n0_ n1_ n2_ n3_ n4_ n5_ n6_ n7_ n8_ n9_ n10_ n11_ n12_ n13_ n14_ n15_ n16_ n17_ n18_ n19_ n20_
        have hHeld : w166.cell? ⟨gb204, 0, none⟩ = some (.int .i64 t202) ∧ w166.cell? ⟨gb204, 1, none⟩ = some (.int .i64 t203) ∧ w166.cell? ⟨gb217, 0, none⟩ = some (.int .i64 x218000_118) ∧ w166.cell? ⟨gb217, 1, none⟩ = some (.int .i64 x218001_118) := hS_
        refine norm_ (a' := ?_) ?_ ?_
        rotate_left
        ·simp only [putAll, Act.put, List.setIfInBounds_toArray, List.set_cons_zero, List.set_cons_succ]
         rfl
        refine one_ (i := 10) (N := none) #[tt, tt, tt, tt, tt, tt, tt, tt, tt, tt, tt, ff] rfl rfl (one_of HT_.out (by kernel_rfl)) (by decide) (fun K hK => ?_)
        have hs167 : w166.cell? ⟨gb230, 0, none⟩ = some (.int .i64 0) := (blk_cell BK230.out 0).trans rfl
        have hfs167 := blk_frozen BK230.out 0
        have hns167_0 := NB188_230.out
        have hns167_1 := NB189_230.out
        have hns167_2 := NB204_230.out
        have hns167_3 := NB214_230.out
        have hns167_4 := NB217_230.out
        have hms167_0 := NB230_188.out
        have hms167_1 := NB230_189.out
        have hms167_2 := NB230_204.out
        have hms167_3 := NB230_214.out
        have hms167_4 := NB230_217.out
        have hs168 : w166.cell? ⟨gb230, 1, none⟩ = some (.int .i64 0) := (blk_cell BK230.out 1).trans rfl
        have hfs168 := blk_frozen BK230.out 1
        have hns168_0 := NB188_230.out
        have hns168_1 := NB189_230.out
        have hns168_2 := NB204_230.out
        have hns168_3 := NB214_230.out
        have hns168_4 := NB217_230.out
        have hms168_0 := NB230_188.out
        have hms168_1 := NB230_189.out
        have hms168_2 := NB230_204.out
        have hms168_3 := NB230_214.out
        have hms168_4 := NB230_217.out
        refine skip_ (w1 := ?_) (by rfl) rfl ?_ ?_
        rotate_left
        ·go_simp
         rfl
        refine hK.out _ _ ⟨((cell_far (p := ⟨gb230, _, none⟩) NB204_230.out _).trans (((cell_far (p := ⟨gb230, _, none⟩) NB204_230.out _).trans (hHeld.1)))), ((cell_far (p := ⟨gb230, _, none⟩) NB204_230.out _).trans (((cell_far (p := ⟨gb230, _, none⟩) NB204_230.out _).trans (hHeld.2.1)))), ((cell_far (p := ⟨gb230, _, none⟩) NB217_230.out _).trans (((cell_far (p := ⟨gb230, _, none⟩) NB217_230.out _).trans (hHeld.2.2.1)))), ((cell_far (p := ⟨gb230, _, none⟩) NB217_230.out _).trans (((cell_far (p := ⟨gb230, _, none⟩) NB217_230.out _).trans (hHeld.2.2.2))))⟩ (fun hHeld => ?_)
        clear hK K
        refine pure_ (i := 11) (N := some 17) (v := ?_) (a' := ?_) #[tt, tt, tt, tt, tt, tt, tt, tt, tt, tt, tt, tt] rfl rfl (any_of HT_.out (by kernel_rfl)) (fun _ _ _ h => h) (Or.inl ⟨by rfl, ?_⟩) ?_ ?_
        rotate_left
        ·intro w'
         go_simp
         with_reducible rfl
        rotate_left
        ·simp only [Act.put, List.setIfInBounds_toArray, List.set_cons_zero, List.set_cons_succ, i64_w, i32_w]
         rfl
        refine done_ (done_of HT_.out (by kernel_rfl)) ?_
        try go_wp2
        have n0_ : Aside0 (Kd.R k46 46 ((w166.setCell ⟨gb230, 0, none⟩ (.int .i64 t227)).setCell ⟨gb230, 1, none⟩ (.int .i64 t228)) w.heap.size (fun k_ => some k_ ≠ (v225 : Value).ownBlock) (.slice Ao45 x7_1.length co45) x7_1) := ⟨by (with_reducible repeat (first | apply Kd.R_alloc | apply Kd.R_drewN | apply Kd.R_drew)); exact Kd.R_mono (Kd.R_far (p := ⟨gb230, 1, none⟩) (Kd.R_far (p := ⟨gb230, 0, none⟩) (Kd.R_types HO_7.out BK230.out (by decide)) (fun _ hk => hk.2) (.int .i64 t227)) (fun _ hk => hk.2) (.int .i64 t228)) (fun _ hk => hk.1)⟩
        have n1_ : Aside0 (Kd.R k46 46 ((w166.setCell ⟨gb230, 0, none⟩ (.int .i64 t227)).setCell ⟨gb230, 1, none⟩ (.int .i64 t228)) w.heap.size (fun k_ => some k_ ≠ (.slice Ao45 x7_1.length co45 : Value).ownBlock) v225 y224) := ⟨by (with_reducible repeat (first | apply Kd.R_alloc | apply Kd.R_drewN | apply Kd.R_drew)); exact Kd.R_mono (Kd.R_far (p := ⟨gb230, 1, none⟩) (Kd.R_far (p := ⟨gb230, 0, none⟩) (Kd.R_types HO226.out BK230.out (by decide)) (fun _ hk => hk.2) (.int .i64 t227)) (fun _ hk => hk.2) (.int .i64 t228)) (fun _ hk => hk.1)⟩
        have n2_ : Aside0 (((w166.setCell ⟨gb230, 0, none⟩ (.int .i64 t227)).setCell ⟨gb230, 1, none⟩ (.int .i64 t228)).heap[gb188]? = some (.cells #[.int .u8 a1_0, .int .u8 a1_1, .int .u8 a1_2] 94 (0, 0))) := ⟨by repeat (first | (with_reducible first | exact BK188.out | refine blk_drewN ?_ _ | refine blk_drew ?_ | refine blk_alloc ?_ _) | refine blk_far ?_ NB188_230.out _ | exact BK188.out)⟩
        have n3_ : Aside0 (((w166.setCell ⟨gb230, 0, none⟩ (.int .i64 t227)).setCell ⟨gb230, 1, none⟩ (.int .i64 t228)).heap[gb189]? = some (.cells #[.int .u16 a2_0, .int .u16 a2_1, .int .u16 a2_2] 105 (0, 0))) := ⟨by repeat (first | (with_reducible first | exact BK189.out | refine blk_drewN ?_ _ | refine blk_drew ?_ | refine blk_alloc ?_ _) | refine blk_far ?_ NB189_230.out _ | exact BK189.out)⟩
        have n4_ : Aside0 (((w166.setCell ⟨gb230, 0, none⟩ (.int .i64 t227)).setCell ⟨gb230, 1, none⟩ (.int .i64 t228)).heap[gb204]? = some (.cells #[.int .i64 t202, .int .i64 t203] 41 (0, 0))) := ⟨by repeat (first | (with_reducible first | exact BK204.out | refine blk_drewN ?_ _ | refine blk_drew ?_ | refine blk_alloc ?_ _) | refine blk_far ?_ NB204_230.out _ | exact BK204.out)⟩
        have n5_ : Aside0 (((w166.setCell ⟨gb230, 0, none⟩ (.int .i64 t227)).setCell ⟨gb230, 1, none⟩ (.int .i64 t228)).heap[gb214]? = some (.cells #[.int .i64 t211, .int .i64 t212] 41 (0, 0))) := ⟨by repeat (first | (with_reducible first | exact BK214.out | refine blk_drewN ?_ _ | refine blk_drew ?_ | refine blk_alloc ?_ _) | refine blk_far ?_ NB214_230.out _ | exact BK214.out)⟩
        have n6_ : Aside0 (((w166.setCell ⟨gb230, 0, none⟩ (.int .i64 t227)).setCell ⟨gb230, 1, none⟩ (.int .i64 t228)).heap[gb217]? = some (.cells #[.int .i64 x218000_118, .int .i64 x218001_118] 41 (0, 0))) := ⟨by repeat (first | (with_reducible first | exact BK217.out | refine blk_drewN ?_ _ | refine blk_drew ?_ | refine blk_alloc ?_ _) | refine blk_far ?_ NB217_230.out _ | exact BK217.out)⟩
        have n7_ : Aside0 (((w166.setCell ⟨gb230, 0, none⟩ (.int .i64 t227)).setCell ⟨gb230, 1, none⟩ (.int .i64 t228)).heap[gb230]? = some (.cells #[.int .i64 t227, .int .i64 t228] 41 (0, 0))) := ⟨by exact bto (bput (bput (BK230.out) _ _) _ _) rfl⟩
        have n8_ : Aside0 (Below w.heap.size w ((w166.setCell ⟨gb230, 0, none⟩ (.int .i64 t227)).setCell ⟨gb230, 1, none⟩ (.int .i64 t228))) := ⟨by repeat (first | (with_reducible first | exact HB.out | apply below_alloc | apply pw_below_drewN | apply below_drew1 | refine below_set ?_ (Aside0.out (by assumption))) | exact HB.out)⟩
        (try clear HO_7)
        (try clear HO226)
        (try clear BK188)
        (try clear BK189)
        (try clear BK204)
        (try clear BK214)
        (try clear BK217)
        (try clear BK230)
        (try clear HB)
        generalize ((w166.setCell ⟨gb230, 0, none⟩ (.int .i64 t227)).setCell ⟨gb230, 1, none⟩ (.int .i64 t228)) = w169 at n0_ n1_ n2_ n3_ n4_ n5_ n6_ n7_ n8_ ⊢
        have HO_7 := n0_
        have HO226 := n1_
        have BK188 := n2_
        have BK189 := n3_
        have BK204 := n4_
        have BK214 := n5_
        have BK217 := n6_
        have BK230 := n7_
        have HB := n8_
        clear n0_ n1_ n2_ n3_ n4_ n5_ n6_ n7_ n8_
        replace HO_7 := Aside0.mk (Kd.R_drew HO_7.out)
        replace HO226 := Aside0.mk (Kd.R_drew HO226.out)
        replace BK188 := Aside0.mk (blk_drew BK188.out)
        replace BK189 := Aside0.mk (blk_drew BK189.out)
        replace BK204 := Aside0.mk (blk_drew BK204.out)
        replace BK214 := Aside0.mk (blk_drew BK214.out)
        replace BK217 := Aside0.mk (blk_drew BK217.out)
        replace BK230 := Aside0.mk (blk_drew BK230.out)
        replace HB := Aside0.mk (below_drew1 HB.out)
        refine start_ (n := 14) (S := fun w' => w'.cell? ⟨gb217, 0, none⟩ = some (.int .i64 x218000_118) ∧ w'.cell? ⟨gb217, 1, none⟩ = some (.int .i64 x218001_118) ∧ w'.cell? ⟨gb189, 0, none⟩ = some (.int .u16 a2_0) ∧ w'.cell? ⟨gb189, 1, none⟩ = some (.int .u16 a2_1) ∧ w'.cell? ⟨gb189, 2, none⟩ = some (.int .u16 a2_2)) (ds := []) #[ff, ff, ff, ff, ff, ff, ff, ff, ff, ff, ff, ff, ff, ff] (by kernel_rfl) rfl rfl ⟨(blk_cell BK217.out 0).trans rfl, (blk_cell BK217.out 1).trans rfl, (blk_cell BK189.out 0).trans rfl, (blk_cell BK189.out 1).trans rfl, (blk_cell BK189.out 2).trans rfl⟩ (fun hHeld => ?_); refine with_tabW acmelaw12_MillVolumes.tab22 acmelaw12_MillVolumes.bits22 (fun HT_ HW_ => ?_)
        generalize w169.drew = w170 at HO_7 HO226 BK188 BK189 BK204 BK214 BK217 BK230 HB hHeld ⊢
        refine pure_ (i := 0) (N := some 191) (v := ?_) (a' := ?_) #[tt, ff, ff, ff, ff, ff, ff, ff, ff, ff, ff, ff, ff, ff] rfl rfl (any_of HT_.out (by kernel_rfl)) (fun _ _ _ h => h) (Or.inl ⟨by rfl, ?_⟩) ?_ ?_
        rotate_left
        ·intro w'
         go_simp
         with_reducible rfl
        rotate_left
        ·simp only [Act.put, List.setIfInBounds_toArray, List.set_cons_zero, List.set_cons_succ, i64_w, i32_w]
         rfl
        refine pure_ (i := 2) (N := some 193) (v := ?_) (a' := ?_) #[tt, ff, tt, ff, ff, ff, ff, ff, ff, ff, ff, ff, ff, ff] rfl rfl (any_of HT_.out (by kernel_rfl)) (fun _ _ _ h => h) (Or.inl ⟨by rfl, ?_⟩) ?_ ?_
        rotate_left
        ·intro w'
         go_simp
         with_reducible rfl
        rotate_left
        ·simp only [Act.put, List.setIfInBounds_toArray, List.set_cons_zero, List.set_cons_succ, i64_w, i32_w]
         rfl
        refine pure_ (i := 5) (N := some 196) (v := ?_) (a' := ?_) #[tt, ff, tt, ff, ff, tt, ff, ff, ff, ff, ff, ff, ff, ff] rfl rfl (any_of HT_.out (by kernel_rfl)) (fun _ _ _ h => h) (Or.inl ⟨by rfl, ?_⟩) ?_ ?_
        rotate_left
        ·intro w'
         go_simp
         with_reducible rfl
        rotate_left
        ·simp only [Act.put, List.setIfInBounds_toArray, List.set_cons_zero, List.set_cons_succ, i64_w, i32_w]
         rfl
        refine pure_ (i := 7) (N := some 198) (v := ?_) (a' := ?_) #[tt, ff, tt, ff, ff, tt, ff, tt, ff, ff, ff, ff, ff, ff] rfl rfl (any_of HT_.out (by kernel_rfl)) (fun _ _ _ h => h) (Or.inl ⟨by rfl, ?_⟩) ?_ ?_
        rotate_left
        ·intro w'
         go_simp
         with_reducible rfl
        rotate_left
        ·simp only [Act.put, List.setIfInBounds_toArray, List.set_cons_zero, List.set_cons_succ, i64_w, i32_w]
         rfl
        refine take_ (i := 1) (N := some 192) (v := ?_) (a' := ?_) #[tt, tt, tt, ff, ff, tt, ff, tt, ff, ff, ff, ff, ff, ff] rfl rfl (take_ofW HT_.out HW_.out (by kernel_rfl)) (fun _ _ _ h => h) (Or.inl ⟨by rfl, ?_⟩) hHeld ?_ ?_
        rotate_left
        ·rintro w' ⟨s0, s1, s2, s3, s4⟩
         go_simp
         with_reducible rfl
        rotate_left
        ·simp only [Act.put, List.setIfInBounds_toArray, List.set_cons_zero, List.set_cons_succ, i64_w, i32_w]
         rfl
        refine take_ (i := 3) (N := some 194) (v := ?_) (a' := ?_) #[tt, tt, tt, tt, ff, tt, ff, tt, ff, ff, ff, ff, ff, ff] rfl rfl (take_ofW HT_.out HW_.out (by kernel_rfl)) (fun _ _ _ h => h) (Or.inl ⟨by rfl, ?_⟩) hHeld ?_ ?_
        rotate_left
        ·rintro w' ⟨s0, s1, s2, s3, s4⟩
         go_simp
         with_reducible rfl
        rotate_left
        ·simp only [Act.put, List.setIfInBounds_toArray, List.set_cons_zero, List.set_cons_succ, i64_w, i32_w]
         rfl
        refine pure_ (i := 4) (N := some 195) (v := ?_) (a' := ?_) #[tt, tt, tt, tt, tt, tt, ff, tt, ff, ff, ff, ff, ff, ff] rfl rfl (any_of HT_.out (by kernel_rfl)) (fun _ _ _ h => h) (Or.inl ⟨by rfl, ?_⟩) ?_ ?_
        rotate_left
        ·intro w'
         go_simp
         with_reducible rfl
        rotate_left
        ·simp only [Act.put, List.setIfInBounds_toArray, List.set_cons_zero, List.set_cons_succ, i64_w, i32_w]
         rfl
        refine take_ (i := 6) (N := some 197) (v := ?_) (a' := ?_) #[tt, tt, tt, tt, tt, tt, tt, tt, ff, ff, ff, ff, ff, ff] rfl rfl (take_ofW HT_.out HW_.out (by kernel_rfl)) (fun _ _ _ h => h) (Or.inl ⟨by rfl, ?_⟩) hHeld ?_ ?_
        rotate_left
        ·rintro w' ⟨s0, s1, s2, s3, s4⟩
         go_simp
         with_reducible rfl
        rotate_left
        ·simp only [Act.put, List.setIfInBounds_toArray, List.set_cons_zero, List.set_cons_succ, i64_w, i32_w]
         rfl
        refine take_ (i := 8) (N := some 199) (v := ?_) (a' := ?_) #[tt, tt, tt, tt, tt, tt, tt, tt, tt, ff, ff, ff, ff, ff] rfl rfl (take_ofW HT_.out HW_.out (by kernel_rfl)) (fun _ _ _ h => h) (Or.inl ⟨by rfl, ?_⟩) hHeld ?_ ?_
        rotate_left
        ·rintro w' ⟨s0, s1, s2, s3, s4⟩
         go_simp
         with_reducible rfl
        rotate_left
        ·simp only [Act.put, List.setIfInBounds_toArray, List.set_cons_zero, List.set_cons_succ, i64_w, i32_w]
         rfl
        refine pure_ (i := 9) (N := some 200) (v := ?_) (a' := ?_) #[tt, tt, tt, tt, tt, tt, tt, tt, tt, tt, ff, ff, ff, ff] rfl rfl (any_of HT_.out (by kernel_rfl)) (fun _ _ _ h => h) (Or.inl ⟨by rfl, ?_⟩) ?_ ?_
        rotate_left
        ·intro w'
         go_simp
         with_reducible rfl
        rotate_left
        ·simp only [Act.put, List.setIfInBounds_toArray, List.set_cons_zero, List.set_cons_succ, i64_w, i32_w]
         rfl
        refine pure_ (i := 10) (N := some 201) (v := ?_) (a' := ?_) #[tt, tt, tt, tt, tt, tt, tt, tt, tt, tt, tt, ff, ff, ff] rfl rfl (any_of HT_.out (by kernel_rfl)) (fun _ _ _ h => h) (Or.inl ⟨by rfl, ?_⟩) ?_ ?_
        rotate_left
        ·intro w'
         go_simp
         with_reducible rfl
        rotate_left
        ·simp only [Act.put, List.setIfInBounds_toArray, List.set_cons_zero, List.set_cons_succ, i64_w, i32_w]
         rfl
        refine pure_ (i := 11) (N := some 202) (v := ?_) (a' := ?_) #[tt, tt, tt, tt, tt, tt, tt, tt, tt, tt, tt, tt, ff, ff] rfl rfl (any_of HT_.out (by kernel_rfl)) (fun _ _ _ h => h) (Or.inl ⟨by rfl, ?_⟩) ?_ ?_
        rotate_left
        ·intro w'
         go_simp
         with_reducible rfl
        rotate_left
        ·simp only [Act.put, List.setIfInBounds_toArray, List.set_cons_zero, List.set_cons_succ, i64_w, i32_w]
         rfl
        refine pure_ (i := 12) (N := some 203) (v := ?_) (a' := ?_) #[tt, tt, tt, tt, tt, tt, tt, tt, tt, tt, tt, tt, tt, ff] rfl rfl (any_of HT_.out (by kernel_rfl)) (fun _ _ _ h => h) (Or.inl ⟨by rfl, ?_⟩) ?_ ?_
        rotate_left
        ·intro w'
         go_simp
         with_reducible rfl
        rotate_left
        ·simp only [Act.put, List.setIfInBounds_toArray, List.set_cons_zero, List.set_cons_succ, i64_w, i32_w]
         rfl
        refine pure_ (i := 13) (N := some 18) (v := ?_) (a' := ?_) #[tt, tt, tt, tt, tt, tt, tt, tt, tt, tt, tt, tt, tt, tt] rfl rfl (any_of HT_.out (by kernel_rfl)) (fun _ _ _ h => h) (Or.inl ⟨by rfl, ?_⟩) ?_ ?_
        rotate_left
        ·intro w'
         go_simp
         with_reducible rfl
        rotate_left
        ·simp only [Act.put, List.setIfInBounds_toArray, List.set_cons_zero, List.set_cons_succ, i64_w, i32_w]
         rfl
        refine done_ (done_of HT_.out (by kernel_rfl)) ?_
        have hnb171 := NB230_188.out
        have hnc171 := NB188_230.out
        have hnb172 := NB230_189.out
        have hnc172 := NB189_230.out
        have hnb173 := NB230_204.out
        have hnc173 := NB204_230.out
        have hnb174 := NB230_214.out
        have hnc174 := NB214_230.out
        have hnb175 := NB230_217.out
        have hnc175 := NB217_230.out
        obtain ⟨hcz176_0, hcz176_1⟩ := bc2 BK230.out
        obtain ⟨hfz176_0, hfz176_1⟩ := bf2 BK230.out
        obtain ⟨hcz177_0, hcz177_1⟩ := bc2 BK217.out
        obtain ⟨hfz177_0, hfz177_1⟩ := bf2 BK217.out
        have hnb178 := NB214_188.out
        have hnc178 := NB188_214.out
        have hnb179 := NB214_189.out
        have hnc179 := NB189_214.out
        have hnb180 := NB214_204.out
        have hnc180 := NB204_214.out
        obtain ⟨hcz181_0, hcz181_1⟩ := bc2 BK214.out
        obtain ⟨hfz181_0, hfz181_1⟩ := bf2 BK214.out
        have hnb182 := NB204_188.out
        have hnc182 := NB188_204.out
        have hnb183 := NB204_189.out
        have hnc183 := NB189_204.out
        obtain ⟨hcz184_0, hcz184_1⟩ := bc2 BK204.out
        obtain ⟨hfz184_0, hfz184_1⟩ := bf2 BK204.out
        by_cases c149 : x218000_118 ≥ t212
        ·rw [if_pos c149] at H
         have c149b0 : decide (t212 ≤ x218000_118) = true := decide_eq_true c149
         clear c149
         by_cases c150 : t227 < 0
         ·rw [if_pos c150] at H
          exact absurd H (by simp)
         rw [if_neg c150] at H
         have c150b0 : decide (t227 < 0) = false := decide_eq_false c150
         clear c150
         by_cases c151 : t227 = (wrap64 ((wrap64 ((wrap64 (x218000_118 * t202)) * t202)) - x8_1))
         rotate_left
         ·rw [if_neg c151] at H
          exact absurd H (by simp)
         rw [if_pos c151] at H
         have c151b0 : (t227 == (wrap64 ((wrap64 ((wrap64 (x218000_118 * t202)) * t202)) - x8_1))) = true := beq_iff_eq.mpr c151
         have c151b1 : (t227 != (wrap64 ((wrap64 ((wrap64 (x218000_118 * t202)) * t202)) - x8_1))) = false := bne_eq_false_iff_eq.mpr c151
         clear c151
         by_cases c152 : t228 = (wrap64 ((wrap64 ((wrap64 (x218001_118 * t203)) * t203)) - x8_1))
         rotate_left
         ·rw [if_neg c152] at H
          exact absurd H (by simp)
         rw [if_pos c152] at H
         have c152b0 : (t228 == (wrap64 ((wrap64 ((wrap64 (x218001_118 * t203)) * t203)) - x8_1))) = true := beq_iff_eq.mpr c152
         have c152b1 : (t228 != (wrap64 ((wrap64 ((wrap64 (x218001_118 * t203)) * t203)) - x8_1))) = false := bne_eq_false_iff_eq.mpr c152
         clear c152
         replace H := Option.bind_eq_some_iff.mp H
         obtain ⟨t231, A1530, H⟩ := H; (try dsimp only at H)
         have A153 := Aside0.mk A1530
         clear A1530
         obtain rfl := Option.some.inj H
         try go_wp2_with (first | (go_at_call 15; (with_reducible refine (acmelaw12_known.calls  t231 _ A153.out).mono ?_); rintro e w185 ⟨rfl, hb⟩; replace HB := Aside0.mk (below_step (by repeat (first | (with_reducible first | exact HB.out | apply below_alloc | apply pw_below_drewN | apply below_drew1 | refine below_set ?_ (Aside0.out (by assumption))) | exact HB.out)) hb); (try clear hb); (try clear hb2); (try clear hk); (try clear hi)))
         go_ret
         exact ⟨by first | rfl | (simp [errW_none, errW_some] <;> rfl) | (simp [*, errW_none, errW_some] <;> rfl), by repeat (first | (with_reducible first | exact HB.out | apply below_alloc | apply pw_below_drewN | apply below_drew1 | refine below_set ?_ (Aside0.out (by assumption))) | exact HB.out)⟩
        rw [if_neg c149] at H
        have c149b0 : decide (t212 ≤ x218000_118) = false := decide_eq_false c149
        clear c149
        by_cases c186 : t227 = (wrap64 ((wrap64 ((wrap64 (x218000_118 * t202)) * t202)) - x8_1))
        rotate_left
        ·rw [if_neg c186] at H
         exact absurd H (by simp)
        rw [if_pos c186] at H
        have c186b0 : (t227 == (wrap64 ((wrap64 ((wrap64 (x218000_118 * t202)) * t202)) - x8_1))) = true := beq_iff_eq.mpr c186
        have c186b1 : (t227 != (wrap64 ((wrap64 ((wrap64 (x218000_118 * t202)) * t202)) - x8_1))) = false := bne_eq_false_iff_eq.mpr c186
        clear c186
        by_cases c187 : t228 = (wrap64 ((wrap64 ((wrap64 (x218001_118 * t203)) * t203)) - x8_1))
        rotate_left
        ·rw [if_neg c187] at H
         exact absurd H (by simp)
        rw [if_pos c187] at H
        have c187b0 : (t228 == (wrap64 ((wrap64 ((wrap64 (x218001_118 * t203)) * t203)) - x8_1))) = true := beq_iff_eq.mpr c187
        have c187b1 : (t228 != (wrap64 ((wrap64 ((wrap64 (x218001_118 * t203)) * t203)) - x8_1))) = false := bne_eq_false_iff_eq.mpr c187
        clear c187
        replace H := Option.bind_eq_some_iff.mp H
        obtain ⟨t232, A1880, H⟩ := H; (try dsimp only at H)
        have A188 := Aside0.mk A1880
        clear A1880
        obtain rfl := Option.some.inj H
        try go_wp2_with (first | (go_at_call 15; (with_reducible refine (acmelaw12_known.calls  t232 _ A188.out).mono ?_); rintro e w220 ⟨rfl, hb⟩; replace HB := Aside0.mk (below_step (by repeat (first | (with_reducible first | exact HB.out | apply below_alloc | apply pw_below_drewN | apply below_drew1 | refine below_set ?_ (Aside0.out (by assumption))) | exact HB.out)) hb); (try clear hb); (try clear hb2); (try clear hk); (try clear hi)))
        go_ret
        exact ⟨by first | rfl | (simp [errW_none, errW_some] <;> rfl) | (simp [*, errW_none, errW_some] <;> rfl), by repeat (first | (with_reducible first | exact HB.out | apply below_alloc | apply pw_below_drewN | apply below_drew1 | refine below_set ?_ (Aside0.out (by assumption))) | exact HB.out)⟩
   rw [if_neg c35] at H
   exact absurd H (by simp)

end Go.Proofs.Ytiaiecfnpompcaa.T
