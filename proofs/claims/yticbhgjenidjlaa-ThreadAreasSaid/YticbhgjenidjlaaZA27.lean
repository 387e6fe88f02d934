-- cut down, squeezed and laid together by pack.py (a program of this repository) out of this seat's texts
import Derived.WalkKit
import Derived.Deep.LoopGhost
import Derived.Deep.QuietTactic
import Derived.BigQuiet
import Derived.BigRegion
import Derived.Shelf.SlSortCmp.InsertionK
import Derived.Shelf.SlSortCmp.NoneTotal
import Derived.Test.YticbhgjenidjlaaZA2
import Derived.Test.YticbhgjenidjlaaZA20
import Derived.Test.YticbhgjenidjlaaZA21
import Derived.Test.YticbhgjenidjlaaZA5
import Derived.Test.YticbhgjenidjlaaZA8
import Derived.Test.YticbhgjenidjlaaZA26
import Derived.Test.YticbhgjenidjlaaZA4
import Derived.Test.YticbhgjenidjlaaZA7
import Derived.Test.YticbhgjenidjlaaZA3
import Derived.Test.YticbhgjenidjlaaZA6
import Derived.Test.YticbhgjenidjlaaZA1
import Derived.Test.YticbhgjenidjlaaZA25
import Derived.Test.YticbhgjenidjlaaZA9
import Derived.Test.YticbhgjenidjlaaZA16
namespace Go.Proofs.Yticbhgjenidjlaa.T
open Go.RowKit Go.Shelf Go.Proofs.YticbhgjenidjlaaW.PrintWords Go.Proofs.YticbhgjenidjlaaW.PrintLast Go.Proofs.YticbhgjenidjlaaW.PrintMore
set_option linter.unusedVariables false
set_option linter.unusedSimpArgs false

def cmpI (a b : Int) : Int := if a < b then -1 else if a > b then 1 else 0
def cmp67 (x y : S67) : Int := if cmpI x.f0 y.f0 = 0 then cmpI x.f1 y.f1 else cmpI x.f0 y.f0
def enc67 (x : S67) : List Value := [.int .i64 x.f0, .int .i64 x.f1]

theorem cmp_Compare_int_eq (a b : Int) : cmp_Compare_int.f a b = some (cmpI a b) := by
 simp [cmp_Compare_int.f, cmp_isNaN_int.f, cmpI]
 split <;> (try split) <;> simp_all
theorem compare2 (x y : S67) : slices_Compare_int_int.f 3 [x.f0, x.f1] [y.f0, y.f1] = some (cmp67 x y) := by
 simp [slices_Compare_int_int.f, slices_Compare_int_int.l0, cmp_Compare_int_eq, rd, cmp67, wrap64]
 by_cases h : cmpI x.f0 y.f0 = 0
 ·simp [h]
  by_cases h2 : cmpI x.f1 y.f1 = 0 <;> simp [h2]
 ·simp [h]

theorem C_two {w : World} {b : Nat} {m n : Int} {t : TypeId} (h : w.heap[b]? = some (.cells #[.int .i64 m, .int .i64 n] t (0, 0))) : Kd.C (Kd.int .i64) w (some ⟨b, 0, none⟩) 2 [m, n] := by
 refine Kd.C_of_reads (d := (0 : Int)) (h1 := fun _ => rfl) ⟨rfl, by omega, fun _ => ⟨_, rfl, fun j hj => ?_⟩⟩
 obtain rfl | rfl : j = 0 ∨ j = 1 := by omega
 ·exact (blk_cell h 0).trans rfl
 ·exact (blk_cell h 1).trans rfl

set_option maxRecDepth 100000 in
set_option maxHeartbeats 1000000 in
theorem Alike_1.calls (x y : S67) (w : World) :
  Calls Try.prog 61 #[.agg (enc67 x).toArray, .agg (enc67 y).toArray] w fun e w' => e = .returned (.int .i64 (cmp67 x y)) ∧ ∃ q os', w' = Sort.grow (w.drewN q) os' := by
 have hu67 := Try.underlying67
 show Calls Try.prog 61 #[.agg #[.int .i64 x.f0, .int .i64 x.f1], .agg #[.int .i64 y.f0, .int .i64 y.f1]] w _
 obtain ⟨W2, hW2⟩ : ∃ W2, W2 = ((w.alloc (.cells #[.int .i64 x.f0, .int .i64 x.f1] 67)).alloc (.cells #[.int .i64 y.f0, .int .i64 y.f1] 67)) := ⟨_, rfl⟩
 have HC := hid (fun q => slices_Compare_int_int.calls 3 (some ⟨w.heap.size, 0, none⟩) 2 [x.f0, x.f1] (some ⟨w.heap.size + 1, 0, none⟩) 2 [y.f0, y.f1] (cmp67 x y) (W2.drewN q) (C_two (by rw [hW2]; exact blk_alloc (blk_new _ _) _)) (by simp) (C_two (by rw [hW2]; simpa using blk_new (w.alloc (.cells #[.int .i64 x.f0, .int .i64 x.f1] 67)) (.cells #[.int .i64 y.f0, .int .i64 y.f1] 67 (0, 0)))) (by simp) (compare2 x y))
 have HW2 := hid hW2
 clear hW2
 go_enter Try.func61, Try.ntmps61
 go_wp2
 rw [← HW2.out]
 go_quiet ((go_at_call 62; exact Calls.quiet_of ((HC.out _).mono (fun _ _ h => ⟨h.1, h.2.out⟩))))
 go_wp2
 go_ret
 refine ⟨rfl, nq, #[.cells #[.int .i64 x.f0, .int .i64 x.f1] 67 (0, 0), .cells #[.int .i64 y.f0, .int .i64 y.f1] 67 (0, 0)], ?_⟩
 rw [HW2.out, Sort.alloc_eq_grow, Sort.alloc_eq_grow, Sort.grow_grow]; rfl
end Go.Proofs.Yticbhgjenidjlaa.T
namespace Go.Proofs.Yticbhgjenidjlaa.T
open Go.RowKit Go.Shelf Go.Sort Go.Proofs.YticbhgjenidjlaaW.PrintWords
set_option linter.unusedVariables false

def sort67_ren : Go.Shelf.Ren := ⟨fun | 6 => 60 | 15 => 76 | 14 => 75 | 28 => 89 | 29 => 90 | 20 => 81 | 21 => 82 | 22 => 83 | 23 => 84 | 24 => 85 | 25 => 86 | 26 => 87 | 27 => 88 | 46 => 92 | 47 => 93 | 48 => 94 | 49 => 95 | 50 => 96 | 57 => 97 | n => n, fun | 22 => 59 | 24 => 67 | 25 => 109 | 3 => 3 | 39 => 127 | 0 => 0 | 53 => 80 | 55 => 142 | 4 => 4 | 46 => 135 | 45 => 134 | 50 => 47 | 5 => 5 | 9 => 9 | 66 => 143 | 70 => 147 | 76 => 149 | 77 => 150 | n => n, fun | n => n⟩
theorem sort67_lays : Go.Proofs.SlLaysF0.n6 Try.prog sort67_ren := {
 mixed := by kernel_rfl,
 f6 := ⟨Try.f60.name, by decide, Try.func60.trans (congrArg some (by kernel_rfl))⟩,
 f14 := ⟨Try.f75.name, by decide, Try.func75.trans (congrArg some (by kernel_rfl))⟩,
 f15 := Try.func76.trans (congrArg some (by kernel_rfl)),
 f20 := ⟨Try.f81.name, by decide, Try.func81.trans (congrArg some (by kernel_rfl))⟩,
 f21 := ⟨Try.f82.name, by decide, Try.func82.trans (congrArg some (by kernel_rfl))⟩,
 f22 := ⟨Try.f83.name, by decide, Try.func83.trans (congrArg some (by kernel_rfl))⟩,
 f23 := ⟨Try.f84.name, by decide, Try.func84.trans (congrArg some (by kernel_rfl))⟩,
 f24 := ⟨Try.f85.name, by decide, Try.func85.trans (congrArg some (by kernel_rfl))⟩,
 f25 := ⟨Try.f86.name, by decide, Try.func86.trans (congrArg some (by kernel_rfl))⟩,
 f26 := ⟨Try.f87.name, by decide, Try.func87.trans (congrArg some (by kernel_rfl))⟩,
 f27 := ⟨Try.f88.name, by decide, Try.func88.trans (congrArg some (by kernel_rfl))⟩,
 f28 := Try.func89.trans (congrArg some (by kernel_rfl)),
 f29 := Try.func90.trans (congrArg some (by kernel_rfl)),
 f46 := ⟨Try.f92.name, by decide, Try.func92.trans (congrArg some (by kernel_rfl))⟩,
 f47 := Try.func93.trans (congrArg some (by kernel_rfl)),
 f48 := Try.func94.trans (congrArg some (by kernel_rfl)),
 f49 := ⟨Try.f95.name, by decide, Try.func95.trans (congrArg some (by kernel_rfl))⟩,
 f50 := ⟨Try.f96.name, by decide, Try.func96.trans (congrArg some (by kernel_rfl))⟩,
 f57 := ⟨Try.f97.name, by decide, Try.func97.trans (congrArg some (by kernel_rfl))⟩,
 t0 := Try.underlying0,
 a0 := Try.isAgg0,
 z0 := Try.sizeOf0,
 v0 := Try.zeroValue0,
 t3 := Try.underlying3,
 a3 := Try.isAgg3,
 z3 := Try.sizeOf3,
 v3 := Try.zeroValue3,
 t4 := Try.underlying4,
 a4 := Try.isAgg4,
 z4 := Try.sizeOf4,
 v4 := Try.zeroValue4,
 t5 := Try.underlying5,
 a5 := Try.isAgg5,
 z5 := Try.sizeOf5,
 v5 := Try.zeroValue5,
 t9 := Try.underlying9,
 a9 := Try.isAgg9,
 z9 := Try.sizeOf9,
 v9 := Try.zeroValue9,
 t22 := Try.underlying59,
 a22 := Try.isAgg59,
 z22 := Try.sizeOf59,
 v22 := Try.zeroValue59,
 t25 := Try.underlying109,
 a25 := Try.isAgg109,
 z25 := Try.sizeOf109,
 v25 := Try.zeroValue109,
 t39 := Try.underlying127,
 a39 := Try.isAgg127,
 z39 := Try.sizeOf127,
 v39 := Try.zeroValue127,
 t45 := Try.underlying134,
 a45 := Try.isAgg134,
 z45 := Try.sizeOf134,
 v45 := Try.zeroValue134,
 t46 := Try.underlying135,
 a46 := Try.isAgg135,
 z46 := Try.sizeOf135,
 v46 := Try.zeroValue135,
 t50 := Try.underlying47,
 a50 := Try.isAgg47,
 z50 := Try.sizeOf47,
 v50 := Try.zeroValue47,
 t53 := Try.underlying80,
 a53 := Try.isAgg80,
 z53 := Try.sizeOf80,
 v53 := Try.zeroValue80,
 t55 := Try.underlying142,
 a55 := Try.isAgg142,
 z55 := Try.sizeOf142,
 v55 := Try.zeroValue142,
 t66 := Try.underlying143,
 a66 := Try.isAgg143,
 z66 := Try.sizeOf143,
 v66 := Try.zeroValue143,
 t70 := Try.underlying147,
 a70 := Try.isAgg147,
 z70 := Try.sizeOf147,
 v70 := Try.zeroValue147,
 t76 := Try.underlying149,
 a76 := Try.isAgg149,
 z76 := Try.sizeOf149,
 v76 := Try.zeroValue149,
 t77 := Try.underlying150,
 a77 := Try.isAgg150,
 z77 := Try.sizeOf150,
 v77 := Try.zeroValue150 }

instance : Inhabited S67 := ⟨⟨0, 0⟩⟩
theorem cmpI_neg (a b : Int) : cmpI a b < 0 ↔ a < b := by unfold cmpI; split <;> (try split) <;> omega
theorem cmpI_zero (a b : Int) : cmpI a b = 0 ↔ a = b := by unfold cmpI; split <;> (try split) <;> omega
def lt67 (x y : S67) : Bool := decide (x.f0 < y.f0 ∨ x.f0 = y.f0 ∧ x.f1 < y.f1)
theorem ltOf67 (x y : S67) : ltOf cmp67 x y = lt67 x y := by
 unfold ltOf lt67 cmp67
 by_cases h : x.f0 = y.f0
 ·rw [if_pos ((cmpI_zero _ _).2 h)]; simp [cmpI_neg, h]
 ·rw [if_neg (fun e => h ((cmpI_zero _ _).1 e))]; simp [cmpI_neg, h]
theorem swo67 : SWO (ltOf cmp67) where
 irrefl x := by rw [ltOf67]; simp [lt67]
 trans x y z h1 h2 := by rw [ltOf67] at *; simp only [lt67, decide_eq_true_eq] at *; omega
 ntrans x y z h1 h2 := by rw [ltOf67] at *; simp only [lt67, decide_eq_false_iff_not] at *; omega
def sort67.f (xs : List S67) : Option (List S67) := if xs.length < 4611686018427387904 then some (xs.mergeSort fun x y => !lt67 y x) else none
set_option maxHeartbeats 1000000 in
theorem sort67.calls {base : Nat} {ok : Nat → Prop} {v : Value} (xs ys : List S67) (w : World) (hr : Kd.R k67 67 w base ok v xs) (h : sort67.f xs = some ys) :
  Calls Try.prog 60 #[v, .func (.func 61) #[] #[]] w fun e w' => e = .returned (.tuple #[]) ∧ Kd.R k67 67 w' base ok v ys ∧ Below base w w' := by
 unfold sort67.f at h
 split at h
 case isFalse => cases h
 rename_i hl
 obtain rfl := Option.some.inj h
 have own := hr.2
 obtain ⟨inner, ⟨h1, ho⟩, h2⟩ := own
 rcases ho with ⟨rfl, h0⟩ | ⟨g, cap, cur, rfl, hg, hb, hnc, hcm, hcs, htk⟩
 ·obtain rfl : xs = [] := List.eq_nil_of_length_eq_zero h0
  refine (AnyF.slices_SortFunc_none sort67_lays none 0 _ w).mono ?_
  rintro e w' ⟨rfl, rfl⟩
  exact ⟨rfl, by simpa using hr, Below.refl _ _⟩
 ·obtain ⟨_, hlt, hH, hF⟩ := sort_frame enc67 2 (fun _ => rfl) (by omega) k67 rfl (fun hm => k67_openM hm) (fun w base ok x => k67_mkM w base ok x) hr
  refine (AnyQ.slices_SortFunc_total sort67_lays 2 Try.isAgg67 Try.sizeOf67 enc67 (fun _ => rfl) (fun x v hv => by simp [enc67] at hv; rcases hv with rfl | rfl <;> rfl) cmp67 swo67 61 #[] g 0 cap xs.toArray w (enters_of Try.func61 (by kernel_rfl) rfl)
   (fun m os dk hs x y => Alike_1.calls x y _) hH hlt hl (fun x y hx hy => by
    rw [ltOf67] at hx hy; simp only [lt67, decide_eq_false_iff_not] at hx hy
    cases x; cases y; simp only [S67.mk.injEq] at *; omega)).mono ?_
  rintro e w' ⟨rfl, n, os, rfl⟩
  have := hF (xs.mergeSort fun x y => !lt67 y x) n os (List.length_mergeSort _)
  simp only [ltOf67]
  exact ⟨trivial, this.1, this.2⟩
end Go.Proofs.Yticbhgjenidjlaa.T
namespace Go.Proofs.Yticbhgjenidjlaa.T
open Go.RowKit Go.Proofs.YticbhgjenidjlaaW.PrintWords Go.Proofs.YticbhgjenidjlaaW.PrintLast Go.Proofs.YticbhgjenidjlaaW.PrintMore
attribute [local go_sem] max2_int min2_int max_two min_two max_three min_three max_four min_four   -- for this text's walks alone
set_option linter.unusedVariables false
set_option linter.unusedSimpArgs false
attribute [local go_sem] wl_100001

theorem info67 : (Try.prog.info? 67).map (fun i => (i.zero, i.size, i.bytes)) = some (some (.agg #[(.int .i64 0), (.int .i64 0)]), 2, 16) := by kernel_rfl
mutual
def thread_Alike.l0 : Nat → List (S23) → List (S67) → List (S23) → Int → Int → Int → Int → Int → Option ((List (S67)) × Int)
 | 0, _, _, _, _, _, _, _, _ => none
 | k + 1, x0, x4, x26, x27, x28, x316000, x316001, x316002 => if x28 < x27 then (if 0 ≤ x28 then (if x28 < (x26.length : Int) then (thread_Alike.l1 k x0 x4 x28 x26 x27 x28 x28 0 x316000 x316001 x316002 ((rd_T23 x26 x28).f0) ((rd_T23 x26 x28).f1) ((rd_T23 x26 x28).f2) ((rd_T23 x26 x28).f3) ((rd_T23 x26 x28).f4) ((rd_T23 x26 x28).f5) ((rd_T23 x26 x28).f6) ((rd_T23 x26 x28).f7)) else (none)) else (none)) else ((sort67.f x4).bind fun y_ => (some (y_, 0)))
def thread_Alike.l1 : Nat → List (S23) → List (S67) → Int → List (S23) → Int → Int → Int → Int → Int → Int → Int → Int → Int → Int → Int → Int → Int → Bool → Int → Option ((List (S67)) × Int)
 | 0, _, _, _, _, _, _, _, _, _, _, _, _, _, _, _, _, _, _, _ => none
 | k + 1, x0, x4, x7, x26, x27, x28, x33, x34, x316000, x316001, x316002, x323000, x323001, x323002, x323003, x323004, x323005, x323006, x323007 => if x34 < x33 then (if 0 ≤ x34 then (if x34 < (x0.length : Int) then ((thread_form_isAlike.f ((rd_T23 x0 x34).f0) ((rd_T23 x0 x34).f1) ((rd_T23 x0 x34).f2) ((rd_T23 x0 x34).f3) ((rd_T23 x0 x34).f4) ((rd_T23 x0 x34).f5) ((rd_T23 x0 x34).f6) ((rd_T23 x0 x34).f7) x323000 x323001 x323002 x323003 x323004 x323005 x323006 x323007 x316000 x316001 x316002).bind fun t324 => (if t324 = true then (if x4.length < 8796093022208 then (thread_Alike.l1 k x0 (x4 ++ [(⟨x34, x7⟩ : S67)]) x7 x26 x27 x28 x33 (wrap64 (x34 + 1)) x316000 x316001 x316002 x323000 x323001 x323002 x323003 x323004 x323005 x323006 x323007) else (none)) else (thread_Alike.l1 k x0 x4 x7 x26 x27 x28 x33 (wrap64 (x34 + 1)) x316000 x316001 x316002 x323000 x323001 x323002 x323003 x323004 x323005 x323006 x323007))) else (none)) else (none)) else (thread_Alike.l0 k x0 x4 x26 x27 (wrap64 (x28 + 1)) x316000 x316001 x316002)
end
def thread_Alike.f (k : Nat) (l0 : List (S23)) (a1_0 : Int) (a1_1 : Int) (a1_2 : Int) : Option ((List (S67)) × Int) := (thread_checkTable.f k l0).bind fun t316 => (if t316 = 0 then ((thread_within.f 0 10000000 (([a1_0, a1_1, a1_2] : List Int))).bind fun t320 => (if t320 = true then (thread_Alike.l0 k l0 ([] : List (S67)) l0 (l0.length : Int) 0 a1_0 a1_1 a1_2) else (some (([] : List (S67)), 3)))) else (some (([] : List (S67)), t316)))
theorem thread_Alike.mono_l : ∀ k, (∀ y0 y1 y2 y3 y4 y5 y6 y7, LeO (thread_Alike.l0 k y0 y1 y2 y3 y4 y5 y6 y7) (thread_Alike.l0 (k + 1) y0 y1 y2 y3 y4 y5 y6 y7)) ∧ (∀ y0 y1 y2 y3 y4 y5 y6 y7 y8 y9 y10 y11 y12 y13 y14 y15 y16 y17 y18, LeO (thread_Alike.l1 k y0 y1 y2 y3 y4 y5 y6 y7 y8 y9 y10 y11 y12 y13 y14 y15 y16 y17 y18) (thread_Alike.l1 (k + 1) y0 y1 y2 y3 y4 y5 y6 y7 y8 y9 y10 y11 y12 y13 y14 y15 y16 y17 y18))
 | 0 => ⟨fun _ _ _ _ _ _ _ _ r h => by simp [thread_Alike.l0] at h, fun _ _ _ _ _ _ _ _ _ _ _ _ _ _ _ _ _ _ _ r h => by simp [thread_Alike.l1] at h⟩
 | k + 1 => by
  obtain ⟨ih0, ih1⟩ := thread_Alike.mono_l k
  refine ⟨?_, ?_⟩
  ·intro y0 y1 y2 y3 y4 y5 y6 y7
   unfold thread_Alike.l0
   repeat' first
   | (with_reducible exact ih0 _ _ _ _ _ _ _ _)
   | (with_reducible exact ih1 _ _ _ _ _ _ _ _ _ _ _ _ _ _ _ _ _ _ _)
   | (with_reducible exact thread_checkTable.mono _ _)
   | (with_reducible exact LeO.refl _)
   | (with_reducible exact LeO.none _)
   | (with_reducible refine LeO.ite ?_ ?_)
   | (with_reducible refine LeO.bind ?_ (fun _ => ?_))
   | exact ih0 _ _ _ _ _ _ _ _
   | exact ih1 _ _ _ _ _ _ _ _ _ _ _ _ _ _ _ _ _ _ _
   | exact thread_checkTable.mono _ _
   | exact LeO.none _
   | refine LeO.ite ?_ ?_
   | refine LeO.bind ?_ (fun _ => ?_)
  ·intro y0 y1 y2 y3 y4 y5 y6 y7 y8 y9 y10 y11 y12 y13 y14 y15 y16 y17 y18
   unfold thread_Alike.l1
   repeat' first
   | (with_reducible exact ih0 _ _ _ _ _ _ _ _)
   | (with_reducible exact ih1 _ _ _ _ _ _ _ _ _ _ _ _ _ _ _ _ _ _ _)
   | (with_reducible exact thread_checkTable.mono _ _)
   | (with_reducible exact LeO.refl _)
   | (with_reducible exact LeO.none _)
   | (with_reducible refine LeO.ite ?_ ?_)
   | (with_reducible refine LeO.bind ?_ (fun _ => ?_))
   | exact ih0 _ _ _ _ _ _ _ _
   | exact ih1 _ _ _ _ _ _ _ _ _ _ _ _ _ _ _ _ _ _ _
   | exact thread_checkTable.mono _ _
   | exact LeO.none _
   | refine LeO.ite ?_ ?_
   | refine LeO.bind ?_ (fun _ => ?_)
theorem thread_Alike.mono : ∀ a0 a1 a2 a3 k, LeO (thread_Alike.f k a0 a1 a2 a3) (thread_Alike.f (k + 1) a0 a1 a2 a3) := by
 intro a0 a1 a2 a3 k
 obtain ⟨ih0, ih1⟩ := thread_Alike.mono_l k
 unfold thread_Alike.f
 repeat' first
   | (with_reducible exact ih0 _ _ _ _ _ _ _ _)
   | (with_reducible exact ih1 _ _ _ _ _ _ _ _ _ _ _ _ _ _ _ _ _ _ _)
   | (with_reducible exact thread_checkTable.mono _ _)
   | (with_reducible exact LeO.refl _)
   | (with_reducible exact LeO.none _)
   | (with_reducible refine LeO.ite ?_ ?_)
   | (with_reducible refine LeO.bind ?_ (fun _ => ?_))
   | exact ih0 _ _ _ _ _ _ _ _
   | exact ih1 _ _ _ _ _ _ _ _ _ _ _ _ _ _ _ _ _ _ _
   | exact thread_checkTable.mono _ _
   | exact LeO.none _
   | refine LeO.ite ?_ ?_
   | refine LeO.bind ?_ (fun _ => ?_)
def thread_Alike.T12 : Bool × List (List Nat × List Nat) := (true, [([], []), ([], []), ([0, 1], [0, 1]), ([2], [2]), ([3], [3]), ([], []), ([], []), ([4, 5, 6], [4, 5, 6])])
def thread_Alike.B12 : List Nat := [0, 0, 3, 7, 15, 0, 0, 127]
theorem thread_Alike.tab12 : rtab .any (opsOf Try.f31 12) = thread_Alike.T12 := by kernel_rfl
theorem thread_Alike.bits12 : waitsOk thread_Alike.T12.2 thread_Alike.B12 = true := by kernel_rfl
set_option maxHeartbeats 8000000 in
set_option maxRecDepth 100000 in
theorem thread_Alike.calls (k : Nat) (A0 : Option Addr) (c0 : Nat) (l0 : List (S23)) (a1_0 : Int) (a1_1 : Int) (a1_2 : Int) (r1 : List (S67)) (r2 : Int) (w : World) (hr0 : Kd.C k23 w A0 l0.length l0) (hc0 : l0.length ≤ c0) (h : thread_Alike.f k l0 a1_0 a1_1 a1_2 = some (r1, r2)) :
  Calls Try.prog 31 #[.slice A0 l0.length c0, .agg #[.int .i64 a1_0, .int .i64 a1_1, .int .i64 a1_2]] w fun e w' => ∃ v0_ : Value, e = .returned (.tuple #[v0_, .int .i64 r2]) ∧ Kd.R k67 67 w' w.heap.size (fun _ => True) v0_ r1 ∧ Below w.heap.size w w' := by
 have hu55 := Try.underlying55
 have hu23 := Try.underlying23
 have hu96 := Try.underlying96
 have hu67 := Try.underlying67
 have HR0 := Aside0.mk hr0
 have HC0 := Aside0.mk hc0
 clear hr0 hc0
 have HB := Aside0.mk (Below.refl w.heap.size w)
 have H : ((thread_checkTable.f k l0).bind fun t316 => (if t316 = 0 then ((thread_within.f 0 10000000 (([a1_0, a1_1, a1_2] : List Int))).bind fun t320 => (if t320 = true then (thread_Alike.l0 k l0 ([] : List (S67)) l0 (l0.length : Int) 0 a1_0 a1_1 a1_2) else (some (([] : List (S67)), 3)))) else (some (([] : List (S67)), t316)))) = some (r1, r2) := h
 clear h
 replace H := Option.bind_eq_some_iff.mp H
 obtain ⟨t316, A30, H⟩ := H; (try dsimp only at H)
 have A3 := Aside0.mk A30
 clear A30
 by_cases c4 : t316 = 0
 ·rw [if_pos c4] at H
  have c4b0 : (t316 == 0) = true := beq_iff_eq.mpr c4
  have c4b1 : (t316 != 0) = false := bne_eq_false_iff_eq.mpr c4
  clear c4
  obtain ⟨y317, hy317⟩ : ∃ y_ : List Int, y_ = (([a1_0, a1_1, a1_2] : List Int)) := ⟨_, rfl⟩
  replace H : ((thread_within.f 0 10000000 y317).bind fun t320 => (if t320 = true then (thread_Alike.l0 k l0 ([] : List (S67)) l0 (l0.length : Int) 0 a1_0 a1_1 a1_2) else (some (([] : List (S67)), 3)))) = some (r1, r2) := by first | (rw [hy317]; with_reducible exact H) | (have H2_ := (Option.bind_some _ _).symm.trans H; rw [hy317]; with_reducible exact H2_) | (have H2_ := (Option.bind_some _ _).symm.trans H; with_reducible exact H2_) | with_reducible exact H | (rw [hy317]; exact H) | exact H
  have Ny317 := Aside0.mk hy317
  clear hy317
  replace H := Option.bind_eq_some_iff.mp H
  obtain ⟨t320, A50, H⟩ := H; (try dsimp only at H)
  have A5 := Aside0.mk A50
  clear A50
  by_cases c6 : t320 = true
  ·subst c6
   have H1 : (thread_Alike.l0 k l0 ([] : List (S67)) l0 (l0.length : Int) 0 a1_0 a1_1 a1_2) = some (r1, r2) := by rw [if_pos rfl] at H; exact H
   clear H
   have H := H1
   clear H1
   have H' := Aside0.mk H
   clear H
   go_enter Try.func31, Try.ntmps31
   go_wp2_with (first | ((with_reducible refine gate_dst (N := 3) rfl ?_); refine box_event ?hg (N := 3) ?hd (cs := #[.int .i64 a1_0, .int .i64 a1_1, .int .i64 a1_2]) (t := 55) ?hr ?_; (case hd => rfl); (case hg => rfl); (case hr => first | (go_simp; done) | (go_simp; rfl)); intro gb315 hg w7 hbox hb; have BK315 := Aside0.mk (hbox); have GW315 := Aside0.mk ((by rw [hg]; exact (below_size HB.out) : w.heap.size ≤ gb315)); have GE315 := GW315; replace HB := Aside0.mk (below_step HB.out hb); clear hb hbox hg) | ((with_reducible refine gate_callee (f := 56) rfl ?_); refine goesL_ (some 11) rfl rfl Try.func56 (by kernel_rfl) rfl #[.slice A0 l0.length c0] rfl (by (try simp only [List.map_toArray, List.map_cons, List.map_nil]); first | done | rfl | (simp only [List.length_drop, List.length_take]; rfl)) ?_; (with_reducible refine (thread_checkTable.calls k _ _ l0 t316 _ ?side1 ?side2 A3.out).mono ?_); (case side1 => repeat (first | exact (Kd.C_below HR0.out HB.out) | (with_reducible refine Kd.C_alloc ?_ _) | (with_reducible refine Kd.C_drewN ?_ _) | (with_reducible refine Kd.C_drew ?_))); (case side2 => exact HC0.out); rintro e w8 ⟨rfl, hb⟩; refine ⟨_, rfl, ?_⟩; replace BK315 := Aside0.mk (blk_below (g := gb315) (o := .cells #[.int .i64 a1_0, .int .i64 a1_1, .int .i64 a1_2] 55 (0, 0)) (by repeat (first | (with_reducible first | exact BK315.out | refine blk_drewN ?_ _ | refine blk_drew ?_ | refine blk_alloc ?_ _) | exact BK315.out)) hb); replace HB := Aside0.mk (below_step (by repeat (first | (with_reducible first | exact HB.out | apply below_alloc | apply pw_below_drewN | apply below_drew1 | refine below_set ?_ (Aside0.out (by assumption))) | exact HB.out)) hb); (try clear hb); (try clear hb2); (try clear hk); (try clear hi); obtain ⟨hcz9_0, hcz9_1, hcz9_2⟩ := bc3 BK315.out; obtain ⟨hfz9_0, hfz9_1, hfz9_2⟩ := bf3 BK315.out) | ((with_reducible refine gate_dst (N := 23) rfl ?_); refine Kd.R_lit (Kd.int .i64) _ 3 ?hg (N := 23) ?hd (xs := ([a1_0, a1_1, a1_2] : List Int)) (inner := [.int .i64 a1_0, .int .i64 a1_1, .int .i64 a1_2]) (ok := fun _ => True) (okp := fun _ => True) ?hr ?hp (fun _ hk => hk) trivial (Below.refl _ _) (Nat.le_refl _) (by simp) ?_; (case hd => rfl); (case hg => rfl); (case hr => first | (go_simp; done) | (go_simp; rfl)); (case hp => exact (Reps.one (show Kd.M (Kd.int .i64) _ _ _ a1_0 [.int .i64 a1_0] from rfl) (Reps.one (show Kd.M (Kd.int .i64) _ _ _ a1_1 [.int .i64 a1_1] from rfl) (Reps.one (show Kd.M (Kd.int .i64) _ _ _ a1_2 [.int .i64 a1_2] from rfl) (Reps.none _ _))))); intro v318 w10 ho11 hb hg_ hnew_; clear hg_ hnew_; (first | rw [← Ny317.out] at ho11 | (simp only [Int.reduceToNat] at ho11; rw [← Ny317.out] at ho11)); have HO319 := Aside0.mk (Kd.R_lower ho11 (below_size (by repeat (first | (with_reducible first | exact HB.out | apply below_alloc | apply pw_below_drewN | apply below_drew1 | refine below_set ?_ (Aside0.out (by assumption))) | exact HB.out)))); replace BK315 := Aside0.mk (blk_below (g := gb315) (o := .cells #[.int .i64 a1_0, .int .i64 a1_1, .int .i64 a1_2] 55 (0, 0)) (by repeat (first | (with_reducible first | exact BK315.out | refine blk_drewN ?_ _ | refine blk_drew ?_ | refine blk_alloc ?_ _) | exact BK315.out)) hb); replace HB := Aside0.mk (below_step (by repeat (first | (with_reducible first | exact HB.out | apply below_alloc | apply pw_below_drewN | apply below_drew1 | refine below_set ?_ (Aside0.out (by assumption))) | exact HB.out)) hb); clear hb ho11; obtain ⟨Ao12, co12, eo12⟩ := Kd.R_slice HO319.out; subst eo12) | ((with_reducible refine gate_callee (f := 43) rfl ?_); refine goesL_ (some 24) rfl rfl Try.func43 (by kernel_rfl) rfl #[.int .i64 0, .int .i64 10000000, .slice Ao12 y317.length co12] rfl (by (try simp only [List.map_toArray, List.map_cons, List.map_nil]); first | done | rfl | (simp only [List.length_drop, List.length_take]; rfl)) ?_; (with_reducible refine (thread_within.calls 0 10000000 _ _ y317 true _ ?side1 ?side2 A5.out).mono ?_); (case side1 => repeat (first | exact (Kd.R_reads' HO319.out).2.2 | (with_reducible refine Kd.C_alloc ?_ _) | (with_reducible refine Kd.C_drewN ?_ _) | (with_reducible refine Kd.C_drew ?_))); (case side2 => exact (Kd.R_reads' HO319.out).2.1); rintro e w13 ⟨rfl, hb⟩; refine ⟨_, rfl, ?_⟩; replace HO319 := Aside0.mk (Kd.R_below (by (with_reducible repeat (first | apply Kd.R_alloc | apply Kd.R_drewN | apply Kd.R_drew)); exact HO319.out) hb); replace BK315 := Aside0.mk (blk_below (g := gb315) (o := .cells #[.int .i64 a1_0, .int .i64 a1_1, .int .i64 a1_2] 55 (0, 0)) (by repeat (first | (with_reducible first | exact BK315.out | refine blk_drewN ?_ _ | refine blk_drew ?_ | refine blk_alloc ?_ _) | exact BK315.out)) hb); replace HB := Aside0.mk (below_step (by repeat (first | (with_reducible first | exact HB.out | apply below_alloc | apply pw_below_drewN | apply below_drew1 | refine below_set ?_ (Aside0.out (by assumption))) | exact HB.out)) hb); (try clear hb); (try clear hb2); (try clear hk); (try clear hi)))
   go_loopg [4, 28] k (fun kq v4 v28 w' => ∃ (x4_1 : List (S67)) (x28_1 : Int), v28 = .int .i64 x28_1 ∧ Aside0 (thread_Alike.l0 kq l0 x4_1 l0 (l0.length : Int) x28_1 a1_0 a1_1 a1_2 = some (r1, r2)) ∧ Aside0 (kq ≤ k) ∧ Aside0 (Kd.R k67 67 w' w.heap.size (fun _ => True) v4 x4_1) ∧ Aside0 (w'.heap[gb315]? = some (.cells #[.int .i64 a1_0, .int .i64 a1_1, .int .i64 a1_2] 55 (0, 0))) ∧ Aside0 (Below w.heap.size w w'))
   case atStart => exact ⟨(([] : List (S67))), (0), (by first | rfl | (simp; done) | (simp [*]; done)), H', ⟨Nat.le_refl _⟩, ⟨by first | exact Kd.R_nil _ _ _ _ _ | exact Kd.N_nil _ _ _ _ _ | exact Kd.V_nil _ _ _ _ _ | exact Kd.Q_nil _ _ _ _ _ | exact Kd.S_nil _ _ _ _ _⟩, BK315, ⟨by repeat (first | (with_reducible first | exact HB.out | apply below_alloc | apply pw_below_drewN | apply below_drew1 | refine below_set ?_ (Aside0.out (by assumption))) | exact HB.out)⟩⟩
   case round =>
    clear H'
    try clear p2; try clear c3; try clear c4; try clear c4b0; try clear c4b1; try clear c5; try clear c6; try clear hcz9_0; try clear hcz9_1; try clear hcz9_2; try clear hfz9_0; try clear hfz9_1; try clear hfz9_2
    obtain ⟨x4_1, x28_1, rfl, HA, HK1, HO_4, BK315, HB⟩ := hrel
    cases gk with
    | zero => exact absurd HA.out (by simp [thread_Alike.l0])
    | succ k1 =>
     have H := HA.out
     clear HA
     simp only [thread_Alike.l0] at H
     by_cases c14 : x28_1 < (l0.length : Int)
     ·rw [if_pos c14] at H
      have c14b0 : decide (x28_1 < (l0.length : Int)) = true := decide_eq_true c14
      clear c14
      by_cases c15 : 0 ≤ x28_1
      ·rw [if_pos c15] at H
       have c15b0 : decide (0 ≤ x28_1) = true := decide_eq_true c15
       clear c15
       by_cases c16 : x28_1 < (l0.length : Int)
       ·rw [if_pos c16] at H
        have c16b0 : decide (x28_1 < (l0.length : Int)) = true := decide_eq_true c16
        clear c16
        have H' := Aside0.mk H
        clear H
        have p321 : 0 ≤ (x28_1 : Int) := of_decide_eq_true (by first | (with_reducible assumption) | assumption)
        have q321 : x28_1 < (l0.length : Int) := of_decide_eq_true (by first | (with_reducible assumption) | assumption)
        obtain ⟨ad321, e321, hx321_0, hx321_1, hx321_2, hx321_3, hx321_4, hx321_5, hx321_6, hx321_7⟩ := at_T23 HR0.out x28_1 p321 q321
        cases e321
        replace hx321_0 := (HB.out.cell (World.block_lt_of_cell? w _ hx321_0)).trans hx321_0
        replace hx321_1 := (HB.out.cell (World.block_lt_of_cell? w _ hx321_1)).trans hx321_1
        replace hx321_2 := (HB.out.cell (World.block_lt_of_cell? w _ hx321_2)).trans hx321_2
        replace hx321_3 := (HB.out.cell (World.block_lt_of_cell? w _ hx321_3)).trans hx321_3
        replace hx321_4 := (HB.out.cell (World.block_lt_of_cell? w _ hx321_4)).trans hx321_4
        replace hx321_5 := (HB.out.cell (World.block_lt_of_cell? w _ hx321_5)).trans hx321_5
        replace hx321_6 := (HB.out.cell (World.block_lt_of_cell? w _ hx321_6)).trans hx321_6
        replace hx321_7 := (HB.out.cell (World.block_lt_of_cell? w _ hx321_7)).trans hx321_7
        replace p321 := eq_true p321
        replace q321 := eq_true q321
        go_wp2_with (first | ((with_reducible refine gate_dst (N := 8) rfl ?_); refine box_event ?hg (N := 8) ?hd (cs := #[.int .i64 0, .int .i64 0, .int .i64 0, .int .i64 0, .int .i64 0, .int .i64 0, .bool false, .int .i64 0]) (t := 23) ?hr ?_; (case hd => rfl); (case hg => rfl); (case hr => first | (go_simp; done) | (go_simp; rfl)); intro gb322 hg w17 hbox hb; replace HO_4 := Aside0.mk (Kd.R_below (by (with_reducible repeat (first | apply Kd.R_alloc | apply Kd.R_drewN | apply Kd.R_drew)); exact HO_4.out) hb); have BK322 := Aside0.mk (hbox); have GW322 := Aside0.mk ((by rw [hg]; exact (below_size (by repeat (first | (with_reducible first | exact HB.out | apply below_alloc | apply pw_below_drewN | apply below_drew1 | refine below_set ?_ (Aside0.out (by assumption))) | exact HB.out))) : w.heap.size ≤ gb322)); have GE322 := GW322; replace HB := Aside0.mk (below_step (by repeat (first | (with_reducible first | exact HB.out | apply below_alloc | apply pw_below_drewN | apply below_drew1 | refine below_set ?_ (Aside0.out (by assumption))) | exact HB.out)) hb); have NB315_322 := Aside0.mk ((by rw [hg]; exact Nat.ne_of_lt (blk_lt BK315.out) : gb315 ≠ gb322)); have NB322_315 := Aside0.mk ((by rw [hg]; exact Nat.ne_of_gt (blk_lt BK315.out) : gb322 ≠ gb315)); replace BK315 := Aside0.mk (blk_below (g := gb315) (o := .cells #[.int .i64 a1_0, .int .i64 a1_1, .int .i64 a1_2] 55 (0, 0)) (by repeat (first | (with_reducible first | exact BK315.out | refine blk_drewN ?_ _ | refine blk_drew ?_ | refine blk_alloc ?_ _) | exact BK315.out)) hb); clear hb hbox hg; have hnb18 := NB322_315.out; have hnc18 := NB315_322.out; obtain ⟨hcz19_0, hcz19_1, hcz19_2, hcz19_3, hcz19_4, hcz19_5, hcz19_6, hcz19_7⟩ := bc8 BK322.out; obtain ⟨hfz19_0, hfz19_1, hfz19_2, hfz19_3, hfz19_4, hfz19_5, hfz19_6, hfz19_7⟩ := bf8 BK322.out))
        go_loopg [4, 34] k1 (fun kq v4 v34 w' => ∃ (x4_2 : List (S67)) (x34_2 : Int), v34 = .int .i64 x34_2 ∧ Aside0 (thread_Alike.l1 kq l0 x4_2 x28_1 l0 (l0.length : Int) x28_1 x28_1 x34_2 a1_0 a1_1 a1_2 ((rd_T23 l0 x28_1).f0) ((rd_T23 l0 x28_1).f1) ((rd_T23 l0 x28_1).f2) ((rd_T23 l0 x28_1).f3) ((rd_T23 l0 x28_1).f4) ((rd_T23 l0 x28_1).f5) ((rd_T23 l0 x28_1).f6) ((rd_T23 l0 x28_1).f7) = some (r1, r2)) ∧ Aside0 (kq ≤ k1) ∧ Aside0 (Kd.R k67 67 w' w.heap.size (fun _ => True) v4 x4_2) ∧ Aside0 (w'.heap[gb315]? = some (.cells #[.int .i64 a1_0, .int .i64 a1_1, .int .i64 a1_2] 55 (0, 0))) ∧ Aside0 (w'.heap[gb322]? = some (.cells #[.int .i64 ((rd_T23 l0 x28_1).f0), .int .i64 ((rd_T23 l0 x28_1).f1), .int .i64 ((rd_T23 l0 x28_1).f2), .int .i64 ((rd_T23 l0 x28_1).f3), .int .i64 ((rd_T23 l0 x28_1).f4), .int .i64 ((rd_T23 l0 x28_1).f5), .bool ((rd_T23 l0 x28_1).f6), .int .i64 ((rd_T23 l0 x28_1).f7)] 23 (0, 0))) ∧ Aside0 (Below w.heap.size w w'))
        case atStart => exact ⟨(x4_1), (0), (by first | rfl | (simp; done) | (simp [*]; done)), H', ⟨Nat.le_refl _⟩, ⟨by (with_reducible repeat (first | apply Kd.R_alloc | apply Kd.R_drewN | apply Kd.R_drew)); exact Kd.R_mono (Kd.R_far (p := ⟨gb322, 7, none⟩) (Kd.R_far (p := ⟨gb322, 6, none⟩) (Kd.R_far (p := ⟨gb322, 5, none⟩) (Kd.R_far (p := ⟨gb322, 4, none⟩) (Kd.R_far (p := ⟨gb322, 3, none⟩) (Kd.R_far (p := ⟨gb322, 2, none⟩) (Kd.R_far (p := ⟨gb322, 1, none⟩) (Kd.R_far (p := ⟨gb322, 0, none⟩) (Kd.R_types HO_4.out BK322.out (by decide)) (fun _ hk => hk.2) (.int .i64 ((rd_T23 l0 x28_1).f0))) (fun _ hk => hk.2) (.int .i64 ((rd_T23 l0 x28_1).f1))) (fun _ hk => hk.2) (.int .i64 ((rd_T23 l0 x28_1).f2))) (fun _ hk => hk.2) (.int .i64 ((rd_T23 l0 x28_1).f3))) (fun _ hk => hk.2) (.int .i64 ((rd_T23 l0 x28_1).f4))) (fun _ hk => hk.2) (.int .i64 ((rd_T23 l0 x28_1).f5))) (fun _ hk => hk.2) (.bool ((rd_T23 l0 x28_1).f6))) (fun _ hk => hk.2) (.int .i64 ((rd_T23 l0 x28_1).f7))) (fun _ hk => trivial)⟩, ⟨by repeat (first | (with_reducible first | exact BK315.out | refine blk_drewN ?_ _ | refine blk_drew ?_ | refine blk_alloc ?_ _) | refine blk_far ?_ NB315_322.out _ | exact BK315.out)⟩, ⟨by exact bto (bput (bput (bput (bput (bput (bput (bput (bput (BK322.out) _ _) _ _) _ _) _ _) _ _) _ _) _ _) _ _) rfl⟩, ⟨by repeat (first | (with_reducible first | exact HB.out | apply below_alloc | apply pw_below_drewN | apply below_drew1 | refine below_set ?_ (Aside0.out (by assumption))) | exact HB.out)⟩⟩
        case round =>
         clear H'
         try clear c1; try clear p2; try clear c3; try clear p3; try clear q3; try clear hx3; try clear c4; try clear c4b0; try clear c4b1; try clear c5; try clear c6; try clear c14; try clear c14b0; try clear c15; try clear c15b0; try clear c16; try clear c16b0; try clear c18; try clear hcz19_0; try clear hcz19_1; try clear hcz19_2; try clear hcz19_3; try clear hcz19_4; try clear hcz19_5; try clear hcz19_6; try clear hcz19_7; try clear hcz9_0; try clear hcz9_1; try clear hcz9_2; try clear hfz19_0; try clear hfz19_1; try clear hfz19_2; try clear hfz19_3; try clear hfz19_4; try clear hfz19_5; try clear hfz19_6; try clear hfz19_7; try clear hfz9_0; try clear hfz9_1; try clear hfz9_2; try clear hx321_0; try clear hx321_1; try clear hx321_2; try clear hx321_3; try clear hx321_4; try clear hx321_5; try clear hx321_6; try clear hx321_7; try clear p2; try clear p321; try clear q321
         obtain ⟨x4_2, x34_2, rfl, HA, HK2, HO_4, BK315, BK322, HB⟩ := hrel
         cases gk with
         | zero => exact absurd HA.out (by simp [thread_Alike.l1])
         | succ k2 =>
          have H := HA.out
          clear HA
          simp only [thread_Alike.l1] at H
          by_cases c20 : x34_2 < x28_1
          ·rw [if_pos c20] at H
           have c20b0 : decide (x34_2 < x28_1) = true := decide_eq_true c20
           clear c20
           by_cases c21 : 0 ≤ x34_2
           ·rw [if_pos c21] at H
            have c21b0 : decide (0 ≤ x34_2) = true := decide_eq_true c21
            clear c21
            by_cases c22 : x34_2 < (l0.length : Int)
            ·rw [if_pos c22] at H
             have c22b0 : decide (x34_2 < (l0.length : Int)) = true := decide_eq_true c22
             clear c22
             replace H := Option.bind_eq_some_iff.mp H
             obtain ⟨t324, A230, H⟩ := H; (try dsimp only at H)
             have A23 := Aside0.mk A230
             clear A230
             by_cases c24 : t324 = true
             ·subst c24
              have H1 : (if x4_2.length < 8796093022208 then (thread_Alike.l1 k2 l0 (x4_2 ++ [(⟨x34_2, x28_1⟩ : S67)]) x28_1 l0 (l0.length : Int) x28_1 x28_1 (wrap64 (x34_2 + 1)) a1_0 a1_1 a1_2 ((rd_T23 l0 x28_1).f0) ((rd_T23 l0 x28_1).f1) ((rd_T23 l0 x28_1).f2) ((rd_T23 l0 x28_1).f3) ((rd_T23 l0 x28_1).f4) ((rd_T23 l0 x28_1).f5) ((rd_T23 l0 x28_1).f6) ((rd_T23 l0 x28_1).f7)) else (none)) = some (r1, r2) := by rw [if_pos rfl] at H; exact H
              clear H
              have H := H1
              clear H1
              by_cases c25 : x4_2.length < 8796093022208
              ·rw [if_pos c25] at H
               have LMc25 := Aside0.mk c25
               clear c25
               obtain ⟨y325, hy325⟩ : ∃ y_ : List (S67), y_ = (x4_2 ++ [(⟨x34_2, x28_1⟩ : S67)]) := ⟨_, rfl⟩
               replace H : (thread_Alike.l1 k2 l0 y325 x28_1 l0 (l0.length : Int) x28_1 x28_1 (wrap64 (x34_2 + 1)) a1_0 a1_1 a1_2 ((rd_T23 l0 x28_1).f0) ((rd_T23 l0 x28_1).f1) ((rd_T23 l0 x28_1).f2) ((rd_T23 l0 x28_1).f3) ((rd_T23 l0 x28_1).f4) ((rd_T23 l0 x28_1).f5) ((rd_T23 l0 x28_1).f6) ((rd_T23 l0 x28_1).f7)) = some (r1, r2) := by first | (rw [hy325]; with_reducible exact H) | (have H2_ := (Option.bind_some _ _).symm.trans H; rw [hy325]; with_reducible exact H2_) | (have H2_ := (Option.bind_some _ _).symm.trans H; with_reducible exact H2_) | with_reducible exact H | (rw [hy325]; exact H) | exact H
               have Ny325 := Aside0.mk hy325
               clear hy325
               have H' := Aside0.mk H
               clear H
               try go_wp2
               have n0_ := Aside0.mk (Kd.R_drew HO_4.out)
               have n1_ := Aside0.mk (blk_drew BK315.out)
               have n2_ := Aside0.mk (blk_drew BK322.out)
               have n3_ := Aside0.mk (below_drew1 HB.out)
               clear HO_4
               clear BK315
               clear BK322
               clear HB
               have HO_4 := n0_
               have BK315 := n1_
               have BK322 := n2_
               have HB := n3_
               clear n0_ n1_ n2_ n3_
               have p323 : 0 ≤ (x34_2 : Int) := of_decide_eq_true (by first | (with_reducible assumption) | assumption)
               have q323 : x34_2 < (l0.length : Int) := of_decide_eq_true (by first | (with_reducible assumption) | assumption)
               obtain ⟨ad323, e323, hx323_0, hx323_1, hx323_2, hx323_3, hx323_4, hx323_5, hx323_6, hx323_7⟩ := at_T23 HR0.out x34_2 p323 q323
               have hw323_7 := hx323_7
               have hw323_6 := hx323_6
               have hw323_5 := hx323_5
               have hw323_4 := hx323_4
               have hw323_3 := hx323_3
               have hw323_2 := hx323_2
               have hw323_1 := hx323_1
               have hw323_0 := hx323_0
               obtain rfl : ad321 = ad323 := (by injection e323)
               replace hx323_0 := (HB.out.cell (World.block_lt_of_cell? w _ hx323_0)).trans hx323_0
               replace hx323_1 := (HB.out.cell (World.block_lt_of_cell? w _ hx323_1)).trans hx323_1
               replace hx323_2 := (HB.out.cell (World.block_lt_of_cell? w _ hx323_2)).trans hx323_2
               replace hx323_3 := (HB.out.cell (World.block_lt_of_cell? w _ hx323_3)).trans hx323_3
               replace hx323_4 := (HB.out.cell (World.block_lt_of_cell? w _ hx323_4)).trans hx323_4
               replace hx323_5 := (HB.out.cell (World.block_lt_of_cell? w _ hx323_5)).trans hx323_5
               replace hx323_6 := (HB.out.cell (World.block_lt_of_cell? w _ hx323_6)).trans hx323_6
               replace hx323_7 := (HB.out.cell (World.block_lt_of_cell? w _ hx323_7)).trans hx323_7
               replace p323 := eq_true p323
               replace q323 := eq_true q323
               refine start_ (n := 8) (S := fun w' => w'.cell? ⟨gb322, 0, none⟩ = some (.int .i64 ((rd_T23 l0 x28_1).f0)) ∧ w'.cell? ⟨gb322, 1, none⟩ = some (.int .i64 ((rd_T23 l0 x28_1).f1)) ∧ w'.cell? ⟨gb322, 2, none⟩ = some (.int .i64 ((rd_T23 l0 x28_1).f2)) ∧ w'.cell? ⟨gb322, 3, none⟩ = some (.int .i64 ((rd_T23 l0 x28_1).f3)) ∧ w'.cell? ⟨gb322, 4, none⟩ = some (.int .i64 ((rd_T23 l0 x28_1).f4)) ∧ w'.cell? ⟨gb322, 5, none⟩ = some (.int .i64 ((rd_T23 l0 x28_1).f5)) ∧ w'.cell? ⟨gb322, 6, none⟩ = some (.bool ((rd_T23 l0 x28_1).f6)) ∧ w'.cell? ⟨gb322, 7, none⟩ = some (.int .i64 ((rd_T23 l0 x28_1).f7)) ∧ w'.cell? ⟨gb315, 0, none⟩ = some (.int .i64 a1_0) ∧ w'.cell? ⟨gb315, 1, none⟩ = some (.int .i64 a1_1) ∧ w'.cell? ⟨gb315, 2, none⟩ = some (.int .i64 a1_2) ∧ w'.cell? (ad321.add ((x34_2).toNat * 8)) = some (.int .i64 ((rd_T23 l0 x34_2).f0)) ∧ w'.cell? ⟨(ad321.add ((x34_2).toNat * 8)).block, (ad321.add ((x34_2).toNat * 8)).off + 1, none⟩ = some (.int .i64 ((rd_T23 l0 x34_2).f1)) ∧ w'.cell? ⟨(ad321.add ((x34_2).toNat * 8)).block, (ad321.add ((x34_2).toNat * 8)).off + 2, none⟩ = some (.int .i64 ((rd_T23 l0 x34_2).f2)) ∧ w'.cell? ⟨(ad321.add ((x34_2).toNat * 8)).block, (ad321.add ((x34_2).toNat * 8)).off + 3, none⟩ = some (.int .i64 ((rd_T23 l0 x34_2).f3)) ∧ w'.cell? ⟨(ad321.add ((x34_2).toNat * 8)).block, (ad321.add ((x34_2).toNat * 8)).off + 4, none⟩ = some (.int .i64 ((rd_T23 l0 x34_2).f4)) ∧ w'.cell? ⟨(ad321.add ((x34_2).toNat * 8)).block, (ad321.add ((x34_2).toNat * 8)).off + 5, none⟩ = some (.int .i64 ((rd_T23 l0 x34_2).f5)) ∧ w'.cell? ⟨(ad321.add ((x34_2).toNat * 8)).block, (ad321.add ((x34_2).toNat * 8)).off + 6, none⟩ = some (.bool ((rd_T23 l0 x34_2).f6)) ∧ w'.cell? ⟨(ad321.add ((x34_2).toNat * 8)).block, (ad321.add ((x34_2).toNat * 8)).off + 7, none⟩ = some (.int .i64 ((rd_T23 l0 x34_2).f7))) (ds := []) #[false, false, false, false, false, false, false, false] (by kernel_rfl) rfl rfl ⟨(blk_cell BK322.out 0).trans rfl, (blk_cell BK322.out 1).trans rfl, (blk_cell BK322.out 2).trans rfl, (blk_cell BK322.out 3).trans rfl, (blk_cell BK322.out 4).trans rfl, (blk_cell BK322.out 5).trans rfl, (blk_cell BK322.out 6).trans rfl, (blk_cell BK322.out 7).trans rfl, (blk_cell BK315.out 0).trans rfl, (blk_cell BK315.out 1).trans rfl, (blk_cell BK315.out 2).trans rfl, ((HB.out.cell (World.block_lt_of_cell? w _ hw323_0)).trans hw323_0), ((HB.out.cell (World.block_lt_of_cell? w _ hw323_1)).trans hw323_1), ((HB.out.cell (World.block_lt_of_cell? w _ hw323_2)).trans hw323_2), ((HB.out.cell (World.block_lt_of_cell? w _ hw323_3)).trans hw323_3), ((HB.out.cell (World.block_lt_of_cell? w _ hw323_4)).trans hw323_4), ((HB.out.cell (World.block_lt_of_cell? w _ hw323_5)).trans hw323_5), ((HB.out.cell (World.block_lt_of_cell? w _ hw323_6)).trans hw323_6), ((HB.out.cell (World.block_lt_of_cell? w _ hw323_7)).trans hw323_7)⟩ (fun hHeld => ?_); refine with_tabW thread_Alike.tab12 thread_Alike.bits12 (fun HT_ HW_ => ?_)
               generalize wr.drew = w26 at HO_4 BK315 BK322 HB hx323_0 hx323_1 hx323_2 hx323_3 hx323_4 hx323_5 hx323_6 hx323_7 hHeld ⊢
               refine pure_ (i := 0) (N := some 37) (v := ?_) (a' := ?_) #[true, false, false, false, false, false, false, false] rfl rfl (any_of HT_.out (by kernel_rfl)) (fun _ _ _ h => h) (Or.inl ⟨by rfl, ?_⟩) ?_ ?_
               rotate_left
               ·intro w'
                go_simp
                with_reducible rfl
               rotate_left
               ·simp only [Act.put, List.setIfInBounds_toArray, List.set_cons_zero, List.set_cons_succ, i64_w, i32_w]
                rfl
               refine pure_ (i := 1) (N := some 38) (v := ?_) (a' := ?_) #[true, true, false, false, false, false, false, false] rfl rfl (any_of HT_.out (by kernel_rfl)) (fun _ _ _ h => h) (Or.inl ⟨by rfl, ?_⟩) ?_ ?_
               rotate_left
               ·intro w'
                go_simp
                with_reducible rfl
               rotate_left
               ·simp only [Act.put, List.setIfInBounds_toArray, List.set_cons_zero, List.set_cons_succ, i64_w, i32_w]
                rfl
               refine pure_ (i := 2) (N := some 39) (v := ?_) (a' := ?_) #[true, true, true, false, false, false, false, false] rfl rfl (any_of HT_.out (by kernel_rfl)) (fun _ _ _ h => h) (Or.inl ⟨by rfl, ?_⟩) ?_ ?_
               rotate_left
               ·intro w'
                go_simp
                with_reducible rfl
               rotate_left
               ·simp only [Act.put, List.setIfInBounds_toArray, List.set_cons_zero, List.set_cons_succ, i64_w, i32_w]
                rfl
               refine take_ (i := 3) (N := some 40) (v := ?_) (a' := ?_) #[true, true, true, true, false, false, false, false] rfl rfl (take_ofW HT_.out HW_.out (by kernel_rfl)) (fun _ _ _ h => h) (Or.inl ⟨by rfl, ?_⟩) hHeld ?_ ?_
               rotate_left
               ·rintro w' ⟨s0, s1, s2, s3, s4, s5, s6, s7, s8, s9, s10, s11, s12, s13, s14, s15, s16, s17, s18⟩
                go_simp
                with_reducible rfl
               rotate_left
               ·simp only [Act.put, List.setIfInBounds_toArray, List.set_cons_zero, List.set_cons_succ, i64_w, i32_w]
                rfl
               refine pure_ (i := 4) (N := some 41) (v := ?_) (a' := ?_) #[true, true, true, true, true, false, false, false] rfl rfl (any_of HT_.out (by kernel_rfl)) (fun _ _ _ h => h) (Or.inl ⟨by rfl, ?_⟩) ?_ ?_
               rotate_left
               ·intro w'
                go_simp
                with_reducible rfl
               rotate_left
               ·simp only [Act.put, List.setIfInBounds_toArray, List.set_cons_zero, List.set_cons_succ, i64_w, i32_w]
                rfl
               refine take_ (i := 5) (N := some 42) (v := ?_) (a' := ?_) #[true, true, true, true, true, true, false, false] rfl rfl (take_ofW HT_.out HW_.out (by kernel_rfl)) (fun _ _ _ h => h) (Or.inl ⟨by rfl, ?_⟩) hHeld ?_ ?_
               rotate_left
               ·rintro w' ⟨s0, s1, s2, s3, s4, s5, s6, s7, s8, s9, s10, s11, s12, s13, s14, s15, s16, s17, s18⟩
                go_simp
                with_reducible rfl
               rotate_left
               ·simp only [Act.put, List.setIfInBounds_toArray, List.set_cons_zero, List.set_cons_succ, i64_w, i32_w]
                rfl
               refine take_ (i := 6) (N := some 43) (v := ?_) (a' := ?_) #[true, true, true, true, true, true, true, false] rfl rfl (take_ofW HT_.out HW_.out (by kernel_rfl)) (fun _ _ _ h => h) (Or.inl ⟨by rfl, ?_⟩) hHeld ?_ ?_
               rotate_left
               ·rintro w' ⟨s0, s1, s2, s3, s4, s5, s6, s7, s8, s9, s10, s11, s12, s13, s14, s15, s16, s17, s18⟩
                go_simp
                with_reducible rfl
               rotate_left
               ·simp only [Act.put, List.setIfInBounds_toArray, List.set_cons_zero, List.set_cons_succ, i64_w, i32_w]
                rfl
               refine one_ (i := 7) (N := some 44) #[true, true, true, true, true, true, true, true] rfl rfl (one_of HT_.out (by kernel_rfl)) (by decide) (fun K hK => ?_)
               refine goes_ Try.func59 (by kernel_rfl) rfl #[.agg #[.int .i64 ((rd_T23 l0 x34_2).f0), .int .i64 ((rd_T23 l0 x34_2).f1), .int .i64 ((rd_T23 l0 x34_2).f2), .int .i64 ((rd_T23 l0 x34_2).f3), .int .i64 ((rd_T23 l0 x34_2).f4), .int .i64 ((rd_T23 l0 x34_2).f5), .bool ((rd_T23 l0 x34_2).f6), .int .i64 ((rd_T23 l0 x34_2).f7)], .agg #[.int .i64 ((rd_T23 l0 x28_1).f0), .int .i64 ((rd_T23 l0 x28_1).f1), .int .i64 ((rd_T23 l0 x28_1).f2), .int .i64 ((rd_T23 l0 x28_1).f3), .int .i64 ((rd_T23 l0 x28_1).f4), .int .i64 ((rd_T23 l0 x28_1).f5), .bool ((rd_T23 l0 x28_1).f6), .int .i64 ((rd_T23 l0 x28_1).f7)], .agg #[.int .i64 a1_0, .int .i64 a1_1, .int .i64 a1_2]] (by rfl) rfl rfl (by (try simp only [List.map_toArray, List.map_cons, List.map_nil]); first | done | rfl | (simp only [List.length_drop, List.length_take]; rfl)) ?_
               with_reducible refine (thread_form_isAlike.calls ((rd_T23 l0 x34_2).f0) ((rd_T23 l0 x34_2).f1) ((rd_T23 l0 x34_2).f2) ((rd_T23 l0 x34_2).f3) ((rd_T23 l0 x34_2).f4) ((rd_T23 l0 x34_2).f5) ((rd_T23 l0 x34_2).f6) ((rd_T23 l0 x34_2).f7) ((rd_T23 l0 x28_1).f0) ((rd_T23 l0 x28_1).f1) ((rd_T23 l0 x28_1).f2) ((rd_T23 l0 x28_1).f3) ((rd_T23 l0 x28_1).f4) ((rd_T23 l0 x28_1).f5) ((rd_T23 l0 x28_1).f6) ((rd_T23 l0 x28_1).f7) a1_0 a1_1 a1_2 true _ A23.out).mono ?_
               rintro e w27 ⟨rfl, hb⟩
               refine ⟨_, rfl, ?_⟩
               have n0_ := Aside0.mk (Kd.R_below (by (with_reducible repeat (first | apply Kd.R_alloc | apply Kd.R_drewN | apply Kd.R_drew)); exact HO_4.out) hb)
               have n1_ := Aside0.mk (blk_below (g := gb315) (o := .cells #[.int .i64 a1_0, .int .i64 a1_1, .int .i64 a1_2] 55 (0, 0)) (by repeat (first | (with_reducible first | exact BK315.out | refine blk_drewN ?_ _ | refine blk_drew ?_ | refine blk_alloc ?_ _) | exact BK315.out)) hb)
               have n2_ := Aside0.mk (blk_below (g := gb322) (o := .cells #[.int .i64 ((rd_T23 l0 x28_1).f0), .int .i64 ((rd_T23 l0 x28_1).f1), .int .i64 ((rd_T23 l0 x28_1).f2), .int .i64 ((rd_T23 l0 x28_1).f3), .int .i64 ((rd_T23 l0 x28_1).f4), .int .i64 ((rd_T23 l0 x28_1).f5), .bool ((rd_T23 l0 x28_1).f6), .int .i64 ((rd_T23 l0 x28_1).f7)] 23 (0, 0)) (by repeat (first | (with_reducible first | exact BK322.out | refine blk_drewN ?_ _ | refine blk_drew ?_ | refine blk_alloc ?_ _) | exact BK322.out)) hb)
               have n3_ := Aside0.mk (below_step (by repeat (first | (with_reducible first | exact HB.out | apply below_alloc | apply pw_below_drewN | apply below_drew1 | refine below_set ?_ (Aside0.out (by assumption))) | exact HB.out)) hb)
               clear HO_4
               clear BK315
               clear BK322
               clear HB
               have HO_4 := n0_
               have BK315 := n1_
               have BK322 := n2_
               have HB := n3_
               clear n0_ n1_ n2_ n3_
               (try clear hb)
               (try clear hb2)
               (try clear hk)
               (try clear hi)
               refine hK.out _ _ ⟨(blk_cell BK322.out 0).trans rfl, (blk_cell BK322.out 1).trans rfl, (blk_cell BK322.out 2).trans rfl, (blk_cell BK322.out 3).trans rfl, (blk_cell BK322.out 4).trans rfl, (blk_cell BK322.out 5).trans rfl, (blk_cell BK322.out 6).trans rfl, (blk_cell BK322.out 7).trans rfl, (blk_cell BK315.out 0).trans rfl, (blk_cell BK315.out 1).trans rfl, (blk_cell BK315.out 2).trans rfl, ((HB.out.cell (World.block_lt_of_cell? w _ hw323_0)).trans hw323_0), ((HB.out.cell (World.block_lt_of_cell? w _ hw323_1)).trans hw323_1), ((HB.out.cell (World.block_lt_of_cell? w _ hw323_2)).trans hw323_2), ((HB.out.cell (World.block_lt_of_cell? w _ hw323_3)).trans hw323_3), ((HB.out.cell (World.block_lt_of_cell? w _ hw323_4)).trans hw323_4), ((HB.out.cell (World.block_lt_of_cell? w _ hw323_5)).trans hw323_5), ((HB.out.cell (World.block_lt_of_cell? w _ hw323_6)).trans hw323_6), ((HB.out.cell (World.block_lt_of_cell? w _ hw323_7)).trans hw323_7)⟩ (fun hHeld => ?_)
               clear hK K
               refine norm_ (a' := ?_) ?_ ?_
               rotate_left
               ·show Act.put _ (some 44) _ = _
                simp only [Act.put, List.setIfInBounds_toArray, List.set_cons_zero, List.set_cons_succ, i64_w, i32_w]
                rfl
               refine done_ (done_of HT_.out (by kernel_rfl)) ?_
               try go_wp2_with (first | ((with_reducible refine gate_builtin (b := .append) (xs := #[.tmp 45, .tmp 49]) rfl ?_); at_builtin; refine Kd.R_append k67 (w0 := w) w.heap.size rfl (.tmp 45) (.tmp 49) 59 67 (.agg #[(.int .i64 0), (.int .i64 0)]) 16 rfl Try.underlying59 info67 rfl (by decide) (by omega) u4 x4_2 (⟨x34_2, x28_1⟩ : S67) [.int .i64 x34_2, .int .i64 x28_1] (fun _ => True) (fun _ => False) rfl rfl ?aP (fun _ hk => hk.elim) ?aF ?aO ?aB ?aS ?aL ?_; (case aP => exact k67_mkM _ _ _ (⟨x34_2, x28_1⟩ : S67)); (case aB => exact (by repeat (first | (with_reducible first | exact HB.out | apply below_alloc | apply pw_below_drewN | apply below_drew1 | refine below_set ?_ (Aside0.out (by assumption))) | exact HB.out))); (case aF => exact (fun _ _ => trivial)); (case aO => exact (by (with_reducible repeat (first | apply Kd.R_alloc | apply Kd.R_drewN | apply Kd.R_drew)); exact HO_4.out)); (case aS => exact (below_size (by repeat (first | (with_reducible first | exact HB.out | apply below_alloc | apply pw_below_drewN | apply below_drew1 | refine below_set ?_ (Aside0.out (by assumption))) | exact HB.out)))); (case aL => have := LMc25.out; omega); intro v326 w28 ho hb hg hat; rw [← Ny325.out] at ho; replace BK315 := Aside0.mk (blk_grown (g := gb315) (o := .cells #[.int .i64 a1_0, .int .i64 a1_1, .int .i64 a1_2] 55 (0, 0)) (by repeat (first | (with_reducible first | exact BK315.out | refine blk_drewN ?_ _ | refine blk_drew ?_ | refine blk_alloc ?_ _) | exact BK315.out)) hg (Kd.R_ne HO_4.out BK315.out (by decide))); replace BK322 := Aside0.mk (blk_grown (g := gb322) (o := .cells #[.int .i64 ((rd_T23 l0 x28_1).f0), .int .i64 ((rd_T23 l0 x28_1).f1), .int .i64 ((rd_T23 l0 x28_1).f2), .int .i64 ((rd_T23 l0 x28_1).f3), .int .i64 ((rd_T23 l0 x28_1).f4), .int .i64 ((rd_T23 l0 x28_1).f5), .bool ((rd_T23 l0 x28_1).f6), .int .i64 ((rd_T23 l0 x28_1).f7)] 23 (0, 0)) (by repeat (first | (with_reducible first | exact BK322.out | refine blk_drewN ?_ _ | refine blk_drew ?_ | refine blk_alloc ?_ _) | exact BK322.out)) hg (Kd.R_ne HO_4.out BK322.out (by decide))); replace HB := Aside0.mk (hb); have HO327 := Aside0.mk (ho); clear HO_4; clear ho hb hg hat))
               go_roundg k2
               case measure => have := HK1.out; have := HK2.out; omega
               case rel => exact ⟨(y325), (wrap64 (x34_2 + 1)), (by first | rfl | (simp; done) | (simp [*]; done)), H', ⟨by have := HK1.out; have := HK2.out; omega⟩, ⟨by (with_reducible repeat (first | apply Kd.R_alloc | apply Kd.R_drewN | apply Kd.R_drew)); exact HO327.out⟩, BK315, BK322, ⟨by repeat (first | (with_reducible first | exact HB.out | apply below_alloc | apply pw_below_drewN | apply below_drew1 | refine below_set ?_ (Aside0.out (by assumption))) | exact HB.out)⟩⟩
              ·rw [if_neg c25] at H
               exact absurd H (by simp)
             ·replace c24 := Bool.eq_false_iff.mpr c24
              subst c24
              have H1 : (thread_Alike.l1 k2 l0 x4_2 x28_1 l0 (l0.length : Int) x28_1 x28_1 (wrap64 (x34_2 + 1)) a1_0 a1_1 a1_2 ((rd_T23 l0 x28_1).f0) ((rd_T23 l0 x28_1).f1) ((rd_T23 l0 x28_1).f2) ((rd_T23 l0 x28_1).f3) ((rd_T23 l0 x28_1).f4) ((rd_T23 l0 x28_1).f5) ((rd_T23 l0 x28_1).f6) ((rd_T23 l0 x28_1).f7)) = some (r1, r2) := by rw [if_neg (show ¬ (false = true) by decide)] at H; exact H
              clear H
              have H := H1
              clear H1
              have H' := Aside0.mk H
              clear H
              try go_wp2
              have n0_ := Aside0.mk (Kd.R_drew HO_4.out)
              have n1_ := Aside0.mk (blk_drew BK315.out)
              have n2_ := Aside0.mk (blk_drew BK322.out)
              have n3_ := Aside0.mk (below_drew1 HB.out)
              clear HO_4
              clear BK315
              clear BK322
              clear HB
              have HO_4 := n0_
              have BK315 := n1_
              have BK322 := n2_
              have HB := n3_
              clear n0_ n1_ n2_ n3_
              have p323 : 0 ≤ (x34_2 : Int) := of_decide_eq_true (by first | (with_reducible assumption) | assumption)
              have q323 : x34_2 < (l0.length : Int) := of_decide_eq_true (by first | (with_reducible assumption) | assumption)
              obtain ⟨ad323, e323, hx323_0, hx323_1, hx323_2, hx323_3, hx323_4, hx323_5, hx323_6, hx323_7⟩ := at_T23 HR0.out x34_2 p323 q323
              have hw323_7 := hx323_7
              have hw323_6 := hx323_6
              have hw323_5 := hx323_5
              have hw323_4 := hx323_4
              have hw323_3 := hx323_3
              have hw323_2 := hx323_2
              have hw323_1 := hx323_1
              have hw323_0 := hx323_0
              obtain rfl : ad321 = ad323 := (by injection e323)
              replace hx323_0 := (HB.out.cell (World.block_lt_of_cell? w _ hx323_0)).trans hx323_0
              replace hx323_1 := (HB.out.cell (World.block_lt_of_cell? w _ hx323_1)).trans hx323_1
              replace hx323_2 := (HB.out.cell (World.block_lt_of_cell? w _ hx323_2)).trans hx323_2
              replace hx323_3 := (HB.out.cell (World.block_lt_of_cell? w _ hx323_3)).trans hx323_3
              replace hx323_4 := (HB.out.cell (World.block_lt_of_cell? w _ hx323_4)).trans hx323_4
              replace hx323_5 := (HB.out.cell (World.block_lt_of_cell? w _ hx323_5)).trans hx323_5
              replace hx323_6 := (HB.out.cell (World.block_lt_of_cell? w _ hx323_6)).trans hx323_6
              replace hx323_7 := (HB.out.cell (World.block_lt_of_cell? w _ hx323_7)).trans hx323_7
              replace p323 := eq_true p323
              replace q323 := eq_true q323
              refine start_ (n := 8) (S := fun w' => w'.cell? ⟨gb322, 0, none⟩ = some (.int .i64 ((rd_T23 l0 x28_1).f0)) ∧ w'.cell? ⟨gb322, 1, none⟩ = some (.int .i64 ((rd_T23 l0 x28_1).f1)) ∧ w'.cell? ⟨gb322, 2, none⟩ = some (.int .i64 ((rd_T23 l0 x28_1).f2)) ∧ w'.cell? ⟨gb322, 3, none⟩ = some (.int .i64 ((rd_T23 l0 x28_1).f3)) ∧ w'.cell? ⟨gb322, 4, none⟩ = some (.int .i64 ((rd_T23 l0 x28_1).f4)) ∧ w'.cell? ⟨gb322, 5, none⟩ = some (.int .i64 ((rd_T23 l0 x28_1).f5)) ∧ w'.cell? ⟨gb322, 6, none⟩ = some (.bool ((rd_T23 l0 x28_1).f6)) ∧ w'.cell? ⟨gb322, 7, none⟩ = some (.int .i64 ((rd_T23 l0 x28_1).f7)) ∧ w'.cell? ⟨gb315, 0, none⟩ = some (.int .i64 a1_0) ∧ w'.cell? ⟨gb315, 1, none⟩ = some (.int .i64 a1_1) ∧ w'.cell? ⟨gb315, 2, none⟩ = some (.int .i64 a1_2) ∧ w'.cell? (ad321.add ((x34_2).toNat * 8)) = some (.int .i64 ((rd_T23 l0 x34_2).f0)) ∧ w'.cell? ⟨(ad321.add ((x34_2).toNat * 8)).block, (ad321.add ((x34_2).toNat * 8)).off + 1, none⟩ = some (.int .i64 ((rd_T23 l0 x34_2).f1)) ∧ w'.cell? ⟨(ad321.add ((x34_2).toNat * 8)).block, (ad321.add ((x34_2).toNat * 8)).off + 2, none⟩ = some (.int .i64 ((rd_T23 l0 x34_2).f2)) ∧ w'.cell? ⟨(ad321.add ((x34_2).toNat * 8)).block, (ad321.add ((x34_2).toNat * 8)).off + 3, none⟩ = some (.int .i64 ((rd_T23 l0 x34_2).f3)) ∧ w'.cell? ⟨(ad321.add ((x34_2).toNat * 8)).block, (ad321.add ((x34_2).toNat * 8)).off + 4, none⟩ = some (.int .i64 ((rd_T23 l0 x34_2).f4)) ∧ w'.cell? ⟨(ad321.add ((x34_2).toNat * 8)).block, (ad321.add ((x34_2).toNat * 8)).off + 5, none⟩ = some (.int .i64 ((rd_T23 l0 x34_2).f5)) ∧ w'.cell? ⟨(ad321.add ((x34_2).toNat * 8)).block, (ad321.add ((x34_2).toNat * 8)).off + 6, none⟩ = some (.bool ((rd_T23 l0 x34_2).f6)) ∧ w'.cell? ⟨(ad321.add ((x34_2).toNat * 8)).block, (ad321.add ((x34_2).toNat * 8)).off + 7, none⟩ = some (.int .i64 ((rd_T23 l0 x34_2).f7))) (ds := []) #[false, false, false, false, false, false, false, false] (by kernel_rfl) rfl rfl ⟨(blk_cell BK322.out 0).trans rfl, (blk_cell BK322.out 1).trans rfl, (blk_cell BK322.out 2).trans rfl, (blk_cell BK322.out 3).trans rfl, (blk_cell BK322.out 4).trans rfl, (blk_cell BK322.out 5).trans rfl, (blk_cell BK322.out 6).trans rfl, (blk_cell BK322.out 7).trans rfl, (blk_cell BK315.out 0).trans rfl, (blk_cell BK315.out 1).trans rfl, (blk_cell BK315.out 2).trans rfl, ((HB.out.cell (World.block_lt_of_cell? w _ hw323_0)).trans hw323_0), ((HB.out.cell (World.block_lt_of_cell? w _ hw323_1)).trans hw323_1), ((HB.out.cell (World.block_lt_of_cell? w _ hw323_2)).trans hw323_2), ((HB.out.cell (World.block_lt_of_cell? w _ hw323_3)).trans hw323_3), ((HB.out.cell (World.block_lt_of_cell? w _ hw323_4)).trans hw323_4), ((HB.out.cell (World.block_lt_of_cell? w _ hw323_5)).trans hw323_5), ((HB.out.cell (World.block_lt_of_cell? w _ hw323_6)).trans hw323_6), ((HB.out.cell (World.block_lt_of_cell? w _ hw323_7)).trans hw323_7)⟩ (fun hHeld => ?_); refine with_tabW thread_Alike.tab12 thread_Alike.bits12 (fun HT_ HW_ => ?_)
              generalize wr.drew = w29 at HO_4 BK315 BK322 HB hx323_0 hx323_1 hx323_2 hx323_3 hx323_4 hx323_5 hx323_6 hx323_7 hHeld ⊢
              refine pure_ (i := 0) (N := some 37) (v := ?_) (a' := ?_) #[true, false, false, false, false, false, false, false] rfl rfl (any_of HT_.out (by kernel_rfl)) (fun _ _ _ h => h) (Or.inl ⟨by rfl, ?_⟩) ?_ ?_
              rotate_left
              ·intro w'
               go_simp
               with_reducible rfl
              rotate_left
              ·simp only [Act.put, List.setIfInBounds_toArray, List.set_cons_zero, List.set_cons_succ, i64_w, i32_w]
               rfl
              refine pure_ (i := 1) (N := some 38) (v := ?_) (a' := ?_) #[true, true, false, false, false, false, false, false] rfl rfl (any_of HT_.out (by kernel_rfl)) (fun _ _ _ h => h) (Or.inl ⟨by rfl, ?_⟩) ?_ ?_
              rotate_left
              ·intro w'
               go_simp
               with_reducible rfl
              rotate_left
              ·simp only [Act.put, List.setIfInBounds_toArray, List.set_cons_zero, List.set_cons_succ, i64_w, i32_w]
               rfl
              refine pure_ (i := 2) (N := some 39) (v := ?_) (a' := ?_) #[true, true, true, false, false, false, false, false] rfl rfl (any_of HT_.out (by kernel_rfl)) (fun _ _ _ h => h) (Or.inl ⟨by rfl, ?_⟩) ?_ ?_
              rotate_left
              ·intro w'
               go_simp
               with_reducible rfl
              rotate_left
              ·simp only [Act.put, List.setIfInBounds_toArray, List.set_cons_zero, List.set_cons_succ, i64_w, i32_w]
               rfl
              refine take_ (i := 3) (N := some 40) (v := ?_) (a' := ?_) #[true, true, true, true, false, false, false, false] rfl rfl (take_ofW HT_.out HW_.out (by kernel_rfl)) (fun _ _ _ h => h) (Or.inl ⟨by rfl, ?_⟩) hHeld ?_ ?_
              rotate_left
              ·rintro w' ⟨s0, s1, s2, s3, s4, s5, s6, s7, s8, s9, s10, s11, s12, s13, s14, s15, s16, s17, s18⟩
               go_simp
               with_reducible rfl
              rotate_left
              ·simp only [Act.put, List.setIfInBounds_toArray, List.set_cons_zero, List.set_cons_succ, i64_w, i32_w]
               rfl
              refine pure_ (i := 4) (N := some 41) (v := ?_) (a' := ?_) #[true, true, true, true, true, false, false, false] rfl rfl (any_of HT_.out (by kernel_rfl)) (fun _ _ _ h => h) (Or.inl ⟨by rfl, ?_⟩) ?_ ?_
              rotate_left
              ·intro w'
               go_simp
               with_reducible rfl
              rotate_left
              ·simp only [Act.put, List.setIfInBounds_toArray, List.set_cons_zero, List.set_cons_succ, i64_w, i32_w]
               rfl
              refine take_ (i := 5) (N := some 42) (v := ?_) (a' := ?_) #[true, true, true, true, true, true, false, false] rfl rfl (take_ofW HT_.out HW_.out (by kernel_rfl)) (fun _ _ _ h => h) (Or.inl ⟨by rfl, ?_⟩) hHeld ?_ ?_
              rotate_left
              ·rintro w' ⟨s0, s1, s2, s3, s4, s5, s6, s7, s8, s9, s10, s11, s12, s13, s14, s15, s16, s17, s18⟩
               go_simp
               with_reducible rfl
              rotate_left
              ·simp only [Act.put, List.setIfInBounds_toArray, List.set_cons_zero, List.set_cons_succ, i64_w, i32_w]
               rfl
              refine take_ (i := 6) (N := some 43) (v := ?_) (a' := ?_) #[true, true, true, true, true, true, true, false] rfl rfl (take_ofW HT_.out HW_.out (by kernel_rfl)) (fun _ _ _ h => h) (Or.inl ⟨by rfl, ?_⟩) hHeld ?_ ?_
              rotate_left
              ·rintro w' ⟨s0, s1, s2, s3, s4, s5, s6, s7, s8, s9, s10, s11, s12, s13, s14, s15, s16, s17, s18⟩
               go_simp
               with_reducible rfl
              rotate_left
              ·simp only [Act.put, List.setIfInBounds_toArray, List.set_cons_zero, List.set_cons_succ, i64_w, i32_w]
               rfl
              refine one_ (i := 7) (N := some 44) #[true, true, true, true, true, true, true, true] rfl rfl (one_of HT_.out (by kernel_rfl)) (by decide) (fun K hK => ?_)
              refine goes_ Try.func59 (by kernel_rfl) rfl #[.agg #[.int .i64 ((rd_T23 l0 x34_2).f0), .int .i64 ((rd_T23 l0 x34_2).f1), .int .i64 ((rd_T23 l0 x34_2).f2), .int .i64 ((rd_T23 l0 x34_2).f3), .int .i64 ((rd_T23 l0 x34_2).f4), .int .i64 ((rd_T23 l0 x34_2).f5), .bool ((rd_T23 l0 x34_2).f6), .int .i64 ((rd_T23 l0 x34_2).f7)], .agg #[.int .i64 ((rd_T23 l0 x28_1).f0), .int .i64 ((rd_T23 l0 x28_1).f1), .int .i64 ((rd_T23 l0 x28_1).f2), .int .i64 ((rd_T23 l0 x28_1).f3), .int .i64 ((rd_T23 l0 x28_1).f4), .int .i64 ((rd_T23 l0 x28_1).f5), .bool ((rd_T23 l0 x28_1).f6), .int .i64 ((rd_T23 l0 x28_1).f7)], .agg #[.int .i64 a1_0, .int .i64 a1_1, .int .i64 a1_2]] (by rfl) rfl rfl (by (try simp only [List.map_toArray, List.map_cons, List.map_nil]); first | done | rfl | (simp only [List.length_drop, List.length_take]; rfl)) ?_
              with_reducible refine (thread_form_isAlike.calls ((rd_T23 l0 x34_2).f0) ((rd_T23 l0 x34_2).f1) ((rd_T23 l0 x34_2).f2) ((rd_T23 l0 x34_2).f3) ((rd_T23 l0 x34_2).f4) ((rd_T23 l0 x34_2).f5) ((rd_T23 l0 x34_2).f6) ((rd_T23 l0 x34_2).f7) ((rd_T23 l0 x28_1).f0) ((rd_T23 l0 x28_1).f1) ((rd_T23 l0 x28_1).f2) ((rd_T23 l0 x28_1).f3) ((rd_T23 l0 x28_1).f4) ((rd_T23 l0 x28_1).f5) ((rd_T23 l0 x28_1).f6) ((rd_T23 l0 x28_1).f7) a1_0 a1_1 a1_2 false _ A23.out).mono ?_
              rintro e w30 ⟨rfl, hb⟩
              refine ⟨_, rfl, ?_⟩
              have n0_ := Aside0.mk (Kd.R_below (by (with_reducible repeat (first | apply Kd.R_alloc | apply Kd.R_drewN | apply Kd.R_drew)); exact HO_4.out) hb)
              have n1_ := Aside0.mk (blk_below (g := gb315) (o := .cells #[.int .i64 a1_0, .int .i64 a1_1, .int .i64 a1_2] 55 (0, 0)) (by repeat (first | (with_reducible first | exact BK315.out | refine blk_drewN ?_ _ | refine blk_drew ?_ | refine blk_alloc ?_ _) | exact BK315.out)) hb)
              have n2_ := Aside0.mk (blk_below (g := gb322) (o := .cells #[.int .i64 ((rd_T23 l0 x28_1).f0), .int .i64 ((rd_T23 l0 x28_1).f1), .int .i64 ((rd_T23 l0 x28_1).f2), .int .i64 ((rd_T23 l0 x28_1).f3), .int .i64 ((rd_T23 l0 x28_1).f4), .int .i64 ((rd_T23 l0 x28_1).f5), .bool ((rd_T23 l0 x28_1).f6), .int .i64 ((rd_T23 l0 x28_1).f7)] 23 (0, 0)) (by repeat (first | (with_reducible first | exact BK322.out | refine blk_drewN ?_ _ | refine blk_drew ?_ | refine blk_alloc ?_ _) | exact BK322.out)) hb)
              have n3_ := Aside0.mk (below_step (by repeat (first | (with_reducible first | exact HB.out | apply below_alloc | apply pw_below_drewN | apply below_drew1 | refine below_set ?_ (Aside0.out (by assumption))) | exact HB.out)) hb)
              clear HO_4
              clear BK315
              clear BK322
              clear HB
              have HO_4 := n0_
              have BK315 := n1_
              have BK322 := n2_
              have HB := n3_
              clear n0_ n1_ n2_ n3_
              (try clear hb)
              (try clear hb2)
              (try clear hk)
              (try clear hi)
              refine hK.out _ _ ⟨(blk_cell BK322.out 0).trans rfl, (blk_cell BK322.out 1).trans rfl, (blk_cell BK322.out 2).trans rfl, (blk_cell BK322.out 3).trans rfl, (blk_cell BK322.out 4).trans rfl, (blk_cell BK322.out 5).trans rfl, (blk_cell BK322.out 6).trans rfl, (blk_cell BK322.out 7).trans rfl, (blk_cell BK315.out 0).trans rfl, (blk_cell BK315.out 1).trans rfl, (blk_cell BK315.out 2).trans rfl, ((HB.out.cell (World.block_lt_of_cell? w _ hw323_0)).trans hw323_0), ((HB.out.cell (World.block_lt_of_cell? w _ hw323_1)).trans hw323_1), ((HB.out.cell (World.block_lt_of_cell? w _ hw323_2)).trans hw323_2), ((HB.out.cell (World.block_lt_of_cell? w _ hw323_3)).trans hw323_3), ((HB.out.cell (World.block_lt_of_cell? w _ hw323_4)).trans hw323_4), ((HB.out.cell (World.block_lt_of_cell? w _ hw323_5)).trans hw323_5), ((HB.out.cell (World.block_lt_of_cell? w _ hw323_6)).trans hw323_6), ((HB.out.cell (World.block_lt_of_cell? w _ hw323_7)).trans hw323_7)⟩ (fun hHeld => ?_)
              clear hK K
              refine norm_ (a' := ?_) ?_ ?_
              rotate_left
              ·show Act.put _ (some 44) _ = _
               simp only [Act.put, List.setIfInBounds_toArray, List.set_cons_zero, List.set_cons_succ, i64_w, i32_w]
               rfl
              refine done_ (done_of HT_.out (by kernel_rfl)) ?_
              try go_wp2
              go_roundg k2
              case measure => have := HK1.out; have := HK2.out; omega
              case rel => exact ⟨(x4_2), (wrap64 (x34_2 + 1)), (by first | rfl | (simp; done) | (simp [*]; done)), H', ⟨by have := HK1.out; have := HK2.out; omega⟩, ⟨by (with_reducible repeat (first | apply Kd.R_alloc | apply Kd.R_drewN | apply Kd.R_drew)); exact HO_4.out⟩, BK315, BK322, ⟨by repeat (first | (with_reducible first | exact HB.out | apply below_alloc | apply pw_below_drewN | apply below_drew1 | refine below_set ?_ (Aside0.out (by assumption))) | exact HB.out)⟩⟩
            ·rw [if_neg c22] at H
             exact absurd H (by simp)
           ·rw [if_neg c21] at H
            exact absurd H (by simp)
          ·rw [if_neg c20] at H
           have c20b0 : decide (x34_2 < x28_1) = false := decide_eq_false c20
           clear c20
           have H' := Aside0.mk H
           clear H
           go_wp2
           go_roundg k2
           case measure => have := HK1.out; have := HK2.out; omega
           case rel => exact ⟨(x4_2), (wrap64 (x28_1 + 1)), (by first | rfl | (simp; done) | (simp [*]; done)), H', ⟨by have := HK1.out; have := HK2.out; omega⟩, ⟨by (with_reducible repeat (first | apply Kd.R_alloc | apply Kd.R_drewN | apply Kd.R_drew)); exact HO_4.out⟩, BK315, ⟨by repeat (first | (with_reducible first | exact HB.out | apply below_alloc | apply pw_below_drewN | apply below_drew1 | refine below_set ?_ (Aside0.out (by assumption))) | exact HB.out)⟩⟩
       ·rw [if_neg c16] at H
        exact absurd H (by simp)
      ·rw [if_neg c15] at H
       exact absurd H (by simp)
     ·rw [if_neg c14] at H
      have c14b0 : decide (x28_1 < (l0.length : Int)) = false := decide_eq_false c14
      clear c14
      replace H := Option.bind_eq_some_iff.mp H
      obtain ⟨y_, A90, H⟩ := H
      have A9 := Aside0.mk A90
      clear A90
      simp only [Option.some.injEq, Prod.mk.injEq] at H
      obtain ⟨rfl, rfl⟩ := H
      go_wp2_with (go_at_call 60; refine (sort67.calls x4_1 y_ _ (by (with_reducible repeat (first | apply Kd.R_alloc | apply Kd.R_drewN | apply Kd.R_drew)); exact HO_4.out) A9.out).mono ?_; rintro e w99 ⟨rfl, hr9, hb9⟩; have HO9 := Aside0.mk hr9; have HB9 := Aside0.mk (Below.trans (by repeat (first | (with_reducible first | exact HB.out | apply below_alloc | apply pw_below_drewN | apply below_drew1 | refine below_set ?_ (Aside0.out (by assumption))) | exact HB.out)) hb9); clear hr9 hb9)
      go_ret2
      exact ⟨_, by first | rfl | (simp [errW_none, errW_some] <;> rfl) | (simp [*, errW_none, errW_some] <;> rfl), by (with_reducible repeat (first | apply Kd.R_alloc | apply Kd.R_drewN | apply Kd.R_drew)); exact HO9.out, by repeat (first | (with_reducible first | exact HB9.out | apply below_alloc | apply pw_below_drewN | apply below_drew1 | refine below_set ?_ (Aside0.out (by assumption))) | exact HB9.out)⟩
  ·replace c6 := Bool.eq_false_iff.mpr c6
   subst c6
   have H1 : (some (([] : List (S67)), 3)) = some (r1, r2) := by rw [if_neg (show ¬ (false = true) by decide)] at H; exact H
   clear H
   have H := H1
   clear H1
   simp only [Option.some.injEq, Prod.mk.injEq] at H
   obtain ⟨rfl, rfl⟩ := H
   go_enter Try.func31, Try.ntmps31
   go_wp2_with (first | ((with_reducible refine gate_dst (N := 3) rfl ?_); refine box_event ?hg (N := 3) ?hd (cs := #[.int .i64 a1_0, .int .i64 a1_1, .int .i64 a1_2]) (t := 55) ?hr ?_; (case hd => rfl); (case hg => rfl); (case hr => first | (go_simp; done) | (go_simp; rfl)); intro gb315 hg w31 hbox hb; have BK315 := Aside0.mk (hbox); have GW315 := Aside0.mk ((by rw [hg]; exact (below_size HB.out) : w.heap.size ≤ gb315)); have GE315 := GW315; replace HB := Aside0.mk (below_step HB.out hb); clear hb hbox hg) | ((with_reducible refine gate_callee (f := 56) rfl ?_); refine goesL_ (some 11) rfl rfl Try.func56 (by kernel_rfl) rfl #[.slice A0 l0.length c0] rfl (by (try simp only [List.map_toArray, List.map_cons, List.map_nil]); first | done | rfl | (simp only [List.length_drop, List.length_take]; rfl)) ?_; (with_reducible refine (thread_checkTable.calls k _ _ l0 t316 _ ?side1 ?side2 A3.out).mono ?_); (case side1 => repeat (first | exact (Kd.C_below HR0.out HB.out) | (with_reducible refine Kd.C_alloc ?_ _) | (with_reducible refine Kd.C_drewN ?_ _) | (with_reducible refine Kd.C_drew ?_))); (case side2 => exact HC0.out); rintro e w32 ⟨rfl, hb⟩; refine ⟨_, rfl, ?_⟩; replace BK315 := Aside0.mk (blk_below (g := gb315) (o := .cells #[.int .i64 a1_0, .int .i64 a1_1, .int .i64 a1_2] 55 (0, 0)) (by repeat (first | (with_reducible first | exact BK315.out | refine blk_drewN ?_ _ | refine blk_drew ?_ | refine blk_alloc ?_ _) | exact BK315.out)) hb); replace HB := Aside0.mk (below_step (by repeat (first | (with_reducible first | exact HB.out | apply below_alloc | apply pw_below_drewN | apply below_drew1 | refine below_set ?_ (Aside0.out (by assumption))) | exact HB.out)) hb); (try clear hb); (try clear hb2); (try clear hk); (try clear hi); obtain ⟨hcz33_0, hcz33_1, hcz33_2⟩ := bc3 BK315.out; obtain ⟨hfz33_0, hfz33_1, hfz33_2⟩ := bf3 BK315.out) | ((with_reducible refine gate_dst (N := 23) rfl ?_); refine Kd.R_lit (Kd.int .i64) _ 3 ?hg (N := 23) ?hd (xs := ([a1_0, a1_1, a1_2] : List Int)) (inner := [.int .i64 a1_0, .int .i64 a1_1, .int .i64 a1_2]) (ok := fun _ => True) (okp := fun _ => True) ?hr ?hp (fun _ hk => hk) trivial (Below.refl _ _) (Nat.le_refl _) (by simp) ?_; (case hd => rfl); (case hg => rfl); (case hr => first | (go_simp; done) | (go_simp; rfl)); (case hp => exact (Reps.one (show Kd.M (Kd.int .i64) _ _ _ a1_0 [.int .i64 a1_0] from rfl) (Reps.one (show Kd.M (Kd.int .i64) _ _ _ a1_1 [.int .i64 a1_1] from rfl) (Reps.one (show Kd.M (Kd.int .i64) _ _ _ a1_2 [.int .i64 a1_2] from rfl) (Reps.none _ _))))); intro v318 w34 ho35 hb hg_ hnew_; clear hg_ hnew_; (first | rw [← Ny317.out] at ho35 | (simp only [Int.reduceToNat] at ho35; rw [← Ny317.out] at ho35)); have HO319 := Aside0.mk (Kd.R_lower ho35 (below_size (by repeat (first | (with_reducible first | exact HB.out | apply below_alloc | apply pw_below_drewN | apply below_drew1 | refine below_set ?_ (Aside0.out (by assumption))) | exact HB.out)))); replace BK315 := Aside0.mk (blk_below (g := gb315) (o := .cells #[.int .i64 a1_0, .int .i64 a1_1, .int .i64 a1_2] 55 (0, 0)) (by repeat (first | (with_reducible first | exact BK315.out | refine blk_drewN ?_ _ | refine blk_drew ?_ | refine blk_alloc ?_ _) | exact BK315.out)) hb); replace HB := Aside0.mk (below_step (by repeat (first | (with_reducible first | exact HB.out | apply below_alloc | apply pw_below_drewN | apply below_drew1 | refine below_set ?_ (Aside0.out (by assumption))) | exact HB.out)) hb); clear hb ho35; obtain ⟨Ao36, co36, eo36⟩ := Kd.R_slice HO319.out; subst eo36) | ((with_reducible refine gate_callee (f := 43) rfl ?_); refine goesL_ (some 24) rfl rfl Try.func43 (by kernel_rfl) rfl #[.int .i64 0, .int .i64 10000000, .slice Ao36 y317.length co36] rfl (by (try simp only [List.map_toArray, List.map_cons, List.map_nil]); first | done | rfl | (simp only [List.length_drop, List.length_take]; rfl)) ?_; (with_reducible refine (thread_within.calls 0 10000000 _ _ y317 false _ ?side1 ?side2 A5.out).mono ?_); (case side1 => repeat (first | exact (Kd.R_reads' HO319.out).2.2 | (with_reducible refine Kd.C_alloc ?_ _) | (with_reducible refine Kd.C_drewN ?_ _) | (with_reducible refine Kd.C_drew ?_))); (case side2 => exact (Kd.R_reads' HO319.out).2.1); rintro e w37 ⟨rfl, hb⟩; refine ⟨_, rfl, ?_⟩; replace HO319 := Aside0.mk (Kd.R_below (by (with_reducible repeat (first | apply Kd.R_alloc | apply Kd.R_drewN | apply Kd.R_drew)); exact HO319.out) hb); replace BK315 := Aside0.mk (blk_below (g := gb315) (o := .cells #[.int .i64 a1_0, .int .i64 a1_1, .int .i64 a1_2] 55 (0, 0)) (by repeat (first | (with_reducible first | exact BK315.out | refine blk_drewN ?_ _ | refine blk_drew ?_ | refine blk_alloc ?_ _) | exact BK315.out)) hb); replace HB := Aside0.mk (below_step (by repeat (first | (with_reducible first | exact HB.out | apply below_alloc | apply pw_below_drewN | apply below_drew1 | refine below_set ?_ (Aside0.out (by assumption))) | exact HB.out)) hb); (try clear hb); (try clear hb2); (try clear hk); (try clear hi)))
   go_ret2
   exact ⟨_, by first | rfl | (simp [errW_none, errW_some] <;> rfl) | (simp [*, errW_none, errW_some] <;> rfl), by first | exact Kd.R_nil _ _ _ _ _ | exact Kd.N_nil _ _ _ _ _ | exact Kd.V_nil _ _ _ _ _ | exact Kd.Q_nil _ _ _ _ _ | exact Kd.S_nil _ _ _ _ _, by repeat (first | (with_reducible first | exact HB.out | apply below_alloc | apply pw_below_drewN | apply below_drew1 | refine below_set ?_ (Aside0.out (by assumption))) | exact HB.out)⟩
 ·rw [if_neg c4] at H
  have c4b0 : (t316 == 0) = false := beq_eq_false_iff_ne.mpr c4
  have c4b1 : (t316 != 0) = true := bne_iff_ne.mpr c4
  simp only [Option.some.injEq, Prod.mk.injEq] at H
  obtain ⟨rfl, rfl⟩ := H
  go_enter Try.func31, Try.ntmps31
  go_wp2_with (first | ((with_reducible refine gate_dst (N := 3) rfl ?_); refine box_event ?hg (N := 3) ?hd (cs := #[.int .i64 a1_0, .int .i64 a1_1, .int .i64 a1_2]) (t := 55) ?hr ?_; (case hd => rfl); (case hg => rfl); (case hr => first | (go_simp; done) | (go_simp; rfl)); intro gb315 hg w38 hbox hb; have BK315 := Aside0.mk (hbox); have GW315 := Aside0.mk ((by rw [hg]; exact (below_size HB.out) : w.heap.size ≤ gb315)); have GE315 := GW315; replace HB := Aside0.mk (below_step HB.out hb); clear hb hbox hg) | ((with_reducible refine gate_callee (f := 56) rfl ?_); refine goesL_ (some 11) rfl rfl Try.func56 (by kernel_rfl) rfl #[.slice A0 l0.length c0] rfl (by (try simp only [List.map_toArray, List.map_cons, List.map_nil]); first | done | rfl | (simp only [List.length_drop, List.length_take]; rfl)) ?_; (with_reducible refine (thread_checkTable.calls k _ _ l0 t316 _ ?side1 ?side2 A3.out).mono ?_); (case side1 => repeat (first | exact (Kd.C_below HR0.out HB.out) | (with_reducible refine Kd.C_alloc ?_ _) | (with_reducible refine Kd.C_drewN ?_ _) | (with_reducible refine Kd.C_drew ?_))); (case side2 => exact HC0.out); rintro e w39 ⟨rfl, hb⟩; refine ⟨_, rfl, ?_⟩; replace BK315 := Aside0.mk (blk_below (g := gb315) (o := .cells #[.int .i64 a1_0, .int .i64 a1_1, .int .i64 a1_2] 55 (0, 0)) (by repeat (first | (with_reducible first | exact BK315.out | refine blk_drewN ?_ _ | refine blk_drew ?_ | refine blk_alloc ?_ _) | exact BK315.out)) hb); replace HB := Aside0.mk (below_step (by repeat (first | (with_reducible first | exact HB.out | apply below_alloc | apply pw_below_drewN | apply below_drew1 | refine below_set ?_ (Aside0.out (by assumption))) | exact HB.out)) hb); (try clear hb); (try clear hb2); (try clear hk); (try clear hi)))
  go_ret2
  exact ⟨_, by first | rfl | (simp [errW_none, errW_some] <;> rfl) | (simp [*, errW_none, errW_some] <;> rfl), by first | exact Kd.R_nil _ _ _ _ _ | exact Kd.N_nil _ _ _ _ _ | exact Kd.V_nil _ _ _ _ _ | exact Kd.Q_nil _ _ _ _ _ | exact Kd.S_nil _ _ _ _ _, by repeat (first | (with_reducible first | exact HB.out | apply below_alloc | apply pw_below_drewN | apply below_drew1 | refine below_set ?_ (Aside0.out (by assumption))) | exact HB.out)⟩

end Go.Proofs.Yticbhgjenidjlaa.T
