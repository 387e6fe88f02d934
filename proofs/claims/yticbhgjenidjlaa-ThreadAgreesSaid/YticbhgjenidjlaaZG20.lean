-- cut down, squeezed and laid together by pack.py (a program of this repository) out of this seat's texts
import Derived.WalkKit
import Derived.Deep.LoopGhost
import Derived.Deep.QuietTactic
import Derived.BigQuiet
import Derived.BigRegion
import Derived.Shelf.SlSortCmp.InsertionK
import Derived.Shelf.SlSortCmp.NoneTotal
import Derived.Test.YticbhgjenidjlaaZG2
import Derived.Test.YticbhgjenidjlaaZG8
import Derived.Test.YticbhgjenidjlaaZG9
import Derived.Test.YticbhgjenidjlaaZG5
import Derived.Test.YticbhgjenidjlaaZG19
import Derived.Test.YticbhgjenidjlaaZG4
import Derived.Test.YticbhgjenidjlaaZG7
import Derived.Test.YticbhgjenidjlaaZG3
import Derived.Test.YticbhgjenidjlaaZG6
import Derived.Test.YticbhgjenidjlaaZG1
import Derived.Test.YticbhgjenidjlaaZG18
import Derived.Test.YticbhgjenidjlaaZG17
import Derived.Test.YticbhgjenidjlaaZG12
import Derived.Test.YticbhgjenidjlaaZG13
import Derived.Test.YticbhgjenidjlaaZG15
import Derived.Test.YticbhgjenidjlaaZG14
import Derived.Test.YticbhgjenidjlaaZG10
import Derived.Test.YticbhgjenidjlaaZG11
import Derived.Test.YticbhgjenidjlaaZG16
namespace Go.Proofs.Yticbhgjenidjlaa.T
open Go.RowKit Go.Shelf Go.Proofs.YticbhgjenidjlaaW.PrintWords Go.Proofs.YticbhgjenidjlaaW.PrintLast Go.Proofs.YticbhgjenidjlaaW.PrintMore
set_option linter.unusedVariables false
set_option linter.unusedSimpArgs false

def cmpI (a b : Int) : Int := if a < b then -1 else if a > b then 1 else 0
def cmp67 (x y : S67) : Int := if cmpI x.f0 y.f0 = 0 then cmpI x.f1 y.f1 else cmpI x.f0 y.f0
def enc67 (x : S67) : List Value := [.int .i64 x.f0, .int .i64 x.f1]

theorem cmp_Compare_int_eq (a b : Int) : cmp_Compare_int.f a b = some (cmpI a b) := by
 simp [cmp_Compare_int.f, cmp_isNaN_int.f, cmpI]
 split <;> (try split) <;> simp_all
theorem compare2 (x y : S67) : slices_Compare_int_int.f 3 [x.f0, x.f1] [y.f0, y.f1] = some (cmp67 x y) := by
 simp [slices_Compare_int_int.f, slices_Compare_int_int.l0, cmp_Compare_int_eq, rd, cmp67, wrap64]
 by_cases h : cmpI x.f0 y.f0 = 0
 ·simp [h]
  by_cases h2 : cmpI x.f1 y.f1 = 0 <;> simp [h2]
 ·simp [h]

theorem C_two {w : World} {b : Nat} {m n : Int} {t : TypeId} (h : w.heap[b]? = some (.cells #[.int .i64 m, .int .i64 n] t (0, 0))) : Kd.C (Kd.int .i64) w (some ⟨b, 0, none⟩) 2 [m, n] := by
 refine Kd.C_of_reads (d := (0 : Int)) (h1 := fun _ => rfl) ⟨rfl, by omega, fun _ => ⟨_, rfl, fun j hj => ?_⟩⟩
 obtain rfl | rfl : j = 0 ∨ j = 1 := by omega
 ·exact (blk_cell h 0).trans rfl
 ·exact (blk_cell h 1).trans rfl

set_option maxRecDepth 100000 in
set_option maxHeartbeats 1000000 in
theorem Alike_1.calls (x y : S67) (w : World) :
  Calls Try.prog 61 #[.agg (enc67 x).toArray, .agg (enc67 y).toArray] w fun e w' => e = .returned (.int .i64 (cmp67 x y)) ∧ ∃ q os', w' = Sort.grow (w.drewN q) os' := by
 have hu67 := Try.underlying67
 show Calls Try.prog 61 #[.agg #[.int .i64 x.f0, .int .i64 x.f1], .agg #[.int .i64 y.f0, .int .i64 y.f1]] w _
 obtain ⟨W2, hW2⟩ : ∃ W2, W2 = ((w.alloc (.cells #[.int .i64 x.f0, .int .i64 x.f1] 67)).alloc (.cells #[.int .i64 y.f0, .int .i64 y.f1] 67)) := ⟨_, rfl⟩
 have HC := hid (fun q => slices_Compare_int_int.calls 3 (some ⟨w.heap.size, 0, none⟩) 2 [x.f0, x.f1] (some ⟨w.heap.size + 1, 0, none⟩) 2 [y.f0, y.f1] (cmp67 x y) (W2.drewN q) (C_two (by rw [hW2]; exact blk_alloc (blk_new _ _) _)) (by simp) (C_two (by rw [hW2]; simpa using blk_new (w.alloc (.cells #[.int .i64 x.f0, .int .i64 x.f1] 67)) (.cells #[.int .i64 y.f0, .int .i64 y.f1] 67 (0, 0)))) (by simp) (compare2 x y))
 have HW2 := hid hW2
 clear hW2
 go_enter Try.func61, Try.ntmps61
 go_wp2
 rw [← HW2.out]
 go_quiet ((go_at_call 62; exact Calls.quiet_of ((HC.out _).mono (fun _ _ h => ⟨h.1, h.2.out⟩))))
 go_wp2
 go_ret
 refine ⟨rfl, nq, #[.cells #[.int .i64 x.f0, .int .i64 x.f1] 67 (0, 0), .cells #[.int .i64 y.f0, .int .i64 y.f1] 67 (0, 0)], ?_⟩
 rw [HW2.out, Sort.alloc_eq_grow, Sort.alloc_eq_grow, Sort.grow_grow]; rfl
end Go.Proofs.Yticbhgjenidjlaa.T
namespace Go.Proofs.Yticbhgjenidjlaa.T
open Go.RowKit Go.Shelf Go.Sort Go.Proofs.YticbhgjenidjlaaW.PrintWords
set_option linter.unusedVariables false

def sort67_ren : Go.Shelf.Ren := ⟨fun | 6 => 60 | 15 => 76 | 14 => 75 | 28 => 89 | 29 => 90 | 20 => 81 | 21 => 82 | 22 => 83 | 23 => 84 | 24 => 85 | 25 => 86 | 26 => 87 | 27 => 88 | 46 => 92 | 47 => 93 | 48 => 94 | 49 => 95 | 50 => 96 | 57 => 97 | n => n, fun | 22 => 59 | 24 => 67 | 25 => 109 | 3 => 3 | 39 => 127 | 0 => 0 | 53 => 80 | 55 => 142 | 4 => 4 | 46 => 135 | 45 => 134 | 50 => 47 | 5 => 5 | 9 => 9 | 66 => 143 | 70 => 147 | 76 => 149 | 77 => 150 | n => n, fun | n => n⟩
theorem sort67_lays : Go.Proofs.SlLaysF0.n6 Try.prog sort67_ren := {
 mixed := by kernel_rfl,
 f6 := ⟨Try.f60.name, by decide, Try.func60.trans (congrArg some (by kernel_rfl))⟩,
 f14 := ⟨Try.f75.name, by decide, Try.func75.trans (congrArg some (by kernel_rfl))⟩,
 f15 := Try.func76.trans (congrArg some (by kernel_rfl)),
 f20 := ⟨Try.f81.name, by decide, Try.func81.trans (congrArg some (by kernel_rfl))⟩,
 f21 := ⟨Try.f82.name, by decide, Try.func82.trans (congrArg some (by kernel_rfl))⟩,
 f22 := ⟨Try.f83.name, by decide, Try.func83.trans (congrArg some (by kernel_rfl))⟩,
 f23 := ⟨Try.f84.name, by decide, Try.func84.trans (congrArg some (by kernel_rfl))⟩,
 f24 := ⟨Try.f85.name, by decide, Try.func85.trans (congrArg some (by kernel_rfl))⟩,
 f25 := ⟨Try.f86.name, by decide, Try.func86.trans (congrArg some (by kernel_rfl))⟩,
 f26 := ⟨Try.f87.name, by decide, Try.func87.trans (congrArg some (by kernel_rfl))⟩,
 f27 := ⟨Try.f88.name, by decide, Try.func88.trans (congrArg some (by kernel_rfl))⟩,
 f28 := Try.func89.trans (congrArg some (by kernel_rfl)),
 f29 := Try.func90.trans (congrArg some (by kernel_rfl)),
 f46 := ⟨Try.f92.name, by decide, Try.func92.trans (congrArg some (by kernel_rfl))⟩,
 f47 := Try.func93.trans (congrArg some (by kernel_rfl)),
 f48 := Try.func94.trans (congrArg some (by kernel_rfl)),
 f49 := ⟨Try.f95.name, by decide, Try.func95.trans (congrArg some (by kernel_rfl))⟩,
 f50 := ⟨Try.f96.name, by decide, Try.func96.trans (congrArg some (by kernel_rfl))⟩,
 f57 := ⟨Try.f97.name, by decide, Try.func97.trans (congrArg some (by kernel_rfl))⟩,
 t0 := Try.underlying0,
 a0 := Try.isAgg0,
 z0 := Try.sizeOf0,
 v0 := Try.zeroValue0,
 t3 := Try.underlying3,
 a3 := Try.isAgg3,
 z3 := Try.sizeOf3,
 v3 := Try.zeroValue3,
 t4 := Try.underlying4,
 a4 := Try.isAgg4,
 z4 := Try.sizeOf4,
 v4 := Try.zeroValue4,
 t5 := Try.underlying5,
 a5 := Try.isAgg5,
 z5 := Try.sizeOf5,
 v5 := Try.zeroValue5,
 t9 := Try.underlying9,
 a9 := Try.isAgg9,
 z9 := Try.sizeOf9,
 v9 := Try.zeroValue9,
 t22 := Try.underlying59,
 a22 := Try.isAgg59,
 z22 := Try.sizeOf59,
 v22 := Try.zeroValue59,
 t25 := Try.underlying109,
 a25 := Try.isAgg109,
 z25 := Try.sizeOf109,
 v25 := Try.zeroValue109,
 t39 := Try.underlying127,
 a39 := Try.isAgg127,
 z39 := Try.sizeOf127,
 v39 := Try.zeroValue127,
 t45 := Try.underlying134,
 a45 := Try.isAgg134,
 z45 := Try.sizeOf134,
 v45 := Try.zeroValue134,
 t46 := Try.underlying135,
 a46 := Try.isAgg135,
 z46 := Try.sizeOf135,
 v46 := Try.zeroValue135,
 t50 := Try.underlying47,
 a50 := Try.isAgg47,
 z50 := Try.sizeOf47,
 v50 := Try.zeroValue47,
 t53 := Try.underlying80,
 a53 := Try.isAgg80,
 z53 := Try.sizeOf80,
 v53 := Try.zeroValue80,
 t55 := Try.underlying142,
 a55 := Try.isAgg142,
 z55 := Try.sizeOf142,
 v55 := Try.zeroValue142,
 t66 := Try.underlying143,
 a66 := Try.isAgg143,
 z66 := Try.sizeOf143,
 v66 := Try.zeroValue143,
 t70 := Try.underlying147,
 a70 := Try.isAgg147,
 z70 := Try.sizeOf147,
 v70 := Try.zeroValue147,
 t76 := Try.underlying149,
 a76 := Try.isAgg149,
 z76 := Try.sizeOf149,
 v76 := Try.zeroValue149,
 t77 := Try.underlying150,
 a77 := Try.isAgg150,
 z77 := Try.sizeOf150,
 v77 := Try.zeroValue150 }

instance : Inhabited S67 := ⟨⟨0, 0⟩⟩
theorem cmpI_neg (a b : Int) : cmpI a b < 0 ↔ a < b := by unfold cmpI; split <;> (try split) <;> omega
theorem cmpI_zero (a b : Int) : cmpI a b = 0 ↔ a = b := by unfold cmpI; split <;> (try split) <;> omega
def lt67 (x y : S67) : Bool := decide (x.f0 < y.f0 ∨ x.f0 = y.f0 ∧ x.f1 < y.f1)
theorem ltOf67 (x y : S67) : ltOf cmp67 x y = lt67 x y := by
 unfold ltOf lt67 cmp67
 by_cases h : x.f0 = y.f0
 ·rw [if_pos ((cmpI_zero _ _).2 h)]; simp [cmpI_neg, h]
 ·rw [if_neg (fun e => h ((cmpI_zero _ _).1 e))]; simp [cmpI_neg, h]
theorem swo67 : SWO (ltOf cmp67) where
 irrefl x := by rw [ltOf67]; simp [lt67]
 trans x y z h1 h2 := by rw [ltOf67] at *; simp only [lt67, decide_eq_true_eq] at *; omega
 ntrans x y z h1 h2 := by rw [ltOf67] at *; simp only [lt67, decide_eq_false_iff_not] at *; omega
def sort67.f (xs : List S67) : Option (List S67) := if xs.length < 4611686018427387904 then some (xs.mergeSort fun x y => !lt67 y x) else none
set_option maxHeartbeats 1000000 in
theorem sort67.calls {base : Nat} {ok : Nat → Prop} {v : Value} (xs ys : List S67) (w : World) (hr : Kd.R k67 67 w base ok v xs) (h : sort67.f xs = some ys) :
  Calls Try.prog 60 #[v, .func (.func 61) #[] #[]] w fun e w' => e = .returned (.tuple #[]) ∧ Kd.R k67 67 w' base ok v ys ∧ Below base w w' := by
 unfold sort67.f at h
 split at h
 case isFalse => cases h
 rename_i hl
 obtain rfl := Option.some.inj h
 have own := hr.2
 obtain ⟨inner, ⟨h1, ho⟩, h2⟩ := own
 rcases ho with ⟨rfl, h0⟩ | ⟨g, cap, cur, rfl, hg, hb, hnc, hcm, hcs, htk⟩
 ·obtain rfl : xs = [] := List.eq_nil_of_length_eq_zero h0
  refine (AnyF.slices_SortFunc_none sort67_lays none 0 _ w).mono ?_
  rintro e w' ⟨rfl, rfl⟩
  exact ⟨rfl, by simpa using hr, Below.refl _ _⟩
 ·obtain ⟨_, hlt, hH, hF⟩ := sort_frame enc67 2 (fun _ => rfl) (by omega) k67 rfl (fun hm => k67_openM hm) (fun w base ok x => k67_mkM w base ok x) hr
  refine (AnyQ.slices_SortFunc_total sort67_lays 2 Try.isAgg67 Try.sizeOf67 enc67 (fun _ => rfl) (fun x v hv => by simp [enc67] at hv; rcases hv with rfl | rfl <;> rfl) cmp67 swo67 61 #[] g 0 cap xs.toArray w (enters_of Try.func61 (by kernel_rfl) rfl)
   (fun m os dk hs x y => Alike_1.calls x y _) hH hlt hl (fun x y hx hy => by
    rw [ltOf67] at hx hy; simp only [lt67, decide_eq_false_iff_not] at hx hy
    cases x; cases y; simp only [S67.mk.injEq] at *; omega)).mono ?_
  rintro e w' ⟨rfl, n, os, rfl⟩
  have := hF (xs.mergeSort fun x y => !lt67 y x) n os (List.length_mergeSort _)
  simp only [ltOf67]
  exact ⟨trivial, this.1, this.2⟩
end Go.Proofs.Yticbhgjenidjlaa.T
namespace Go.Proofs.Yticbhgjenidjlaa.T
open Go.RowKit Go.Proofs.YticbhgjenidjlaaW.PrintWords Go.Proofs.YticbhgjenidjlaaW.PrintLast Go.Proofs.YticbhgjenidjlaaW.PrintMore
attribute [local go_sem] max2_int min2_int max_two min_two max_three min_three max_four min_four   -- for this text's walks alone
set_option linter.unusedVariables false
set_option linter.unusedSimpArgs false
attribute [local go_sem] wl_100001

theorem info67 : (Try.prog.info? 67).map (fun i => (i.zero, i.size, i.bytes)) = some (some (.agg #[(.int .i64 0), (.int .i64 0)]), 2, 16) := by kernel_rfl
mutual
def thread_Alike.l0 : Nat → List (S23) → List (S67) → List (S23) → Int → Int → Int → Int → Int → Option ((List (S67)) × Int)
 | 0, _, _, _, _, _, _, _, _ => none
 | k + 1, x0, x4, x26, x27, x28, x316000, x316001, x316002 => if x28 < x27 then (if 0 ≤ x28 then (if x28 < (x26.length : Int) then (thread_Alike.l1 k x0 x4 x28 x26 x27 x28 x28 0 x316000 x316001 x316002 ((rd_T23 x26 x28).f0) ((rd_T23 x26 x28).f1) ((rd_T23 x26 x28).f2) ((rd_T23 x26 x28).f3) ((rd_T23 x26 x28).f4) ((rd_T23 x26 x28).f5) ((rd_T23 x26 x28).f6) ((rd_T23 x26 x28).f7)) else (none)) else (none)) else ((sort67.f x4).bind fun y_ => (some (y_, 0)))
def thread_Alike.l1 : Nat → List (S23) → List (S67) → Int → List (S23) → Int → Int → Int → Int → Int → Int → Int → Int → Int → Int → Int → Int → Int → Bool → Int → Option ((List (S67)) × Int)
 | 0, _, _, _, _, _, _, _, _, _, _, _, _, _, _, _, _, _, _, _ => none
 | k + 1, x0, x4, x7, x26, x27, x28, x33, x34, x316000, x316001, x316002, x323000, x323001, x323002, x323003, x323004, x323005, x323006, x323007 => if x34 < x33 then (if 0 ≤ x34 then (if x34 < (x0.length : Int) then ((thread_form_isAlike.f ((rd_T23 x0 x34).f0) ((rd_T23 x0 x34).f1) ((rd_T23 x0 x34).f2) ((rd_T23 x0 x34).f3) ((rd_T23 x0 x34).f4) ((rd_T23 x0 x34).f5) ((rd_T23 x0 x34).f6) ((rd_T23 x0 x34).f7) x323000 x323001 x323002 x323003 x323004 x323005 x323006 x323007 x316000 x316001 x316002).bind fun t324 => (if t324 = true then (if x4.length < 8796093022208 then (thread_Alike.l1 k x0 (x4 ++ [(⟨x34, x7⟩ : S67)]) x7 x26 x27 x28 x33 (wrap64 (x34 + 1)) x316000 x316001 x316002 x323000 x323001 x323002 x323003 x323004 x323005 x323006 x323007) else (none)) else (thread_Alike.l1 k x0 x4 x7 x26 x27 x28 x33 (wrap64 (x34 + 1)) x316000 x316001 x316002 x323000 x323001 x323002 x323003 x323004 x323005 x323006 x323007))) else (none)) else (none)) else (thread_Alike.l0 k x0 x4 x26 x27 (wrap64 (x28 + 1)) x316000 x316001 x316002)
end
def thread_Alike.f (k : Nat) (l0 : List (S23)) (a1_0 : Int) (a1_1 : Int) (a1_2 : Int) : Option ((List (S67)) × Int) := (thread_checkTable.f k l0).bind fun t316 => (if t316 = 0 then ((thread_within.f 0 10000000 (([a1_0, a1_1, a1_2] : List Int))).bind fun t320 => (if t320 = true then (thread_Alike.l0 k l0 ([] : List (S67)) l0 (l0.length : Int) 0 a1_0 a1_1 a1_2) else (some (([] : List (S67)), 3)))) else (some (([] : List (S67)), t316)))
def thread_Alike.T12 : Bool × List (List Nat × List Nat) := (true, [([], []), ([], []), ([0, 1], [0, 1]), ([2], [2]), ([3], [3]), ([], []), ([], []), ([4, 5, 6], [4, 5, 6])])
def thread_Alike.B12 : List Nat := [0, 0, 3, 7, 15, 0, 0, 127]
theorem thread_Alike.tab12 : rtab .any (opsOf Try.f31 12) = thread_Alike.T12 := by kernel_rfl
theorem thread_Alike.bits12 : waitsOk thread_Alike.T12.2 thread_Alike.B12 = true := by kernel_rfl
set_option maxHeartbeats 8000000 in
set_option maxRecDepth 100000 in
theorem thread_Alike.calls (k : Nat) (A0 : Option Addr) (c0 : Nat) (l0 : List (S23)) (a1_0 : Int) (a1_1 : Int) (a1_2 : Int) (r1 : List (S67)) (r2 : Int) (w : World) (hr0 : Kd.C k23 w A0 l0.length l0) (hc0 : l0.length ≤ c0) (h : thread_Alike.f k l0 a1_0 a1_1 a1_2 = some (r1, r2)) :
  Calls Try.prog 31 #[.slice A0 l0.length c0, .agg #[.int .i64 a1_0, .int .i64 a1_1, .int .i64 a1_2]] w fun e w' => ∃ v0_ : Value, e = .returned (.tuple #[v0_, .int .i64 r2]) ∧ Kd.R k67 67 w' w.heap.size (fun _ => True) v0_ r1 ∧ Below w.heap.size w w' := by
 have hu55 := Try.underlying55
 have hu23 := Try.underlying23
 have hu96 := Try.underlying96
 have hu67 := Try.underlying67
 have HR0 := Aside0.mk hr0
 have HC0 := Aside0.mk hc0
 clear hr0 hc0
 have HB := Aside0.mk (Below.refl w.heap.size w)
 have H : ((thread_checkTable.f k l0).bind fun t316 => (if t316 = 0 then ((thread_within.f 0 10000000 (([a1_0, a1_1, a1_2] : List Int))).bind fun t320 => (if t320 = true then (thread_Alike.l0 k l0 ([] : List (S67)) l0 (l0.length : Int) 0 a1_0 a1_1 a1_2) else (some (([] : List (S67)), 3)))) else (some (([] : List (S67)), t316)))) = some (r1, r2) := h
 clear h
 replace H := Option.bind_eq_some_iff.mp H
 obtain ⟨t316, A30, H⟩ := H; (try dsimp only at H)
 have A3 := Aside0.mk A30
 clear A30
 by_cases c4 : t316 = 0
 ·rw [if_pos c4] at H
  have c4b0 : (t316 == 0) = true := beq_iff_eq.mpr c4
  have c4b1 : (t316 != 0) = false := bne_eq_false_iff_eq.mpr c4
  clear c4
  obtain ⟨y317, hy317⟩ : ∃ y_ : List Int, y_ = (([a1_0, a1_1, a1_2] : List Int)) := ⟨_, rfl⟩
  replace H : ((thread_within.f 0 10000000 y317).bind fun t320 => (if t320 = true then (thread_Alike.l0 k l0 ([] : List (S67)) l0 (l0.length : Int) 0 a1_0 a1_1 a1_2) else (some (([] : List (S67)), 3)))) = some (r1, r2) := by first | (rw [hy317]; with_reducible exact H) | (have H2_ := (Option.bind_some _ _).symm.trans H; rw [hy317]; with_reducible exact H2_) | (have H2_ := (Option.bind_some _ _).symm.trans H; with_reducible exact H2_) | with_reducible exact H | (rw [hy317]; exact H) | exact H
  have Ny317 := Aside0.mk hy317
  clear hy317
  replace H := Option.bind_eq_some_iff.mp H
  obtain ⟨t320, A50, H⟩ := H; (try dsimp only at H)
  have A5 := Aside0.mk A50
  clear A50
  by_cases c6 : t320 = true
  ·subst c6
   have H1 : (thread_Alike.l0 k l0 ([] : List (S67)) l0 (l0.length : Int) 0 a1_0 a1_1 a1_2) = some (r1, r2) := by rw [if_pos rfl] at H; exact H
   clear H
   have H := H1
   clear H1
   have H' := Aside0.mk H
   clear H
   go_enter Try.func31, Try.ntmps31
   go_wp2_with (first | ((with_reducible refine gate_dst (N := 3) rfl ?_); refine box_event ?hg (N := 3) ?hd (cs := #[.int .i64 a1_0, .int .i64 a1_1, .int .i64 a1_2]) (t := 55) ?hr ?_; (case hd => rfl); (case hg => rfl); (case hr => first | (go_simp; done) | (go_simp; rfl)); intro gb315 hg w7 hbox hb; have BK315 := Aside0.mk (hbox); have GW315 := Aside0.mk ((by rw [hg]; exact (below_size HB.out) : w.heap.size ≤ gb315)); have GE315 := GW315; replace HB := Aside0.mk (below_step HB.out hb); clear hb hbox hg) | ((with_reducible refine gate_callee (f := 56) rfl ?_); refine goesL_ (some 11) rfl rfl Try.func56 (by kernel_rfl) rfl #[.slice A0 l0.length c0] rfl (by (try simp only [List.map_toArray, List.map_cons, List.map_nil]); first | done | rfl | (simp only [List.length_drop, List.length_take]; rfl)) ?_; (with_reducible refine (thread_checkTable.calls k _ _ l0 t316 _ ?side1 ?side2 A3.out).mono ?_); (case side1 => repeat (first | exact (Kd.C_below HR0.out HB.out) | (with_reducible refine Kd.C_alloc ?_ _) | (with_reducible refine Kd.C_drewN ?_ _) | (with_reducible refine Kd.C_drew ?_))); (case side2 => exact HC0.out); rintro e w8 ⟨rfl, hb⟩; refine ⟨_, rfl, ?_⟩; replace BK315 := Aside0.mk (blk_below (g := gb315) (o := .cells #[.int .i64 a1_0, .int .i64 a1_1, .int .i64 a1_2] 55 (0, 0)) (by repeat (first | (with_reducible first | exact BK315.out | refine blk_drewN ?_ _ | refine blk_drew ?_ | refine blk_alloc ?_ _) | exact BK315.out)) hb); replace HB := Aside0.mk (below_step (by repeat (first | (with_reducible first | exact HB.out | apply below_alloc | apply pw_below_drewN | apply below_drew1 | refine below_set ?_ (Aside0.out (by assumption))) | exact HB.out)) hb); (try clear hb); (try clear hb2); (try clear hk); (try clear hi); obtain ⟨hcz9_0, hcz9_1, hcz9_2⟩ := bc3 BK315.out; obtain ⟨hfz9_0, hfz9_1, hfz9_2⟩ := bf3 BK315.out) | ((with_reducible refine gate_dst (N := 23) rfl ?_); refine Kd.R_lit (Kd.int .i64) _ 3 ?hg (N := 23) ?hd (xs := ([a1_0, a1_1, a1_2] : List Int)) (inner := [.int .i64 a1_0, .int .i64 a1_1, .int .i64 a1_2]) (ok := fun _ => True) (okp := fun _ => True) ?hr ?hp (fun _ hk => hk) trivial (Below.refl _ _) (Nat.le_refl _) (by simp) ?_; (case hd => rfl); (case hg => rfl); (case hr => first | (go_simp; done) | (go_simp; rfl)); (case hp => exact (Reps.one (show Kd.M (Kd.int .i64) _ _ _ a1_0 [.int .i64 a1_0] from rfl) (Reps.one (show Kd.M (Kd.int .i64) _ _ _ a1_1 [.int .i64 a1_1] from rfl) (Reps.one (show Kd.M (Kd.int .i64) _ _ _ a1_2 [.int .i64 a1_2] from rfl) (Reps.none _ _))))); intro v318 w10 ho11 hb hg_ hnew_; clear hg_ hnew_; (first | rw [← Ny317.out] at ho11 | (simp only [Int.reduceToNat] at ho11; rw [← Ny317.out] at ho11)); have HO319 := Aside0.mk (Kd.R_lower ho11 (below_size (by repeat (first | (with_reducible first | exact HB.out | apply below_alloc | apply pw_below_drewN | apply below_drew1 | refine below_set ?_ (Aside0.out (by assumption))) | exact HB.out)))); replace BK315 := Aside0.mk (blk_below (g := gb315) (o := .cells #[.int .i64 a1_0, .int .i64 a1_1, .int .i64 a1_2] 55 (0, 0)) (by repeat (first | (with_reducible first | exact BK315.out | refine blk_drewN ?_ _ | refine blk_drew ?_ | refine blk_alloc ?_ _) | exact BK315.out)) hb); replace HB := Aside0.mk (below_step (by repeat (first | (with_reducible first | exact HB.out | apply below_alloc | apply pw_below_drewN | apply below_drew1 | refine below_set ?_ (Aside0.out (by assumption))) | exact HB.out)) hb); clear hb ho11; obtain ⟨Ao12, co12, eo12⟩ := Kd.R_slice HO319.out; subst eo12) | ((with_reducible refine gate_callee (f := 43) rfl ?_); refine goesL_ (some 24) rfl rfl Try.func43 (by kernel_rfl) rfl #[.int .i64 0, .int .i64 10000000, .slice Ao12 y317.length co12] rfl (by (try simp only [List.map_toArray, List.map_cons, List.map_nil]); first | done | rfl | (simp only [List.length_drop, List.length_take]; rfl)) ?_; (with_reducible refine (thread_within.calls 0 10000000 _ _ y317 true _ ?side1 ?side2 A5.out).mono ?_); (case side1 => repeat (first | exact (Kd.R_reads' HO319.out).2.2 | (with_reducible refine Kd.C_alloc ?_ _) | (with_reducible refine Kd.C_drewN ?_ _) | (with_reducible refine Kd.C_drew ?_))); (case side2 => exact (Kd.R_reads' HO319.out).2.1); rintro e w13 ⟨rfl, hb⟩; refine ⟨_, rfl, ?_⟩; replace HO319 := Aside0.mk (Kd.R_below (by (with_reducible repeat (first | apply Kd.R_alloc | apply Kd.R_drewN | apply Kd.R_drew)); exact HO319.out) hb); replace BK315 := Aside0.mk (blk_below (g := gb315) (o := .cells #[.int .i64 a1_0, .int .i64 a1_1, .int .i64 a1_2] 55 (0, 0)) (by repeat (first | (with_reducible first | exact BK315.out | refine blk_drewN ?_ _ | refine blk_drew ?_ | refine blk_alloc ?_ _) | exact BK315.out)) hb); replace HB := Aside0.mk (below_step (by repeat (first | (with_reducible first | exact HB.out | apply below_alloc | apply pw_below_drewN | apply below_drew1 | refine below_set ?_ (Aside0.out (by assumption))) | exact HB.out)) hb); (try clear hb); (try clear hb2); (try clear hk); (try clear hi)))
   go_loopg [4, 28] k (fun kq v4 v28 w' => ∃ (x4_1 : List (S67)) (x28_1 : Int), v28 = .int .i64 x28_1 ∧ Aside0 (thread_Alike.l0 kq l0 x4_1 l0 (l0.length : Int) x28_1 a1_0 a1_1 a1_2 = some (r1, r2)) ∧ Aside0 (kq ≤ k) ∧ Aside0 (Kd.R k67 67 w' w.heap.size (fun _ => True) v4 x4_1) ∧ Aside0 (w'.heap[gb315]? = some (.cells #[.int .i64 a1_0, .int .i64 a1_1, .int .i64 a1_2] 55 (0, 0))) ∧ Aside0 (Below w.heap.size w w'))
   case atStart => exact ⟨(([] : List (S67))), (0), (by first | rfl | (simp; done) | (simp [*]; done)), H', ⟨Nat.le_refl _⟩, ⟨by first | exact Kd.R_nil _ _ _ _ _ | exact Kd.N_nil _ _ _ _ _ | exact Kd.V_nil _ _ _ _ _ | exact Kd.Q_nil _ _ _ _ _ | exact Kd.S_nil _ _ _ _ _⟩, BK315, ⟨by repeat (first | (with_reducible first | exact HB.out | apply below_alloc | apply pw_below_drewN | apply below_drew1 | refine below_set ?_ (Aside0.out (by assumption))) | exact HB.out)⟩⟩
   case round =>
    clear H'
    try clear p2; try clear c3; try clear c4; try clear c4b0; try clear c4b1; try clear c5; try clear c6; try clear hcz9_0; try clear hcz9_1; try clear hcz9_2; try clear hfz9_0; try clear hfz9_1; try clear hfz9_2
    obtain ⟨x4_1, x28_1, rfl, HA, HK1, HO_4, BK315, HB⟩ := hrel
    cases gk with
    | zero => exact absurd HA.out (by simp [thread_Alike.l0])
    | succ k1 =>
     have H := HA.out
     clear HA
     simp only [thread_Alike.l0] at H
     by_cases c14 : x28_1 < (l0.length : Int)
     ·rw [if_pos c14] at H
      have c14b0 : decide (x28_1 < (l0.length : Int)) = true := decide_eq_true c14
      clear c14
      by_cases c15 : 0 ≤ x28_1
      ·rw [if_pos c15] at H
       have c15b0 : decide (0 ≤ x28_1) = true := decide_eq_true c15
       clear c15
       by_cases c16 : x28_1 < (l0.length : Int)
       ·rw [if_pos c16] at H
        have c16b0 : decide (x28_1 < (l0.length : Int)) = true := decide_eq_true c16
        clear c16
        have H' := Aside0.mk H
        clear H
        have p321 : 0 ≤ (x28_1 : Int) := of_decide_eq_true (by first | (with_reducible assumption) | assumption)
        have q321 : x28_1 < (l0.length : Int) := of_decide_eq_true (by first | (with_reducible assumption) | assumption)
        obtain ⟨ad321, e321, hx321_0, hx321_1, hx321_2, hx321_3, hx321_4, hx321_5, hx321_6, hx321_7⟩ := at_T23 HR0.out x28_1 p321 q321
        cases e321
        replace hx321_0 := (HB.out.cell (World.block_lt_of_cell? w _ hx321_0)).trans hx321_0
        replace hx321_1 := (HB.out.cell (World.block_lt_of_cell? w _ hx321_1)).trans hx321_1
        replace hx321_2 := (HB.out.cell (World.block_lt_of_cell? w _ hx321_2)).trans hx321_2
        replace hx321_3 := (HB.out.cell (World.block_lt_of_cell? w _ hx321_3)).trans hx321_3
        replace hx321_4 := (HB.out.cell (World.block_lt_of_cell? w _ hx321_4)).trans hx321_4
        replace hx321_5 := (HB.out.cell (World.block_lt_of_cell? w _ hx321_5)).trans hx321_5
        replace hx321_6 := (HB.out.cell (World.block_lt_of_cell? w _ hx321_6)).trans hx321_6
        replace hx321_7 := (HB.out.cell (World.block_lt_of_cell? w _ hx321_7)).trans hx321_7
        replace p321 := eq_true p321
        replace q321 := eq_true q321
        go_wp2_with (first | ((with_reducible refine gate_dst (N := 8) rfl ?_); refine box_event ?hg (N := 8) ?hd (cs := #[.int .i64 0, .int .i64 0, .int .i64 0, .int .i64 0, .int .i64 0, .int .i64 0, .bool false, .int .i64 0]) (t := 23) ?hr ?_; (case hd => rfl); (case hg => rfl); (case hr => first | (go_simp; done) | (go_simp; rfl)); intro gb322 hg w17 hbox hb; replace HO_4 := Aside0.mk (Kd.R_below (by (with_reducible repeat (first | apply Kd.R_alloc | apply Kd.R_drewN | apply Kd.R_drew)); exact HO_4.out) hb); have BK322 := Aside0.mk (hbox); have GW322 := Aside0.mk ((by rw [hg]; exact (below_size (by repeat (first | (with_reducible first | exact HB.out | apply below_alloc | apply pw_below_drewN | apply below_drew1 | refine below_set ?_ (Aside0.out (by assumption))) | exact HB.out))) : w.heap.size ≤ gb322)); have GE322 := GW322; replace HB := Aside0.mk (below_step (by repeat (first | (with_reducible first | exact HB.out | apply below_alloc | apply pw_below_drewN | apply below_drew1 | refine below_set ?_ (Aside0.out (by assumption))) | exact HB.out)) hb); have NB315_322 := Aside0.mk ((by rw [hg]; exact Nat.ne_of_lt (blk_lt BK315.out) : gb315 ≠ gb322)); have NB322_315 := Aside0.mk ((by rw [hg]; exact Nat.ne_of_gt (blk_lt BK315.out) : gb322 ≠ gb315)); replace BK315 := Aside0.mk (blk_below (g := gb315) (o := .cells #[.int .i64 a1_0, .int .i64 a1_1, .int .i64 a1_2] 55 (0, 0)) (by repeat (first | (with_reducible first | exact BK315.out | refine blk_drewN ?_ _ | refine blk_drew ?_ | refine blk_alloc ?_ _) | exact BK315.out)) hb); clear hb hbox hg; have hnb18 := NB322_315.out; have hnc18 := NB315_322.out; obtain ⟨hcz19_0, hcz19_1, hcz19_2, hcz19_3, hcz19_4, hcz19_5, hcz19_6, hcz19_7⟩ := bc8 BK322.out; obtain ⟨hfz19_0, hfz19_1, hfz19_2, hfz19_3, hfz19_4, hfz19_5, hfz19_6, hfz19_7⟩ := bf8 BK322.out))
        go_loopg [4, 34] k1 (fun kq v4 v34 w' => ∃ (x4_2 : List (S67)) (x34_2 : Int), v34 = .int .i64 x34_2 ∧ Aside0 (thread_Alike.l1 kq l0 x4_2 x28_1 l0 (l0.length : Int) x28_1 x28_1 x34_2 a1_0 a1_1 a1_2 ((rd_T23 l0 x28_1).f0) ((rd_T23 l0 x28_1).f1) ((rd_T23 l0 x28_1).f2) ((rd_T23 l0 x28_1).f3) ((rd_T23 l0 x28_1).f4) ((rd_T23 l0 x28_1).f5) ((rd_T23 l0 x28_1).f6) ((rd_T23 l0 x28_1).f7) = some (r1, r2)) ∧ Aside0 (kq ≤ k1) ∧ Aside0 (Kd.R k67 67 w' w.heap.size (fun _ => True) v4 x4_2) ∧ Aside0 (w'.heap[gb315]? = some (.cells #[.int .i64 a1_0, .int .i64 a1_1, .int .i64 a1_2] 55 (0, 0))) ∧ Aside0 (w'.heap[gb322]? = some (.cells #[.int .i64 ((rd_T23 l0 x28_1).f0), .int .i64 ((rd_T23 l0 x28_1).f1), .int .i64 ((rd_T23 l0 x28_1).f2), .int .i64 ((rd_T23 l0 x28_1).f3), .int .i64 ((rd_T23 l0 x28_1).f4), .int .i64 ((rd_T23 l0 x28_1).f5), .bool ((rd_T23 l0 x28_1).f6), .int .i64 ((rd_T23 l0 x28_1).f7)] 23 (0, 0))) ∧ Aside0 (Below w.heap.size w w'))
        case atStart => exact ⟨(x4_1), (0), (by first | rfl | (simp; done) | (simp [*]; done)), H', ⟨Nat.le_refl _⟩, ⟨by (with_reducible repeat (first | apply Kd.R_alloc | apply Kd.R_drewN | apply Kd.R_drew)); exact Kd.R_mono (Kd.R_far (p := ⟨gb322, 7, none⟩) (Kd.R_far (p := ⟨gb322, 6, none⟩) (Kd.R_far (p := ⟨gb322, 5, none⟩) (Kd.R_far (p := ⟨gb322, 4, none⟩) (Kd.R_far (p := ⟨gb322, 3, none⟩) (Kd.R_far (p := ⟨gb322, 2, none⟩) (Kd.R_far (p := ⟨gb322, 1, none⟩) (Kd.R_far (p := ⟨gb322, 0, none⟩) (Kd.R_types HO_4.out BK322.out (by decide)) (fun _ hk => hk.2) (.int .i64 ((rd_T23 l0 x28_1).f0))) (fun _ hk => hk.2) (.int .i64 ((rd_T23 l0 x28_1).f1))) (fun _ hk => hk.2) (.int .i64 ((rd_T23 l0 x28_1).f2))) (fun _ hk => hk.2) (.int .i64 ((rd_T23 l0 x28_1).f3))) (fun _ hk => hk.2) (.int .i64 ((rd_T23 l0 x28_1).f4))) (fun _ hk => hk.2) (.int .i64 ((rd_T23 l0 x28_1).f5))) (fun _ hk => hk.2) (.bool ((rd_T23 l0 x28_1).f6))) (fun _ hk => hk.2) (.int .i64 ((rd_T23 l0 x28_1).f7))) (fun _ hk => trivial)⟩, ⟨by repeat (first | (with_reducible first | exact BK315.out | refine blk_drewN ?_ _ | refine blk_drew ?_ | refine blk_alloc ?_ _) | refine blk_far ?_ NB315_322.out _ | exact BK315.out)⟩, ⟨by exact bto (bput (bput (bput (bput (bput (bput (bput (bput (BK322.out) _ _) _ _) _ _) _ _) _ _) _ _) _ _) _ _) rfl⟩, ⟨by repeat (first | (with_reducible first | exact HB.out | apply below_alloc | apply pw_below_drewN | apply below_drew1 | refine below_set ?_ (Aside0.out (by assumption))) | exact HB.out)⟩⟩
        case round =>
         clear H'
         try clear c1; try clear p2; try clear c3; try clear p3; try clear q3; try clear hx3; try clear c4; try clear c4b0; try clear c4b1; try clear c5; try clear c6; try clear c14; try clear c14b0; try clear c15; try clear c15b0; try clear c16; try clear c16b0; try clear c18; try clear hcz19_0; try clear hcz19_1; try clear hcz19_2; try clear hcz19_3; try clear hcz19_4; try clear hcz19_5; try clear hcz19_6; try clear hcz19_7; try clear hcz9_0; try clear hcz9_1; try clear hcz9_2; try clear hfz19_0; try clear hfz19_1; try clear hfz19_2; try clear hfz19_3; try clear hfz19_4; try clear hfz19_5; try clear hfz19_6; try clear hfz19_7; try clear hfz9_0; try clear hfz9_1; try clear hfz9_2; try clear hx321_0; try clear hx321_1; try clear hx321_2; try clear hx321_3; try clear hx321_4; try clear hx321_5; try clear hx321_6; try clear hx321_7; try clear p2; try clear p321; try clear q321
         obtain ⟨x4_2, x34_2, rfl, HA, HK2, HO_4, BK315, BK322, HB⟩ := hrel
         cases gk with
         | zero => exact absurd HA.out (by simp [thread_Alike.l1])
         | succ k2 =>
          have H := HA.out
          clear HA
          simp only [thread_Alike.l1] at H
          by_cases c20 : x34_2 < x28_1
          ·rw [if_pos c20] at H
           have c20b0 : decide (x34_2 < x28_1) = true := decide_eq_true c20
           clear c20
           by_cases c21 : 0 ≤ x34_2
           ·rw [if_pos c21] at H
            have c21b0 : decide (0 ≤ x34_2) = true := decide_eq_true c21
            clear c21
            by_cases c22 : x34_2 < (l0.length : Int)
            ·rw [if_pos c22] at H
             have c22b0 : decide (x34_2 < (l0.length : Int)) = true := decide_eq_true c22
             clear c22
             replace H := Option.bind_eq_some_iff.mp H
             obtain ⟨t324, A230, H⟩ := H; (try dsimp only at H)
             have A23 := Aside0.mk A230
             clear A230
             by_cases c24 : t324 = true
             ·subst c24
              have H1 : (if x4_2.length < 8796093022208 then (thread_Alike.l1 k2 l0 (x4_2 ++ [(⟨x34_2, x28_1⟩ : S67)]) x28_1 l0 (l0.length : Int) x28_1 x28_1 (wrap64 (x34_2 + 1)) a1_0 a1_1 a1_2 ((rd_T23 l0 x28_1).f0) ((rd_T23 l0 x28_1).f1) ((rd_T23 l0 x28_1).f2) ((rd_T23 l0 x28_1).f3) ((rd_T23 l0 x28_1).f4) ((rd_T23 l0 x28_1).f5) ((rd_T23 l0 x28_1).f6) ((rd_T23 l0 x28_1).f7)) else (none)) = some (r1, r2) := by rw [if_pos rfl] at H; exact H
              clear H
              have H := H1
              clear H1
              by_cases c25 : x4_2.length < 8796093022208
              ·rw [if_pos c25] at H
               have LMc25 := Aside0.mk c25
               clear c25
               obtain ⟨y325, hy325⟩ : ∃ y_ : List (S67), y_ = (x4_2 ++ [(⟨x34_2, x28_1⟩ : S67)]) := ⟨_, rfl⟩
               replace H : (thread_Alike.l1 k2 l0 y325 x28_1 l0 (l0.length : Int) x28_1 x28_1 (wrap64 (x34_2 + 1)) a1_0 a1_1 a1_2 ((rd_T23 l0 x28_1).f0) ((rd_T23 l0 x28_1).f1) ((rd_T23 l0 x28_1).f2) ((rd_T23 l0 x28_1).f3) ((rd_T23 l0 x28_1).f4) ((rd_T23 l0 x28_1).f5) ((rd_T23 l0 x28_1).f6) ((rd_T23 l0 x28_1).f7)) = some (r1, r2) := by first | (rw [hy325]; with_reducible exact H) | (have H2_ := (Option.bind_some _ _).symm.trans H; rw [hy325]; with_reducible exact H2_) | (have H2_ := (Option.bind_some _ _).symm.trans H; with_reducible exact H2_) | with_reducible exact H | (rw [hy325]; exact H) | exact H
               have Ny325 := Aside0.mk hy325
               clear hy325
               have H' := Aside0.mk H
               clear H
               try go_wp2
               have n0_ := Aside0.mk (Kd.R_drew HO_4.out)
               have n1_ := Aside0.mk (blk_drew BK315.out)
               have n2_ := Aside0.mk (blk_drew BK322.out)
               have n3_ := Aside0.mk (below_drew1 HB.out)
               clear HO_4
               clear BK315
               clear BK322
               clear HB
               have HO_4 := n0_
               have BK315 := n1_
               have BK322 := n2_
               have HB := n3_
               clear n0_ n1_ n2_ n3_
               have p323 : 0 ≤ (x34_2 : Int) := of_decide_eq_true (by first | (with_reducible assumption) | assumption)
               have q323 : x34_2 < (l0.length : Int) := of_decide_eq_true (by first | (with_reducible assumption) | assumption)
               obtain ⟨ad323, e323, hx323_0, hx323_1, hx323_2, hx323_3, hx323_4, hx323_5, hx323_6, hx323_7⟩ := at_T23 HR0.out x34_2 p323 q323
               have hw323_7 := hx323_7
               have hw323_6 := hx323_6
               have hw323_5 := hx323_5
               have hw323_4 := hx323_4
               have hw323_3 := hx323_3
               have hw323_2 := hx323_2
               have hw323_1 := hx323_1
               have hw323_0 := hx323_0
               obtain rfl : ad321 = ad323 := (by injection e323)
               replace hx323_0 := (HB.out.cell (World.block_lt_of_cell? w _ hx323_0)).trans hx323_0
               replace hx323_1 := (HB.out.cell (World.block_lt_of_cell? w _ hx323_1)).trans hx323_1
               replace hx323_2 := (HB.out.cell (World.block_lt_of_cell? w _ hx323_2)).trans hx323_2
               replace hx323_3 := (HB.out.cell (World.block_lt_of_cell? w _ hx323_3)).trans hx323_3
               replace hx323_4 := (HB.out.cell (World.block_lt_of_cell? w _ hx323_4)).trans hx323_4
               replace hx323_5 := (HB.out.cell (World.block_lt_of_cell? w _ hx323_5)).trans hx323_5
               replace hx323_6 := (HB.out.cell (World.block_lt_of_cell? w _ hx323_6)).trans hx323_6
               replace hx323_7 := (HB.out.cell (World.block_lt_of_cell? w _ hx323_7)).trans hx323_7
               replace p323 := eq_true p323
               replace q323 := eq_true q323
               refine start_ (n := 8) (S := fun w' => w'.cell? ⟨gb322, 0, none⟩ = some (.int .i64 ((rd_T23 l0 x28_1).f0)) ∧ w'.cell? ⟨gb322, 1, none⟩ = some (.int .i64 ((rd_T23 l0 x28_1).f1)) ∧ w'.cell? ⟨gb322, 2, none⟩ = some (.int .i64 ((rd_T23 l0 x28_1).f2)) ∧ w'.cell? ⟨gb322, 3, none⟩ = some (.int .i64 ((rd_T23 l0 x28_1).f3)) ∧ w'.cell? ⟨gb322, 4, none⟩ = some (.int .i64 ((rd_T23 l0 x28_1).f4)) ∧ w'.cell? ⟨gb322, 5, none⟩ = some (.int .i64 ((rd_T23 l0 x28_1).f5)) ∧ w'.cell? ⟨gb322, 6, none⟩ = some (.bool ((rd_T23 l0 x28_1).f6)) ∧ w'.cell? ⟨gb322, 7, none⟩ = some (.int .i64 ((rd_T23 l0 x28_1).f7)) ∧ w'.cell? ⟨gb315, 0, none⟩ = some (.int .i64 a1_0) ∧ w'.cell? ⟨gb315, 1, none⟩ = some (.int .i64 a1_1) ∧ w'.cell? ⟨gb315, 2, none⟩ = some (.int .i64 a1_2) ∧ w'.cell? (ad321.add ((x34_2).toNat * 8)) = some (.int .i64 ((rd_T23 l0 x34_2).f0)) ∧ w'.cell? ⟨(ad321.add ((x34_2).toNat * 8)).block, (ad321.add ((x34_2).toNat * 8)).off + 1, none⟩ = some (.int .i64 ((rd_T23 l0 x34_2).f1)) ∧ w'.cell? ⟨(ad321.add ((x34_2).toNat * 8)).block, (ad321.add ((x34_2).toNat * 8)).off + 2, none⟩ = some (.int .i64 ((rd_T23 l0 x34_2).f2)) ∧ w'.cell? ⟨(ad321.add ((x34_2).toNat * 8)).block, (ad321.add ((x34_2).toNat * 8)).off + 3, none⟩ = some (.int .i64 ((rd_T23 l0 x34_2).f3)) ∧ w'.cell? ⟨(ad321.add ((x34_2).toNat * 8)).block, (ad321.add ((x34_2).toNat * 8)).off + 4, none⟩ = some (.int .i64 ((rd_T23 l0 x34_2).f4)) ∧ w'.cell? ⟨(ad321.add ((x34_2).toNat * 8)).block, (ad321.add ((x34_2).toNat * 8)).off + 5, none⟩ = some (.int .i64 ((rd_T23 l0 x34_2).f5)) ∧ w'.cell? ⟨(ad321.add ((x34_2).toNat * 8)).block, (ad321.add ((x34_2).toNat * 8)).off + 6, none⟩ = some (.bool ((rd_T23 l0 x34_2).f6)) ∧ w'.cell? ⟨(ad321.add ((x34_2).toNat * 8)).block, (ad321.add ((x34_2).toNat * 8)).off + 7, none⟩ = some (.int .i64 ((rd_T23 l0 x34_2).f7))) (ds := []) #[false, false, false, false, false, false, false, false] (by kernel_rfl) rfl rfl ⟨(blk_cell BK322.out 0).trans rfl, (blk_cell BK322.out 1).trans rfl, (blk_cell BK322.out 2).trans rfl, (blk_cell BK322.out 3).trans rfl, (blk_cell BK322.out 4).trans rfl, (blk_cell BK322.out 5).trans rfl, (blk_cell BK322.out 6).trans rfl, (blk_cell BK322.out 7).trans rfl, (blk_cell BK315.out 0).trans rfl, (blk_cell BK315.out 1).trans rfl, (blk_cell BK315.out 2).trans rfl, ((HB.out.cell (World.block_lt_of_cell? w _ hw323_0)).trans hw323_0), ((HB.out.cell (World.block_lt_of_cell? w _ hw323_1)).trans hw323_1), ((HB.out.cell (World.block_lt_of_cell? w _ hw323_2)).trans hw323_2), ((HB.out.cell (World.block_lt_of_cell? w _ hw323_3)).trans hw323_3), ((HB.out.cell (World.block_lt_of_cell? w _ hw323_4)).trans hw323_4), ((HB.out.cell (World.block_lt_of_cell? w _ hw323_5)).trans hw323_5), ((HB.out.cell (World.block_lt_of_cell? w _ hw323_6)).trans hw323_6), ((HB.out.cell (World.block_lt_of_cell? w _ hw323_7)).trans hw323_7)⟩ (fun hHeld => ?_); refine with_tabW thread_Alike.tab12 thread_Alike.bits12 (fun HT_ HW_ => ?_)
               generalize wr.drew = w26 at HO_4 BK315 BK322 HB hx323_0 hx323_1 hx323_2 hx323_3 hx323_4 hx323_5 hx323_6 hx323_7 hHeld ⊢
               refine pure_ (i := 0) (N := some 37) (v := ?_) (a' := ?_) #[true, false, false, false, false, false, false, false] rfl rfl (any_of HT_.out (by kernel_rfl)) (fun _ _ _ h => h) (Or.inl ⟨by rfl, ?_⟩) ?_ ?_
               rotate_left
               ·intro w'
                go_simp
                with_reducible rfl
               rotate_left
               ·simp only [Act.put, List.setIfInBounds_toArray, List.set_cons_zero, List.set_cons_succ, i64_w, i32_w]
                rfl
               refine pure_ (i := 1) (N := some 38) (v := ?_) (a' := ?_) #[true, true, false, false, false, false, false, false] rfl rfl (any_of HT_.out (by kernel_rfl)) (fun _ _ _ h => h) (Or.inl ⟨by rfl, ?_⟩) ?_ ?_
               rotate_left
               ·intro w'
                go_simp
                with_reducible rfl
               rotate_left
               ·simp only [Act.put, List.setIfInBounds_toArray, List.set_cons_zero, List.set_cons_succ, i64_w, i32_w]
                rfl
               refine pure_ (i := 2) (N := some 39) (v := ?_) (a' := ?_) #[true, true, true, false, false, false, false, false] rfl rfl (any_of HT_.out (by kernel_rfl)) (fun _ _ _ h => h) (Or.inl ⟨by rfl, ?_⟩) ?_ ?_
               rotate_left
               ·intro w'
                go_simp
                with_reducible rfl
               rotate_left
               ·simp only [Act.put, List.setIfInBounds_toArray, List.set_cons_zero, List.set_cons_succ, i64_w, i32_w]
                rfl
               refine take_ (i := 3) (N := some 40) (v := ?_) (a' := ?_) #[true, true, true, true, false, false, false, false] rfl rfl (take_ofW HT_.out HW_.out (by kernel_rfl)) (fun _ _ _ h => h) (Or.inl ⟨by rfl, ?_⟩) hHeld ?_ ?_
               rotate_left
               ·rintro w' ⟨s0, s1, s2, s3, s4, s5, s6, s7, s8, s9, s10, s11, s12, s13, s14, s15, s16, s17, s18⟩
                go_simp
                with_reducible rfl
               rotate_left
               ·simp only [Act.put, List.setIfInBounds_toArray, List.set_cons_zero, List.set_cons_succ, i64_w, i32_w]
                rfl
               refine pure_ (i := 4) (N := some 41) (v := ?_) (a' := ?_) #[true, true, true, true, true, false, false, false] rfl rfl (any_of HT_.out (by kernel_rfl)) (fun _ _ _ h => h) (Or.inl ⟨by rfl, ?_⟩) ?_ ?_
               rotate_left
               ·intro w'
                go_simp
                with_reducible rfl
               rotate_left
               ·simp only [Act.put, List.setIfInBounds_toArray, List.set_cons_zero, List.set_cons_succ, i64_w, i32_w]
                rfl
               refine take_ (i := 5) (N := some 42) (v := ?_) (a' := ?_) #[true, true, true, true, true, true, false, false] rfl rfl (take_ofW HT_.out HW_.out (by kernel_rfl)) (fun _ _ _ h => h) (Or.inl ⟨by rfl, ?_⟩) hHeld ?_ ?_
               rotate_left
               ·rintro w' ⟨s0, s1, s2, s3, s4, s5, s6, s7, s8, s9, s10, s11, s12, s13, s14, s15, s16, s17, s18⟩
                go_simp
                with_reducible rfl
               rotate_left
               ·simp only [Act.put, List.setIfInBounds_toArray, List.set_cons_zero, List.set_cons_succ, i64_w, i32_w]
                rfl
               refine take_ (i := 6) (N := some 43) (v := ?_) (a' := ?_) #[true, true, true, true, true, true, true, false] rfl rfl (take_ofW HT_.out HW_.out (by kernel_rfl)) (fun _ _ _ h => h) (Or.inl ⟨by rfl, ?_⟩) hHeld ?_ ?_
               rotate_left
               ·rintro w' ⟨s0, s1, s2, s3, s4, s5, s6, s7, s8, s9, s10, s11, s12, s13, s14, s15, s16, s17, s18⟩
                go_simp
                with_reducible rfl
               rotate_left
               ·simp only [Act.put, List.setIfInBounds_toArray, List.set_cons_zero, List.set_cons_succ, i64_w, i32_w]
                rfl
               refine one_ (i := 7) (N := some 44) #[true, true, true, true, true, true, true, true] rfl rfl (one_of HT_.out (by kernel_rfl)) (by decide) (fun K hK => ?_)
               refine goes_ Try.func59 (by kernel_rfl) rfl #[.agg #[.int .i64 ((rd_T23 l0 x34_2).f0), .int .i64 ((rd_T23 l0 x34_2).f1), .int .i64 ((rd_T23 l0 x34_2).f2), .int .i64 ((rd_T23 l0 x34_2).f3), .int .i64 ((rd_T23 l0 x34_2).f4), .int .i64 ((rd_T23 l0 x34_2).f5), .bool ((rd_T23 l0 x34_2).f6), .int .i64 ((rd_T23 l0 x34_2).f7)], .agg #[.int .i64 ((rd_T23 l0 x28_1).f0), .int .i64 ((rd_T23 l0 x28_1).f1), .int .i64 ((rd_T23 l0 x28_1).f2), .int .i64 ((rd_T23 l0 x28_1).f3), .int .i64 ((rd_T23 l0 x28_1).f4), .int .i64 ((rd_T23 l0 x28_1).f5), .bool ((rd_T23 l0 x28_1).f6), .int .i64 ((rd_T23 l0 x28_1).f7)], .agg #[.int .i64 a1_0, .int .i64 a1_1, .int .i64 a1_2]] (by rfl) rfl rfl (by (try simp only [List.map_toArray, List.map_cons, List.map_nil]); first | done | rfl | (simp only [List.length_drop, List.length_take]; rfl)) ?_
               with_reducible refine (thread_form_isAlike.calls ((rd_T23 l0 x34_2).f0) ((rd_T23 l0 x34_2).f1) ((rd_T23 l0 x34_2).f2) ((rd_T23 l0 x34_2).f3) ((rd_T23 l0 x34_2).f4) ((rd_T23 l0 x34_2).f5) ((rd_T23 l0 x34_2).f6) ((rd_T23 l0 x34_2).f7) ((rd_T23 l0 x28_1).f0) ((rd_T23 l0 x28_1).f1) ((rd_T23 l0 x28_1).f2) ((rd_T23 l0 x28_1).f3) ((rd_T23 l0 x28_1).f4) ((rd_T23 l0 x28_1).f5) ((rd_T23 l0 x28_1).f6) ((rd_T23 l0 x28_1).f7) a1_0 a1_1 a1_2 true _ A23.out).mono ?_
               rintro e w27 ⟨rfl, hb⟩
               refine ⟨_, rfl, ?_⟩
               have n0_ := Aside0.mk (Kd.R_below (by (with_reducible repeat (first | apply Kd.R_alloc | apply Kd.R_drewN | apply Kd.R_drew)); exact HO_4.out) hb)
               have n1_ := Aside0.mk (blk_below (g := gb315) (o := .cells #[.int .i64 a1_0, .int .i64 a1_1, .int .i64 a1_2] 55 (0, 0)) (by repeat (first | (with_reducible first | exact BK315.out | refine blk_drewN ?_ _ | refine blk_drew ?_ | refine blk_alloc ?_ _) | exact BK315.out)) hb)
               have n2_ := Aside0.mk (blk_below (g := gb322) (o := .cells #[.int .i64 ((rd_T23 l0 x28_1).f0), .int .i64 ((rd_T23 l0 x28_1).f1), .int .i64 ((rd_T23 l0 x28_1).f2), .int .i64 ((rd_T23 l0 x28_1).f3), .int .i64 ((rd_T23 l0 x28_1).f4), .int .i64 ((rd_T23 l0 x28_1).f5), .bool ((rd_T23 l0 x28_1).f6), .int .i64 ((rd_T23 l0 x28_1).f7)] 23 (0, 0)) (by repeat (first | (with_reducible first | exact BK322.out | refine blk_drewN ?_ _ | refine blk_drew ?_ | refine blk_alloc ?_ _) | exact BK322.out)) hb)
               have n3_ := Aside0.mk (below_step (by repeat (first | (with_reducible first | exact HB.out | apply below_alloc | apply pw_below_drewN | apply below_drew1 | refine below_set ?_ (Aside0.out (by assumption))) | exact HB.out)) hb)
               clear HO_4
               clear BK315
               clear BK322
               clear HB
               have HO_4 := n0_
               have BK315 := n1_
               have BK322 := n2_
               have HB := n3_
               clear n0_ n1_ n2_ n3_
               (try clear hb)
               (try clear hb2)
               (try clear hk)
               (try clear hi)
               refine hK.out _ _ ⟨(blk_cell BK322.out 0).trans rfl, (blk_cell BK322.out 1).trans rfl, (blk_cell BK322.out 2).trans rfl, (blk_cell BK322.out 3).trans rfl, (blk_cell BK322.out 4).trans rfl, (blk_cell BK322.out 5).trans rfl, (blk_cell BK322.out 6).trans rfl, (blk_cell BK322.out 7).trans rfl, (blk_cell BK315.out 0).trans rfl, (blk_cell BK315.out 1).trans rfl, (blk_cell BK315.out 2).trans rfl, ((HB.out.cell (World.block_lt_of_cell? w _ hw323_0)).trans hw323_0), ((HB.out.cell (World.block_lt_of_cell? w _ hw323_1)).trans hw323_1), ((HB.out.cell (World.block_lt_of_cell? w _ hw323_2)).trans hw323_2), ((HB.out.cell (World.block_lt_of_cell? w _ hw323_3)).trans hw323_3), ((HB.out.cell (World.block_lt_of_cell? w _ hw323_4)).trans hw323_4), ((HB.out.cell (World.block_lt_of_cell? w _ hw323_5)).trans hw323_5), ((HB.out.cell (World.block_lt_of_cell? w _ hw323_6)).trans hw323_6), ((HB.out.cell (World.block_lt_of_cell? w _ hw323_7)).trans hw323_7)⟩ (fun hHeld => ?_)
               clear hK K
               refine norm_ (a' := ?_) ?_ ?_
               rotate_left
               ·show Act.put _ (some 44) _ = _
                simp only [Act.put, List.setIfInBounds_toArray, List.set_cons_zero, List.set_cons_succ, i64_w, i32_w]
                rfl
               refine done_ (done_of HT_.out (by kernel_rfl)) ?_
               try go_wp2_with (first | ((with_reducible refine gate_builtin (b := .append) (xs := #[.tmp 45, .tmp 49]) rfl ?_); at_builtin; refine Kd.R_append k67 (w0 := w) w.heap.size rfl (.tmp 45) (.tmp 49) 59 67 (.agg #[(.int .i64 0), (.int .i64 0)]) 16 rfl Try.underlying59 info67 rfl (by decide) (by omega) u4 x4_2 (⟨x34_2, x28_1⟩ : S67) [.int .i64 x34_2, .int .i64 x28_1] (fun _ => True) (fun _ => False) rfl rfl ?aP (fun _ hk => hk.elim) ?aF ?aO ?aB ?aS ?aL ?_; (case aP => exact k67_mkM _ _ _ (⟨x34_2, x28_1⟩ : S67)); (case aB => exact (by repeat (first | (with_reducible first | exact HB.out | apply below_alloc | apply pw_below_drewN | apply below_drew1 | refine below_set ?_ (Aside0.out (by assumption))) | exact HB.out))); (case aF => exact (fun _ _ => trivial)); (case aO => exact (by (with_reducible repeat (first | apply Kd.R_alloc | apply Kd.R_drewN | apply Kd.R_drew)); exact HO_4.out)); (case aS => exact (below_size (by repeat (first | (with_reducible first | exact HB.out | apply below_alloc | apply pw_below_drewN | apply below_drew1 | refine below_set ?_ (Aside0.out (by assumption))) | exact HB.out)))); (case aL => have := LMc25.out; omega); intro v326 w28 ho hb hg hat; rw [← Ny325.out] at ho; replace BK315 := Aside0.mk (blk_grown (g := gb315) (o := .cells #[.int .i64 a1_0, .int .i64 a1_1, .int .i64 a1_2] 55 (0, 0)) (by repeat (first | (with_reducible first | exact BK315.out | refine blk_drewN ?_ _ | refine blk_drew ?_ | refine blk_alloc ?_ _) | exact BK315.out)) hg (Kd.R_ne HO_4.out BK315.out (by decide))); replace BK322 := Aside0.mk (blk_grown (g := gb322) (o := .cells #[.int .i64 ((rd_T23 l0 x28_1).f0), .int .i64 ((rd_T23 l0 x28_1).f1), .int .i64 ((rd_T23 l0 x28_1).f2), .int .i64 ((rd_T23 l0 x28_1).f3), .int .i64 ((rd_T23 l0 x28_1).f4), .int .i64 ((rd_T23 l0 x28_1).f5), .bool ((rd_T23 l0 x28_1).f6), .int .i64 ((rd_T23 l0 x28_1).f7)] 23 (0, 0)) (by repeat (first | (with_reducible first | exact BK322.out | refine blk_drewN ?_ _ | refine blk_drew ?_ | refine blk_alloc ?_ _) | exact BK322.out)) hg (Kd.R_ne HO_4.out BK322.out (by decide))); replace HB := Aside0.mk (hb); have HO327 := Aside0.mk (ho); clear HO_4; clear ho hb hg hat))
               go_roundg k2
               case measure => have := HK1.out; have := HK2.out; omega
               case rel => exact ⟨(y325), (wrap64 (x34_2 + 1)), (by first | rfl | (simp; done) | (simp [*]; done)), H', ⟨by have := HK1.out; have := HK2.out; omega⟩, ⟨by (with_reducible repeat (first | apply Kd.R_alloc | apply Kd.R_drewN | apply Kd.R_drew)); exact HO327.out⟩, BK315, BK322, ⟨by repeat (first | (with_reducible first | exact HB.out | apply below_alloc | apply pw_below_drewN | apply below_drew1 | refine below_set ?_ (Aside0.out (by assumption))) | exact HB.out)⟩⟩
              ·rw [if_neg c25] at H
               exact absurd H (by simp)
             ·replace c24 := Bool.eq_false_iff.mpr c24
              subst c24
              have H1 : (thread_Alike.l1 k2 l0 x4_2 x28_1 l0 (l0.length : Int) x28_1 x28_1 (wrap64 (x34_2 + 1)) a1_0 a1_1 a1_2 ((rd_T23 l0 x28_1).f0) ((rd_T23 l0 x28_1).f1) ((rd_T23 l0 x28_1).f2) ((rd_T23 l0 x28_1).f3) ((rd_T23 l0 x28_1).f4) ((rd_T23 l0 x28_1).f5) ((rd_T23 l0 x28_1).f6) ((rd_T23 l0 x28_1).f7)) = some (r1, r2) := by rw [if_neg (show ¬ (false = true) by decide)] at H; exact H
              clear H
              have H := H1
              clear H1
              have H' := Aside0.mk H
              clear H
              try go_wp2
              have n0_ := Aside0.mk (Kd.R_drew HO_4.out)
              have n1_ := Aside0.mk (blk_drew BK315.out)
              have n2_ := Aside0.mk (blk_drew BK322.out)
              have n3_ := Aside0.mk (below_drew1 HB.out)
              clear HO_4
              clear BK315
              clear BK322
              clear HB
              have HO_4 := n0_
              have BK315 := n1_
              have BK322 := n2_
              have HB := n3_
              clear n0_ n1_ n2_ n3_
              have p323 : 0 ≤ (x34_2 : Int) := of_decide_eq_true (by first | (with_reducible assumption) | assumption)
              have q323 : x34_2 < (l0.length : Int) := of_decide_eq_true (by first | (with_reducible assumption) | assumption)
              obtain ⟨ad323, e323, hx323_0, hx323_1, hx323_2, hx323_3, hx323_4, hx323_5, hx323_6, hx323_7⟩ := at_T23 HR0.out x34_2 p323 q323
              have hw323_7 := hx323_7
              have hw323_6 := hx323_6
              have hw323_5 := hx323_5
              have hw323_4 := hx323_4
              have hw323_3 := hx323_3
              have hw323_2 := hx323_2
              have hw323_1 := hx323_1
              have hw323_0 := hx323_0
              obtain rfl : ad321 = ad323 := (by injection e323)
              replace hx323_0 := (HB.out.cell (World.block_lt_of_cell? w _ hx323_0)).trans hx323_0
              replace hx323_1 := (HB.out.cell (World.block_lt_of_cell? w _ hx323_1)).trans hx323_1
              replace hx323_2 := (HB.out.cell (World.block_lt_of_cell? w _ hx323_2)).trans hx323_2
              replace hx323_3 := (HB.out.cell (World.block_lt_of_cell? w _ hx323_3)).trans hx323_3
              replace hx323_4 := (HB.out.cell (World.block_lt_of_cell? w _ hx323_4)).trans hx323_4
              replace hx323_5 := (HB.out.cell (World.block_lt_of_cell? w _ hx323_5)).trans hx323_5
              replace hx323_6 := (HB.out.cell (World.block_lt_of_cell? w _ hx323_6)).trans hx323_6
              replace hx323_7 := (HB.out.cell (World.block_lt_of_cell? w _ hx323_7)).trans hx323_7
              replace p323 := eq_true p323
              replace q323 := eq_true q323
              refine start_ (n := 8) (S := fun w' => w'.cell? ⟨gb322, 0, none⟩ = some (.int .i64 ((rd_T23 l0 x28_1).f0)) ∧ w'.cell? ⟨gb322, 1, none⟩ = some (.int .i64 ((rd_T23 l0 x28_1).f1)) ∧ w'.cell? ⟨gb322, 2, none⟩ = some (.int .i64 ((rd_T23 l0 x28_1).f2)) ∧ w'.cell? ⟨gb322, 3, none⟩ = some (.int .i64 ((rd_T23 l0 x28_1).f3)) ∧ w'.cell? ⟨gb322, 4, none⟩ = some (.int .i64 ((rd_T23 l0 x28_1).f4)) ∧ w'.cell? ⟨gb322, 5, none⟩ = some (.int .i64 ((rd_T23 l0 x28_1).f5)) ∧ w'.cell? ⟨gb322, 6, none⟩ = some (.bool ((rd_T23 l0 x28_1).f6)) ∧ w'.cell? ⟨gb322, 7, none⟩ = some (.int .i64 ((rd_T23 l0 x28_1).f7)) ∧ w'.cell? ⟨gb315, 0, none⟩ = some (.int .i64 a1_0) ∧ w'.cell? ⟨gb315, 1, none⟩ = some (.int .i64 a1_1) ∧ w'.cell? ⟨gb315, 2, none⟩ = some (.int .i64 a1_2) ∧ w'.cell? (ad321.add ((x34_2).toNat * 8)) = some (.int .i64 ((rd_T23 l0 x34_2).f0)) ∧ w'.cell? ⟨(ad321.add ((x34_2).toNat * 8)).block, (ad321.add ((x34_2).toNat * 8)).off + 1, none⟩ = some (.int .i64 ((rd_T23 l0 x34_2).f1)) ∧ w'.cell? ⟨(ad321.add ((x34_2).toNat * 8)).block, (ad321.add ((x34_2).toNat * 8)).off + 2, none⟩ = some (.int .i64 ((rd_T23 l0 x34_2).f2)) ∧ w'.cell? ⟨(ad321.add ((x34_2).toNat * 8)).block, (ad321.add ((x34_2).toNat * 8)).off + 3, none⟩ = some (.int .i64 ((rd_T23 l0 x34_2).f3)) ∧ w'.cell? ⟨(ad321.add ((x34_2).toNat * 8)).block, (ad321.add ((x34_2).toNat * 8)).off + 4, none⟩ = some (.int .i64 ((rd_T23 l0 x34_2).f4)) ∧ w'.cell? ⟨(ad321.add ((x34_2).toNat * 8)).block, (ad321.add ((x34_2).toNat * 8)).off + 5, none⟩ = some (.int .i64 ((rd_T23 l0 x34_2).f5)) ∧ w'.cell? ⟨(ad321.add ((x34_2).toNat * 8)).block, (ad321.add ((x34_2).toNat * 8)).off + 6, none⟩ = some (.bool ((rd_T23 l0 x34_2).f6)) ∧ w'.cell? ⟨(ad321.add ((x34_2).toNat * 8)).block, (ad321.add ((x34_2).toNat * 8)).off + 7, none⟩ = some (.int .i64 ((rd_T23 l0 x34_2).f7))) (ds := []) #[false, false, false, false, false, false, false, false] (by kernel_rfl) rfl rfl ⟨(blk_cell BK322.out 0).trans rfl, (blk_cell BK322.out 1).trans rfl, (blk_cell BK322.out 2).trans rfl, (blk_cell BK322.out 3).trans rfl, (blk_cell BK322.out 4).trans rfl, (blk_cell BK322.out 5).trans rfl, (blk_cell BK322.out 6).trans rfl, (blk_cell BK322.out 7).trans rfl, (blk_cell BK315.out 0).trans rfl, (blk_cell BK315.out 1).trans rfl, (blk_cell BK315.out 2).trans rfl, ((HB.out.cell (World.block_lt_of_cell? w _ hw323_0)).trans hw323_0), ((HB.out.cell (World.block_lt_of_cell? w _ hw323_1)).trans hw323_1), ((HB.out.cell (World.block_lt_of_cell? w _ hw323_2)).trans hw323_2), ((HB.out.cell (World.block_lt_of_cell? w _ hw323_3)).trans hw323_3), ((HB.out.cell (World.block_lt_of_cell? w _ hw323_4)).trans hw323_4), ((HB.out.cell (World.block_lt_of_cell? w _ hw323_5)).trans hw323_5), ((HB.out.cell (World.block_lt_of_cell? w _ hw323_6)).trans hw323_6), ((HB.out.cell (World.block_lt_of_cell? w _ hw323_7)).trans hw323_7)⟩ (fun hHeld => ?_); refine with_tabW thread_Alike.tab12 thread_Alike.bits12 (fun HT_ HW_ => ?_)
              generalize wr.drew = w29 at HO_4 BK315 BK322 HB hx323_0 hx323_1 hx323_2 hx323_3 hx323_4 hx323_5 hx323_6 hx323_7 hHeld ⊢
              refine pure_ (i := 0) (N := some 37) (v := ?_) (a' := ?_) #[true, false, false, false, false, false, false, false] rfl rfl (any_of HT_.out (by kernel_rfl)) (fun _ _ _ h => h) (Or.inl ⟨by rfl, ?_⟩) ?_ ?_
              rotate_left
              ·intro w'
               go_simp
               with_reducible rfl
              rotate_left
              ·simp only [Act.put, List.setIfInBounds_toArray, List.set_cons_zero, List.set_cons_succ, i64_w, i32_w]
               rfl
              refine pure_ (i := 1) (N := some 38) (v := ?_) (a' := ?_) #[true, true, false, false, false, false, false, false] rfl rfl (any_of HT_.out (by kernel_rfl)) (fun _ _ _ h => h) (Or.inl ⟨by rfl, ?_⟩) ?_ ?_
              rotate_left
              ·intro w'
               go_simp
               with_reducible rfl
              rotate_left
              ·simp only [Act.put, List.setIfInBounds_toArray, List.set_cons_zero, List.set_cons_succ, i64_w, i32_w]
               rfl
              refine pure_ (i := 2) (N := some 39) (v := ?_) (a' := ?_) #[true, true, true, false, false, false, false, false] rfl rfl (any_of HT_.out (by kernel_rfl)) (fun _ _ _ h => h) (Or.inl ⟨by rfl, ?_⟩) ?_ ?_
              rotate_left
              ·intro w'
               go_simp
               with_reducible rfl
              rotate_left
              ·simp only [Act.put, List.setIfInBounds_toArray, List.set_cons_zero, List.set_cons_succ, i64_w, i32_w]
               rfl
              refine take_ (i := 3) (N := some 40) (v := ?_) (a' := ?_) #[true, true, true, true, false, false, false, false] rfl rfl (take_ofW HT_.out HW_.out (by kernel_rfl)) (fun _ _ _ h => h) (Or.inl ⟨by rfl, ?_⟩) hHeld ?_ ?_
              rotate_left
              ·rintro w' ⟨s0, s1, s2, s3, s4, s5, s6, s7, s8, s9, s10, s11, s12, s13, s14, s15, s16, s17, s18⟩
               go_simp
               with_reducible rfl
              rotate_left
              ·simp only [Act.put, List.setIfInBounds_toArray, List.set_cons_zero, List.set_cons_succ, i64_w, i32_w]
               rfl
              refine pure_ (i := 4) (N := some 41) (v := ?_) (a' := ?_) #[true, true, true, true, true, false, false, false] rfl rfl (any_of HT_.out (by kernel_rfl)) (fun _ _ _ h => h) (Or.inl ⟨by rfl, ?_⟩) ?_ ?_
              rotate_left
              ·intro w'
               go_simp
               with_reducible rfl
              rotate_left
              ·simp only [Act.put, List.setIfInBounds_toArray, List.set_cons_zero, List.set_cons_succ, i64_w, i32_w]
               rfl
              refine take_ (i := 5) (N := some 42) (v := ?_) (a' := ?_) #[true, true, true, true, true, true, false, false] rfl rfl (take_ofW HT_.out HW_.out (by kernel_rfl)) (fun _ _ _ h => h) (Or.inl ⟨by rfl, ?_⟩) hHeld ?_ ?_
              rotate_left
              ·rintro w' ⟨s0, s1, s2, s3, s4, s5, s6, s7, s8, s9, s10, s11, s12, s13, s14, s15, s16, s17, s18⟩
               go_simp
               with_reducible rfl
              rotate_left
              ·simp only [Act.put, List.setIfInBounds_toArray, List.set_cons_zero, List.set_cons_succ, i64_w, i32_w]
               rfl
              refine take_ (i := 6) (N := some 43) (v := ?_) (a' := ?_) #[true, true, true, true, true, true, true, false] rfl rfl (take_ofW HT_.out HW_.out (by kernel_rfl)) (fun _ _ _ h => h) (Or.inl ⟨by rfl, ?_⟩) hHeld ?_ ?_
              rotate_left
              ·rintro w' ⟨s0, s1, s2, s3, s4, s5, s6, s7, s8, s9, s10, s11, s12, s13, s14, s15, s16, s17, s18⟩
               go_simp
               with_reducible rfl
              rotate_left
              ·simp only [Act.put, List.setIfInBounds_toArray, List.set_cons_zero, List.set_cons_succ, i64_w, i32_w]
               rfl
              refine one_ (i := 7) (N := some 44) #[true, true, true, true, true, true, true, true] rfl rfl (one_of HT_.out (by kernel_rfl)) (by decide) (fun K hK => ?_)
              refine goes_ Try.func59 (by kernel_rfl) rfl #[.agg #[.int .i64 ((rd_T23 l0 x34_2).f0), .int .i64 ((rd_T23 l0 x34_2).f1), .int .i64 ((rd_T23 l0 x34_2).f2), .int .i64 ((rd_T23 l0 x34_2).f3), .int .i64 ((rd_T23 l0 x34_2).f4), .int .i64 ((rd_T23 l0 x34_2).f5), .bool ((rd_T23 l0 x34_2).f6), .int .i64 ((rd_T23 l0 x34_2).f7)], .agg #[.int .i64 ((rd_T23 l0 x28_1).f0), .int .i64 ((rd_T23 l0 x28_1).f1), .int .i64 ((rd_T23 l0 x28_1).f2), .int .i64 ((rd_T23 l0 x28_1).f3), .int .i64 ((rd_T23 l0 x28_1).f4), .int .i64 ((rd_T23 l0 x28_1).f5), .bool ((rd_T23 l0 x28_1).f6), .int .i64 ((rd_T23 l0 x28_1).f7)], .agg #[.int .i64 a1_0, .int .i64 a1_1, .int .i64 a1_2]] (by rfl) rfl rfl (by (try simp only [List.map_toArray, List.map_cons, List.map_nil]); first | done | rfl | (simp only [List.length_drop, List.length_take]; rfl)) ?_
              with_reducible refine (thread_form_isAlike.calls ((rd_T23 l0 x34_2).f0) ((rd_T23 l0 x34_2).f1) ((rd_T23 l0 x34_2).f2) ((rd_T23 l0 x34_2).f3) ((rd_T23 l0 x34_2).f4) ((rd_T23 l0 x34_2).f5) ((rd_T23 l0 x34_2).f6) ((rd_T23 l0 x34_2).f7) ((rd_T23 l0 x28_1).f0) ((rd_T23 l0 x28_1).f1) ((rd_T23 l0 x28_1).f2) ((rd_T23 l0 x28_1).f3) ((rd_T23 l0 x28_1).f4) ((rd_T23 l0 x28_1).f5) ((rd_T23 l0 x28_1).f6) ((rd_T23 l0 x28_1).f7) a1_0 a1_1 a1_2 false _ A23.out).mono ?_
              rintro e w30 ⟨rfl, hb⟩
              refine ⟨_, rfl, ?_⟩
              have n0_ := Aside0.mk (Kd.R_below (by (with_reducible repeat (first | apply Kd.R_alloc | apply Kd.R_drewN | apply Kd.R_drew)); exact HO_4.out) hb)
              have n1_ := Aside0.mk (blk_below (g := gb315) (o := .cells #[.int .i64 a1_0, .int .i64 a1_1, .int .i64 a1_2] 55 (0, 0)) (by repeat (first | (with_reducible first | exact BK315.out | refine blk_drewN ?_ _ | refine blk_drew ?_ | refine blk_alloc ?_ _) | exact BK315.out)) hb)
              have n2_ := Aside0.mk (blk_below (g := gb322) (o := .cells #[.int .i64 ((rd_T23 l0 x28_1).f0), .int .i64 ((rd_T23 l0 x28_1).f1), .int .i64 ((rd_T23 l0 x28_1).f2), .int .i64 ((rd_T23 l0 x28_1).f3), .int .i64 ((rd_T23 l0 x28_1).f4), .int .i64 ((rd_T23 l0 x28_1).f5), .bool ((rd_T23 l0 x28_1).f6), .int .i64 ((rd_T23 l0 x28_1).f7)] 23 (0, 0)) (by repeat (first | (with_reducible first | exact BK322.out | refine blk_drewN ?_ _ | refine blk_drew ?_ | refine blk_alloc ?_ _) | exact BK322.out)) hb)
              have n3_ := Aside0.mk (below_step (by repeat (first | (with_reducible first | exact HB.out | apply below_alloc | apply pw_below_drewN | apply below_drew1 | refine below_set ?_ (Aside0.out (by assumption))) | exact HB.out)) hb)
              clear HO_4
              clear BK315
              clear BK322
              clear HB
              have HO_4 := n0_
              have BK315 := n1_
              have BK322 := n2_
              have HB := n3_
              clear n0_ n1_ n2_ n3_
              (try clear hb)
              (try clear hb2)
              (try clear hk)
              (try clear hi)
              refine hK.out _ _ ⟨(blk_cell BK322.out 0).trans rfl, (blk_cell BK322.out 1).trans rfl, (blk_cell BK322.out 2).trans rfl, (blk_cell BK322.out 3).trans rfl, (blk_cell BK322.out 4).trans rfl, (blk_cell BK322.out 5).trans rfl, (blk_cell BK322.out 6).trans rfl, (blk_cell BK322.out 7).trans rfl, (blk_cell BK315.out 0).trans rfl, (blk_cell BK315.out 1).trans rfl, (blk_cell BK315.out 2).trans rfl, ((HB.out.cell (World.block_lt_of_cell? w _ hw323_0)).trans hw323_0), ((HB.out.cell (World.block_lt_of_cell? w _ hw323_1)).trans hw323_1), ((HB.out.cell (World.block_lt_of_cell? w _ hw323_2)).trans hw323_2), ((HB.out.cell (World.block_lt_of_cell? w _ hw323_3)).trans hw323_3), ((HB.out.cell (World.block_lt_of_cell? w _ hw323_4)).trans hw323_4), ((HB.out.cell (World.block_lt_of_cell? w _ hw323_5)).trans hw323_5), ((HB.out.cell (World.block_lt_of_cell? w _ hw323_6)).trans hw323_6), ((HB.out.cell (World.block_lt_of_cell? w _ hw323_7)).trans hw323_7)⟩ (fun hHeld => ?_)
              clear hK K
              refine norm_ (a' := ?_) ?_ ?_
              rotate_left
              ·show Act.put _ (some 44) _ = _
               simp only [Act.put, List.setIfInBounds_toArray, List.set_cons_zero, List.set_cons_succ, i64_w, i32_w]
               rfl
              refine done_ (done_of HT_.out (by kernel_rfl)) ?_
              try go_wp2
              go_roundg k2
              case measure => have := HK1.out; have := HK2.out; omega
              case rel => exact ⟨(x4_2), (wrap64 (x34_2 + 1)), (by first | rfl | (simp; done) | (simp [*]; done)), H', ⟨by have := HK1.out; have := HK2.out; omega⟩, ⟨by (with_reducible repeat (first | apply Kd.R_alloc | apply Kd.R_drewN | apply Kd.R_drew)); exact HO_4.out⟩, BK315, BK322, ⟨by repeat (first | (with_reducible first | exact HB.out | apply below_alloc | apply pw_below_drewN | apply below_drew1 | refine below_set ?_ (Aside0.out (by assumption))) | exact HB.out)⟩⟩
            ·rw [if_neg c22] at H
             exact absurd H (by simp)
           ·rw [if_neg c21] at H
            exact absurd H (by simp)
          ·rw [if_neg c20] at H
           have c20b0 : decide (x34_2 < x28_1) = false := decide_eq_false c20
           clear c20
           have H' := Aside0.mk H
           clear H
           go_wp2
           go_roundg k2
           case measure => have := HK1.out; have := HK2.out; omega
           case rel => exact ⟨(x4_2), (wrap64 (x28_1 + 1)), (by first | rfl | (simp; done) | (simp [*]; done)), H', ⟨by have := HK1.out; have := HK2.out; omega⟩, ⟨by (with_reducible repeat (first | apply Kd.R_alloc | apply Kd.R_drewN | apply Kd.R_drew)); exact HO_4.out⟩, BK315, ⟨by repeat (first | (with_reducible first | exact HB.out | apply below_alloc | apply pw_below_drewN | apply below_drew1 | refine below_set ?_ (Aside0.out (by assumption))) | exact HB.out)⟩⟩
       ·rw [if_neg c16] at H
        exact absurd H (by simp)
      ·rw [if_neg c15] at H
       exact absurd H (by simp)
     ·rw [if_neg c14] at H
      have c14b0 : decide (x28_1 < (l0.length : Int)) = false := decide_eq_false c14
      clear c14
      replace H := Option.bind_eq_some_iff.mp H
      obtain ⟨y_, A90, H⟩ := H
      have A9 := Aside0.mk A90
      clear A90
      simp only [Option.some.injEq, Prod.mk.injEq] at H
      obtain ⟨rfl, rfl⟩ := H
      go_wp2_with (go_at_call 60; refine (sort67.calls x4_1 y_ _ (by (with_reducible repeat (first | apply Kd.R_alloc | apply Kd.R_drewN | apply Kd.R_drew)); exact HO_4.out) A9.out).mono ?_; rintro e w99 ⟨rfl, hr9, hb9⟩; have HO9 := Aside0.mk hr9; have HB9 := Aside0.mk (Below.trans (by repeat (first | (with_reducible first | exact HB.out | apply below_alloc | apply pw_below_drewN | apply below_drew1 | refine below_set ?_ (Aside0.out (by assumption))) | exact HB.out)) hb9); clear hr9 hb9)
      go_ret2
      exact ⟨_, by first | rfl | (simp [errW_none, errW_some] <;> rfl) | (simp [*, errW_none, errW_some] <;> rfl), by (with_reducible repeat (first | apply Kd.R_alloc | apply Kd.R_drewN | apply Kd.R_drew)); exact HO9.out, by repeat (first | (with_reducible first | exact HB9.out | apply below_alloc | apply pw_below_drewN | apply below_drew1 | refine below_set ?_ (Aside0.out (by assumption))) | exact HB9.out)⟩
  ·replace c6 := Bool.eq_false_iff.mpr c6
   subst c6
   have H1 : (some (([] : List (S67)), 3)) = some (r1, r2) := by rw [if_neg (show ¬ (false = true) by decide)] at H; exact H
   clear H
   have H := H1
   clear H1
   simp only [Option.some.injEq, Prod.mk.injEq] at H
   obtain ⟨rfl, rfl⟩ := H
   go_enter Try.func31, Try.ntmps31
   go_wp2_with (first | ((with_reducible refine gate_dst (N := 3) rfl ?_); refine box_event ?hg (N := 3) ?hd (cs := #[.int .i64 a1_0, .int .i64 a1_1, .int .i64 a1_2]) (t := 55) ?hr ?_; (case hd => rfl); (case hg => rfl); (case hr => first | (go_simp; done) | (go_simp; rfl)); intro gb315 hg w31 hbox hb; have BK315 := Aside0.mk (hbox); have GW315 := Aside0.mk ((by rw [hg]; exact (below_size HB.out) : w.heap.size ≤ gb315)); have GE315 := GW315; replace HB := Aside0.mk (below_step HB.out hb); clear hb hbox hg) | ((with_reducible refine gate_callee (f := 56) rfl ?_); refine goesL_ (some 11) rfl rfl Try.func56 (by kernel_rfl) rfl #[.slice A0 l0.length c0] rfl (by (try simp only [List.map_toArray, List.map_cons, List.map_nil]); first | done | rfl | (simp only [List.length_drop, List.length_take]; rfl)) ?_; (with_reducible refine (thread_checkTable.calls k _ _ l0 t316 _ ?side1 ?side2 A3.out).mono ?_); (case side1 => repeat (first | exact (Kd.C_below HR0.out HB.out) | (with_reducible refine Kd.C_alloc ?_ _) | (with_reducible refine Kd.C_drewN ?_ _) | (with_reducible refine Kd.C_drew ?_))); (case side2 => exact HC0.out); rintro e w32 ⟨rfl, hb⟩; refine ⟨_, rfl, ?_⟩; replace BK315 := Aside0.mk (blk_below (g := gb315) (o := .cells #[.int .i64 a1_0, .int .i64 a1_1, .int .i64 a1_2] 55 (0, 0)) (by repeat (first | (with_reducible first | exact BK315.out | refine blk_drewN ?_ _ | refine blk_drew ?_ | refine blk_alloc ?_ _) | exact BK315.out)) hb); replace HB := Aside0.mk (below_step (by repeat (first | (with_reducible first | exact HB.out | apply below_alloc | apply pw_below_drewN | apply below_drew1 | refine below_set ?_ (Aside0.out (by assumption))) | exact HB.out)) hb); (try clear hb); (try clear hb2); (try clear hk); (try clear hi); obtain ⟨hcz33_0, hcz33_1, hcz33_2⟩ := bc3 BK315.out; obtain ⟨hfz33_0, hfz33_1, hfz33_2⟩ := bf3 BK315.out) | ((with_reducible refine gate_dst (N := 23) rfl ?_); refine Kd.R_lit (Kd.int .i64) _ 3 ?hg (N := 23) ?hd (xs := ([a1_0, a1_1, a1_2] : List Int)) (inner := [.int .i64 a1_0, .int .i64 a1_1, .int .i64 a1_2]) (ok := fun _ => True) (okp := fun _ => True) ?hr ?hp (fun _ hk => hk) trivial (Below.refl _ _) (Nat.le_refl _) (by simp) ?_; (case hd => rfl); (case hg => rfl); (case hr => first | (go_simp; done) | (go_simp; rfl)); (case hp => exact (Reps.one (show Kd.M (Kd.int .i64) _ _ _ a1_0 [.int .i64 a1_0] from rfl) (Reps.one (show Kd.M (Kd.int .i64) _ _ _ a1_1 [.int .i64 a1_1] from rfl) (Reps.one (show Kd.M (Kd.int .i64) _ _ _ a1_2 [.int .i64 a1_2] from rfl) (Reps.none _ _))))); intro v318 w34 ho35 hb hg_ hnew_; clear hg_ hnew_; (first | rw [← Ny317.out] at ho35 | (simp only [Int.reduceToNat] at ho35; rw [← Ny317.out] at ho35)); have HO319 := Aside0.mk (Kd.R_lower ho35 (below_size (by repeat (first | (with_reducible first | exact HB.out | apply below_alloc | apply pw_below_drewN | apply below_drew1 | refine below_set ?_ (Aside0.out (by assumption))) | exact HB.out)))); replace BK315 := Aside0.mk (blk_below (g := gb315) (o := .cells #[.int .i64 a1_0, .int .i64 a1_1, .int .i64 a1_2] 55 (0, 0)) (by repeat (first | (with_reducible first | exact BK315.out | refine blk_drewN ?_ _ | refine blk_drew ?_ | refine blk_alloc ?_ _) | exact BK315.out)) hb); replace HB := Aside0.mk (below_step (by repeat (first | (with_reducible first | exact HB.out | apply below_alloc | apply pw_below_drewN | apply below_drew1 | refine below_set ?_ (Aside0.out (by assumption))) | exact HB.out)) hb); clear hb ho35; obtain ⟨Ao36, co36, eo36⟩ := Kd.R_slice HO319.out; subst eo36) | ((with_reducible refine gate_callee (f := 43) rfl ?_); refine goesL_ (some 24) rfl rfl Try.func43 (by kernel_rfl) rfl #[.int .i64 0, .int .i64 10000000, .slice Ao36 y317.length co36] rfl (by (try simp only [List.map_toArray, List.map_cons, List.map_nil]); first | done | rfl | (simp only [List.length_drop, List.length_take]; rfl)) ?_; (with_reducible refine (thread_within.calls 0 10000000 _ _ y317 false _ ?side1 ?side2 A5.out).mono ?_); (case side1 => repeat (first | exact (Kd.R_reads' HO319.out).2.2 | (with_reducible refine Kd.C_alloc ?_ _) | (with_reducible refine Kd.C_drewN ?_ _) | (with_reducible refine Kd.C_drew ?_))); (case side2 => exact (Kd.R_reads' HO319.out).2.1); rintro e w37 ⟨rfl, hb⟩; refine ⟨_, rfl, ?_⟩; replace HO319 := Aside0.mk (Kd.R_below (by (with_reducible repeat (first | apply Kd.R_alloc | apply Kd.R_drewN | apply Kd.R_drew)); exact HO319.out) hb); replace BK315 := Aside0.mk (blk_below (g := gb315) (o := .cells #[.int .i64 a1_0, .int .i64 a1_1, .int .i64 a1_2] 55 (0, 0)) (by repeat (first | (with_reducible first | exact BK315.out | refine blk_drewN ?_ _ | refine blk_drew ?_ | refine blk_alloc ?_ _) | exact BK315.out)) hb); replace HB := Aside0.mk (below_step (by repeat (first | (with_reducible first | exact HB.out | apply below_alloc | apply pw_below_drewN | apply below_drew1 | refine below_set ?_ (Aside0.out (by assumption))) | exact HB.out)) hb); (try clear hb); (try clear hb2); (try clear hk); (try clear hi)))
   go_ret2
   exact ⟨_, by first | rfl | (simp [errW_none, errW_some] <;> rfl) | (simp [*, errW_none, errW_some] <;> rfl), by first | exact Kd.R_nil _ _ _ _ _ | exact Kd.N_nil _ _ _ _ _ | exact Kd.V_nil _ _ _ _ _ | exact Kd.Q_nil _ _ _ _ _ | exact Kd.S_nil _ _ _ _ _, by repeat (first | (with_reducible first | exact HB.out | apply below_alloc | apply pw_below_drewN | apply below_drew1 | refine below_set ?_ (Aside0.out (by assumption))) | exact HB.out)⟩
 ·rw [if_neg c4] at H
  have c4b0 : (t316 == 0) = false := beq_eq_false_iff_ne.mpr c4
  have c4b1 : (t316 != 0) = true := bne_iff_ne.mpr c4
  simp only [Option.some.injEq, Prod.mk.injEq] at H
  obtain ⟨rfl, rfl⟩ := H
  go_enter Try.func31, Try.ntmps31
  go_wp2_with (first | ((with_reducible refine gate_dst (N := 3) rfl ?_); refine box_event ?hg (N := 3) ?hd (cs := #[.int .i64 a1_0, .int .i64 a1_1, .int .i64 a1_2]) (t := 55) ?hr ?_; (case hd => rfl); (case hg => rfl); (case hr => first | (go_simp; done) | (go_simp; rfl)); intro gb315 hg w38 hbox hb; have BK315 := Aside0.mk (hbox); have GW315 := Aside0.mk ((by rw [hg]; exact (below_size HB.out) : w.heap.size ≤ gb315)); have GE315 := GW315; replace HB := Aside0.mk (below_step HB.out hb); clear hb hbox hg) | ((with_reducible refine gate_callee (f := 56) rfl ?_); refine goesL_ (some 11) rfl rfl Try.func56 (by kernel_rfl) rfl #[.slice A0 l0.length c0] rfl (by (try simp only [List.map_toArray, List.map_cons, List.map_nil]); first | done | rfl | (simp only [List.length_drop, List.length_take]; rfl)) ?_; (with_reducible refine (thread_checkTable.calls k _ _ l0 t316 _ ?side1 ?side2 A3.out).mono ?_); (case side1 => repeat (first | exact (Kd.C_below HR0.out HB.out) | (with_reducible refine Kd.C_alloc ?_ _) | (with_reducible refine Kd.C_drewN ?_ _) | (with_reducible refine Kd.C_drew ?_))); (case side2 => exact HC0.out); rintro e w39 ⟨rfl, hb⟩; refine ⟨_, rfl, ?_⟩; replace BK315 := Aside0.mk (blk_below (g := gb315) (o := .cells #[.int .i64 a1_0, .int .i64 a1_1, .int .i64 a1_2] 55 (0, 0)) (by repeat (first | (with_reducible first | exact BK315.out | refine blk_drewN ?_ _ | refine blk_drew ?_ | refine blk_alloc ?_ _) | exact BK315.out)) hb); replace HB := Aside0.mk (below_step (by repeat (first | (with_reducible first | exact HB.out | apply below_alloc | apply pw_below_drewN | apply below_drew1 | refine below_set ?_ (Aside0.out (by assumption))) | exact HB.out)) hb); (try clear hb); (try clear hb2); (try clear hk); (try clear hi)))
  go_ret2
  exact ⟨_, by first | rfl | (simp [errW_none, errW_some] <;> rfl) | (simp [*, errW_none, errW_some] <;> rfl), by first | exact Kd.R_nil _ _ _ _ _ | exact Kd.N_nil _ _ _ _ _ | exact Kd.V_nil _ _ _ _ _ | exact Kd.Q_nil _ _ _ _ _ | exact Kd.S_nil _ _ _ _ _, by repeat (first | (with_reducible first | exact HB.out | apply below_alloc | apply pw_below_drewN | apply below_drew1 | refine below_set ?_ (Aside0.out (by assumption))) | exact HB.out)⟩

end Go.Proofs.Yticbhgjenidjlaa.T
namespace Go.Proofs.Yticbhgjenidjlaa.T
open Go.RowKit Go.Proofs.YticbhgjenidjlaaW.PrintWords Go.Proofs.YticbhgjenidjlaaW.PrintLast Go.Proofs.YticbhgjenidjlaaW.PrintMore
attribute [local go_sem] max2_int min2_int max_two min_two max_three min_three max_four min_four   -- for this text's walks alone
set_option linter.unusedVariables false
set_option linter.unusedSimpArgs false
attribute [local go_sem] wl_100001

attribute [local go_sem high] eqA23 eqA67
mutual
noncomputable def acmelaw01_ThreadAgrees.j0 : Nat → List (S23) → Bool → Int → Int → Int → Int → Int → Int → Int → Int → Int → Int → Int → Int → Int → Int → Int → Int → Int → Int → Option (Bool)
 | 0, _, _, _, _, _, _, _, _, _, _, _, _, _, _, _, _, _, _, _, _ => none
 | k + 1, x0, x31, x430000, x430001, x430002, x430003, x430004, x430005, x430006, x430007, x430008, x430009, x430010, x430011, x430012, x430013, x430014, x431000, x431001, x431002 => if x31 = true then ((acmelaw01_known.f).bind fun t431 => (some t431)) else ((some (([] : List (S23)) : List (S23))).bind fun y432 => (if y432.length + x0.length < 2199023255552 then ((some (y432 ++ x0 : List (S23))).bind fun y435 => ((thread_Agree.f k y435 x430000 x430001 x430002 x430003 x430004 x430005 x430006 x430007 x430008 x430009 x430010 x430011 x430012 x430013 x430014).bind fun bt438 => ((thread_Alike.f k y435 x431000 x431001 x431002).bind fun bt442 => (acmelaw01_ThreadAgrees.l0 k x0 y435 bt438.1 bt438.2 bt442.1 bt442.2 0 x430000 x430001 x430002 x430003 x430004 x430005 x430006 x430007 x430008 x430009 x430010 x430011 x430012 x430013 x430014 x431000 x431001 x431002)))) else (none)))
noncomputable def acmelaw01_ThreadAgrees.l0 : Nat → List (S23) → List (S23) → List Int → Int → List (S67) → Int → Int → Int → Int → Int → Int → Int → Int → Int → Int → Int → Int → Int → Int → Int → Int → Int → Int → Int → Int → Option (Bool)
 | 0, _, _, _, _, _, _, _, _, _, _, _, _, _, _, _, _, _, _, _, _, _, _, _, _, _ => none
 | k + 1, x0, x7, x8, x9, x10, x11, x12, x430000, x430001, x430002, x430003, x430004, x430005, x430006, x430007, x430008, x430009, x430010, x430011, x430012, x430013, x430014, x431000, x431001, x431002 => if x12 < (x0.length : Int) then (if 0 ≤ x12 then (if x12 < (x7.length : Int) then (if (!(((rd_T23 x7 x12).f0) == ((rd_T23 x0 x12).f0)) || (!(((rd_T23 x7 x12).f1) == ((rd_T23 x0 x12).f1)) || (!(((rd_T23 x7 x12).f2) == ((rd_T23 x0 x12).f2)) || (!(((rd_T23 x7 x12).f3) == ((rd_T23 x0 x12).f3)) || (!(((rd_T23 x7 x12).f4) == ((rd_T23 x0 x12).f4)) || (!(((rd_T23 x7 x12).f5) == ((rd_T23 x0 x12).f5)) || (!(((rd_T23 x7 x12).f6) == ((rd_T23 x0 x12).f6)) || (!(((rd_T23 x7 x12).f7) == ((rd_T23 x0 x12).f7)))))))))) = true then (none) else (acmelaw01_ThreadAgrees.l0 k x0 x7 x8 x9 x10 x11 (wrap64 (x12 + 1)) x430000 x430001 x430002 x430003 x430004 x430005 x430006 x430007 x430008 x430009 x430010 x430011 x430012 x430013 x430014 x431000 x431001 x431002)) else (none)) else (none)) else ((acmeref01_Table.f k x0).bind fun t448 => (if t448 = 0 then (acmelaw01_ThreadAgrees.l1 k x0 x8 x9 x10 x11 (([] : List Int)) 0 x430000 x430001 x430002 x430003 x430004 x430005 x430006 x430007 x430008 x430009 x430010 x430011 x430012 x430013 x430014 x431000 x431001 x431002) else (if x9 = t448 then (if x11 = t448 then (if (wrap64 ((x8.length : Int) + (x10.length : Int))) = 0 then ((acmelaw01_known.f).bind fun t449 => (some t449)) else (none)) else (none)) else (none))))
noncomputable def acmelaw01_ThreadAgrees.l1 : Nat → List (S23) → List Int → Int → List (S67) → Int → List Int → Int → Int → Int → Int → Int → Int → Int → Int → Int → Int → Int → Int → Int → Int → Int → Int → Int → Int → Int → Option (Bool)
 | 0, _, _, _, _, _, _, _, _, _, _, _, _, _, _, _, _, _, _, _, _, _, _, _, _, _ => none
 | k + 1, x0, x8, x9, x10, x11, x14, x15, x430000, x430001, x430002, x430003, x430004, x430005, x430006, x430007, x430008, x430009, x430010, x430011, x430012, x430013, x430014, x431000, x431001, x431002 => if x15 < (x0.length : Int) then (if 0 ≤ x15 then ((acmeref01_Agrees.f k ((rd_T23 x0 x15).f0) ((rd_T23 x0 x15).f1) ((rd_T23 x0 x15).f2) ((rd_T23 x0 x15).f3) ((rd_T23 x0 x15).f4) ((rd_T23 x0 x15).f5) ((rd_T23 x0 x15).f6) ((rd_T23 x0 x15).f7) x430000 x430001 x430002 x430003 x430004 x430005 x430006 x430007 x430008 x430009 x430010 x430011 x430012 x430013 x430014).bind fun t454 => (if t454 = true then (if x14.length < 17592186044416 then (acmelaw01_ThreadAgrees.l1 k x0 x8 x9 x10 x11 (x14 ++ [x15]) (wrap64 (x15 + 1)) x430000 x430001 x430002 x430003 x430004 x430005 x430006 x430007 x430008 x430009 x430010 x430011 x430012 x430013 x430014 x431000 x431001 x431002) else (none)) else (acmelaw01_ThreadAgrees.l1 k x0 x8 x9 x10 x11 x14 (wrap64 (x15 + 1)) x430000 x430001 x430002 x430003 x430004 x430005 x430006 x430007 x430008 x430009 x430010 x430011 x430012 x430013 x430014 x431000 x431001 x431002))) else (none)) else ((acmeref01_Seen.f k x430000 x430001 x430002 x430003 x430004 x430005 x430006 x430007 x430008 x430009 x430010 x430011 x430012 x430013 x430014).bind fun t458 => (if t458 = true then (if x9 = 0 then ((acmeref01_Same.f k x8 x14).bind fun t459 => (if t459 = true then (acmelaw01_ThreadAgrees.j3 k x0 x10 x11 x431000 x431001 x431002) else (none))) else (none)) else (if x9 = 3 then (if (x8.length : Int) = 0 then (acmelaw01_ThreadAgrees.j3 k x0 x10 x11 x431000 x431001 x431002) else (none)) else (none))))
noncomputable def acmelaw01_ThreadAgrees.j3 : Nat → List (S23) → List (S67) → Int → Int → Int → Int → Option (Bool)
 | 0, _, _, _, _, _, _ => none
 | k + 1, x0, x10, x11, x431000, x431001, x431002 => (acmeref01_In.f x431000 0 10000000).bind fun t460 => (if t460 = true then ((acmeref01_In.f x431001 0 10000000).bind fun t461 => (if t461 = true then ((acmeref01_In.f x431002 0 10000000).bind fun t462 => (acmelaw01_ThreadAgrees.j4 k x0 x10 x11 (!t462) x431000 x431001 x431002)) else (acmelaw01_ThreadAgrees.j4 k x0 x10 x11 true x431000 x431001 x431002))) else (acmelaw01_ThreadAgrees.j4 k x0 x10 x11 true x431000 x431001 x431002))
noncomputable def acmelaw01_ThreadAgrees.j4 : Nat → List (S23) → List (S67) → Int → Bool → Int → Int → Int → Option (Bool)
 | 0, _, _, _, _, _, _, _ => none
 | k + 1, x0, x10, x11, x135, x431000, x431001, x431002 => if x135 = true then (if x11 = 3 then (if (x10.length : Int) = 0 then ((acmelaw01_known.f).bind fun t463 => (some t463)) else (none)) else (none)) else (acmelaw01_ThreadAgrees.l2 k x0 x10 x11 0 0 x431000 x431001 x431002)
noncomputable def acmelaw01_ThreadAgrees.l2 : Nat → List (S23) → List (S67) → Int → Int → Int → Int → Int → Int → Option (Bool)
 | 0, _, _, _, _, _, _, _, _ => none
 | k + 1, x0, x10, x11, x16, x17, x431000, x431001, x431002 => if x17 < (x0.length : Int) then (acmelaw01_ThreadAgrees.l3 k x0 x10 x11 x16 x17 (wrap64 (x17 + 1)) x431000 x431001 x431002) else (if x11 = 0 then (if x16 = (x10.length : Int) then ((acmelaw01_known.f).bind fun t464 => (some t464)) else (none)) else (none))
noncomputable def acmelaw01_ThreadAgrees.l3 : Nat → List (S23) → List (S67) → Int → Int → Int → Int → Int → Int → Int → Option (Bool)
 | 0, _, _, _, _, _, _, _, _, _ => none
 | k + 1, x0, x10, x11, x16, x17, x18, x431000, x431001, x431002 => if x18 < (x0.length : Int) then (if 0 ≤ x17 then (if x17 < (x0.length : Int) then (if 0 ≤ x18 then ((acmeref01_Alike.f k ((rd_T23 x0 x17).f0) ((rd_T23 x0 x17).f1) ((rd_T23 x0 x17).f2) ((rd_T23 x0 x17).f3) ((rd_T23 x0 x17).f4) ((rd_T23 x0 x17).f5) ((rd_T23 x0 x17).f6) ((rd_T23 x0 x17).f7) ((rd_T23 x0 x18).f0) ((rd_T23 x0 x18).f1) ((rd_T23 x0 x18).f2) ((rd_T23 x0 x18).f3) ((rd_T23 x0 x18).f4) ((rd_T23 x0 x18).f5) ((rd_T23 x0 x18).f6) ((rd_T23 x0 x18).f7) x431000 x431001 x431002).bind fun t467 => (if t467 = true then (if x16 ≥ (x10.length : Int) then (none) else (if 0 ≤ x16 then (if x16 < (x10.length : Int) then (if (!(((rd_T67 x10 x16).f0) == x17) || (!(((rd_T67 x10 x16).f1) == x18))) = true then (none) else (acmelaw01_ThreadAgrees.l3 k x0 x10 x11 (wrap64 (x16 + 1)) x17 (wrap64 (x18 + 1)) x431000 x431001 x431002)) else (none)) else (none))) else (acmelaw01_ThreadAgrees.l3 k x0 x10 x11 x16 x17 (wrap64 (x18 + 1)) x431000 x431001 x431002))) else (none)) else (none)) else (none)) else (acmelaw01_ThreadAgrees.l2 k x0 x10 x11 x16 (wrap64 (x17 + 1)) x431000 x431001 x431002)
end
noncomputable def acmelaw01_ThreadAgrees.f (k : Nat) (l0 : List (S23)) (a1_0 : Int) (a1_1 : Int) (a1_2 : Int) (a1_3 : Int) (a1_4 : Int) (a1_5 : Int) (a1_6 : Int) (a1_7 : Int) (a1_8 : Int) (a1_9 : Int) (a1_10 : Int) (a1_11 : Int) (a1_12 : Int) (a1_13 : Int) (a1_14 : Int) (a2_0 : Int) (a2_1 : Int) (a2_2 : Int) : Option (Bool) := if (l0.length : Int) > 30 then (if (l0.length : Int) ≤ 100 then (acmelaw01_ThreadAgrees.j0 k l0 true a1_0 a1_1 a1_2 a1_3 a1_4 a1_5 a1_6 a1_7 a1_8 a1_9 a1_10 a1_11 a1_12 a1_13 a1_14 a2_0 a2_1 a2_2) else (acmelaw01_ThreadAgrees.j0 k l0 (decide ((l0.length : Int) > 105)) a1_0 a1_1 a1_2 a1_3 a1_4 a1_5 a1_6 a1_7 a1_8 a1_9 a1_10 a1_11 a1_12 a1_13 a1_14 a2_0 a2_1 a2_2)) else (acmelaw01_ThreadAgrees.j0 k l0 (decide ((l0.length : Int) > 105)) a1_0 a1_1 a1_2 a1_3 a1_4 a1_5 a1_6 a1_7 a1_8 a1_9 a1_10 a1_11 a1_12 a1_13 a1_14 a2_0 a2_1 a2_2)
def acmelaw01_ThreadAgrees.T9 : Bool × List (List Nat × List Nat) := (true, [([], []), ([], []), ([0, 1], [0, 1]), ([2], [2]), ([], []), ([], []), ([4, 5], [4, 5]), ([6], [6]), ([3, 7], [3, 7])])
def acmelaw01_ThreadAgrees.B9 : List Nat := [0, 0, 3, 7, 0, 0, 48, 112, 255]
theorem acmelaw01_ThreadAgrees.tab9 : rtab .any (opsOf Try.f7 9) = acmelaw01_ThreadAgrees.T9 := by kernel_rfl
theorem acmelaw01_ThreadAgrees.bits9 : waitsOk acmelaw01_ThreadAgrees.T9.2 acmelaw01_ThreadAgrees.B9 = true := by kernel_rfl
def acmelaw01_ThreadAgrees.T34 : Bool × List (List Nat × List Nat) := (true, [([], []), ([], []), ([0, 1], [0, 1]), ([2], [2]), ([], []), ([], []), ([4, 5], [4, 5]), ([6], [6]), ([], []), ([3, 7, 8], [3, 7, 8]), ([9], [9])])
def acmelaw01_ThreadAgrees.B34 : List Nat := [0, 0, 3, 7, 0, 0, 48, 112, 0, 511, 1023]
theorem acmelaw01_ThreadAgrees.tab34 : rtab .any (opsOf Try.f7 34) = acmelaw01_ThreadAgrees.T34 := by kernel_rfl
theorem acmelaw01_ThreadAgrees.bits34 : waitsOk acmelaw01_ThreadAgrees.T34.2 acmelaw01_ThreadAgrees.B34 = true := by kernel_rfl
set_option maxHeartbeats 8000000 in
set_option maxRecDepth 100000 in
theorem acmelaw01_ThreadAgrees.calls (k : Nat) (A0 : Option Addr) (c0 : Nat) (l0 : List (S23)) (a1_0 : Int) (a1_1 : Int) (a1_2 : Int) (a1_3 : Int) (a1_4 : Int) (a1_5 : Int) (a1_6 : Int) (a1_7 : Int) (a1_8 : Int) (a1_9 : Int) (a1_10 : Int) (a1_11 : Int) (a1_12 : Int) (a1_13 : Int) (a1_14 : Int) (a2_0 : Int) (a2_1 : Int) (a2_2 : Int) (r : Bool) (w : World) (hr0 : Kd.C k23 w A0 l0.length l0) (hc0 : l0.length ≤ c0) (h : acmelaw01_ThreadAgrees.f k l0 a1_0 a1_1 a1_2 a1_3 a1_4 a1_5 a1_6 a1_7 a1_8 a1_9 a1_10 a1_11 a1_12 a1_13 a1_14 a2_0 a2_1 a2_2 = some r) :
  Calls Try.prog 7 #[.slice A0 l0.length c0, .agg #[.int .i64 a1_0, .int .i64 a1_1, .int .i64 a1_2, .int .i64 a1_3, .int .i64 a1_4, .int .i64 a1_5, .int .i64 a1_6, .int .i64 a1_7, .int .i64 a1_8, .int .i64 a1_9, .int .i64 a1_10, .int .i64 a1_11, .int .i64 a1_12, .int .i64 a1_13, .int .i64 a1_14], .agg #[.int .i64 a2_0, .int .i64 a2_1, .int .i64 a2_2]] w fun e w' => e = .returned (.bool r) ∧ Below w.heap.size w w' := by
 have hu53 := Try.underlying53
 have hu55 := Try.underlying55
 have hu23 := Try.underlying23
 have hu67 := Try.underlying67
 have HR0 := Aside0.mk hr0
 have HC0 := Aside0.mk hc0
 clear hr0 hc0
 have HB := Aside0.mk (Below.refl w.heap.size w)
 have H : (if (l0.length : Int) > 30 then (if (l0.length : Int) ≤ 100 then (acmelaw01_ThreadAgrees.j0 k l0 true a1_0 a1_1 a1_2 a1_3 a1_4 a1_5 a1_6 a1_7 a1_8 a1_9 a1_10 a1_11 a1_12 a1_13 a1_14 a2_0 a2_1 a2_2) else (acmelaw01_ThreadAgrees.j0 k l0 (decide ((l0.length : Int) > 105)) a1_0 a1_1 a1_2 a1_3 a1_4 a1_5 a1_6 a1_7 a1_8 a1_9 a1_10 a1_11 a1_12 a1_13 a1_14 a2_0 a2_1 a2_2)) else (acmelaw01_ThreadAgrees.j0 k l0 (decide ((l0.length : Int) > 105)) a1_0 a1_1 a1_2 a1_3 a1_4 a1_5 a1_6 a1_7 a1_8 a1_9 a1_10 a1_11 a1_12 a1_13 a1_14 a2_0 a2_1 a2_2)) = some r := h
 clear h
 have HC4 := Aside0.mk H
 clear H
 go_enter Try.func7, Try.ntmps7
 go_upto_region 1 with (first | ((with_reducible refine gate_dst (N := 4) rfl ?_); (try (refine gate_guard (by rfl) ?_; dsimp only)); refine box_event ?hg (N := 4) ?hd (cs := #[.int .i64 a1_0, .int .i64 a1_1, .int .i64 a1_2, .int .i64 a1_3, .int .i64 a1_4, .int .i64 a1_5, .int .i64 a1_6, .int .i64 a1_7, .int .i64 a1_8, .int .i64 a1_9, .int .i64 a1_10, .int .i64 a1_11, .int .i64 a1_12, .int .i64 a1_13, .int .i64 a1_14]) (t := 53) ?hr ?_; (case hd => rfl); (case hg => rfl); (case hr => first | (go_simp; done) | (go_simp; rfl)); intro gb429 hg w5 hbox hb; have BK429 := Aside0.mk (hbox); have GW429 := Aside0.mk ((by rw [hg]; exact (below_size HB.out) : w.heap.size ≤ gb429)); have GE429 := GW429; replace HB := Aside0.mk (below_step HB.out hb); clear hb hbox hg) | ((with_reducible refine gate_dst (N := 5) rfl ?_); (try (refine gate_guard (by rfl) ?_; dsimp only)); refine box_event ?hg (N := 5) ?hd (cs := #[.int .i64 a2_0, .int .i64 a2_1, .int .i64 a2_2]) (t := 55) ?hr ?_; (case hd => rfl); (case hg => rfl); (case hr => first | (go_simp; done) | (go_simp; rfl)); intro gb430 hg w6 hbox hb; have BK430 := Aside0.mk (hbox); have GW430 := Aside0.mk ((by rw [hg]; exact (below_size (by repeat (first | (with_reducible first | exact HB.out | apply below_alloc | apply pw_below_drewN | apply below_drew1 | refine below_set ?_ (Aside0.out (by assumption))) | exact HB.out))) : w.heap.size ≤ gb430)); have GE430 := GW430; replace HB := Aside0.mk (below_step (by repeat (first | (with_reducible first | exact HB.out | apply below_alloc | apply pw_below_drewN | apply below_drew1 | refine below_set ?_ (Aside0.out (by assumption))) | exact HB.out)) hb); have NB429_430 := Aside0.mk ((by rw [hg]; exact Nat.ne_of_lt (blk_lt BK429.out) : gb429 ≠ gb430)); have NB430_429 := Aside0.mk ((by rw [hg]; exact Nat.ne_of_gt (blk_lt BK429.out) : gb430 ≠ gb429)); replace BK429 := Aside0.mk (blk_below (g := gb429) (o := .cells #[.int .i64 a1_0, .int .i64 a1_1, .int .i64 a1_2, .int .i64 a1_3, .int .i64 a1_4, .int .i64 a1_5, .int .i64 a1_6, .int .i64 a1_7, .int .i64 a1_8, .int .i64 a1_9, .int .i64 a1_10, .int .i64 a1_11, .int .i64 a1_12, .int .i64 a1_13, .int .i64 a1_14] 53 (0, 0)) (by repeat (first | (with_reducible first | exact BK429.out | refine blk_drewN ?_ _ | refine blk_drew ?_ | refine blk_alloc ?_ _) | exact BK429.out)) hb); clear hb hbox hg))
 (try simp only [Act.put, List.setIfInBounds_toArray, List.set_cons_zero, List.set_cons_succ])
 go_cut [31] (fun v31 wc => ∃ (kq : Nat) (x31_3 : Bool), v31 = .bool x31_3 ∧ Aside0 (acmelaw01_ThreadAgrees.j0 kq l0 x31_3 a1_0 a1_1 a1_2 a1_3 a1_4 a1_5 a1_6 a1_7 a1_8 a1_9 a1_10 a1_11 a1_12 a1_13 a1_14 a2_0 a2_1 a2_2 = some r) ∧ Aside0 (kq ≤ k) ∧ Aside0 (wc.heap[gb429]? = some (.cells #[.int .i64 a1_0, .int .i64 a1_1, .int .i64 a1_2, .int .i64 a1_3, .int .i64 a1_4, .int .i64 a1_5, .int .i64 a1_6, .int .i64 a1_7, .int .i64 a1_8, .int .i64 a1_9, .int .i64 a1_10, .int .i64 a1_11, .int .i64 a1_12, .int .i64 a1_13, .int .i64 a1_14] 53 (0, 0))) ∧ Aside0 (wc.heap[gb430]? = some (.cells #[.int .i64 a2_0, .int .i64 a2_1, .int .i64 a2_2] 55 (0, 0))) ∧ Aside0 (Below w.heap.size w wc))
 case first => as_aux_lemma =>
  have H := HC4.out
  clear HC4
  by_cases c7 : (l0.length : Int) > 30
  ·rw [if_pos c7] at H
   have c7b0 : decide (30 < (l0.length : Int)) = true := decide_eq_true c7
   have c7b1 : decide (30 < l0.length) = true := decide_eq_true (by omega)
   clear c7
   (first | rw [c7b0] | (simp only [i64_w, i32_w]; rw [c7b0]) | skip)
   by_cases c8 : (l0.length : Int) ≤ 100
   ·rw [if_pos c8] at H
    have c8b0 : decide ((l0.length : Int) ≤ 100) = true := decide_eq_true c8
    have c8b1 : decide (l0.length ≤ 100) = true := decide_eq_true (by omega)
    clear c8
    have H' := Aside0.mk H
    clear H
    go_wp2
    go_meet
    case rel => exact ⟨_, (true), (by first | rfl | (simp; done) | (simp [*]; done)), H', ⟨by first | omega | exact Nat.le_refl _⟩, BK429, BK430, ⟨by repeat (first | (with_reducible first | exact HB.out | apply below_alloc | apply pw_below_drewN | apply below_drew1 | refine below_set ?_ (Aside0.out (by assumption))) | exact HB.out)⟩⟩
   ·rw [if_neg c8] at H
    have c8b0 : decide ((l0.length : Int) ≤ 100) = false := decide_eq_false c8
    have c8b1 : decide (l0.length ≤ 100) = false := decide_eq_false (by omega)
    clear c8
    have H' := Aside0.mk H
    clear H
    go_wp2
    go_meet
    case rel => exact ⟨_, (decide ((l0.length : Int) > 105)), (by first | rfl | (simp; done) | (simp [*]; done)), H', ⟨by first | omega | exact Nat.le_refl _⟩, BK429, BK430, ⟨by repeat (first | (with_reducible first | exact HB.out | apply below_alloc | apply pw_below_drewN | apply below_drew1 | refine below_set ?_ (Aside0.out (by assumption))) | exact HB.out)⟩⟩
  ·rw [if_neg c7] at H
   have c7b0 : decide (30 < (l0.length : Int)) = false := decide_eq_false c7
   have c7b1 : decide (30 < l0.length) = false := decide_eq_false (by omega)
   clear c7
   (first | rw [c7b0] | (simp only [i64_w, i32_w]; rw [c7b0]) | skip)
   have H' := Aside0.mk H
   clear H
   go_wp2
   go_meet
   case rel => exact ⟨_, (decide ((l0.length : Int) > 105)), (by first | rfl | (simp; done) | (simp [*]; done)), H', ⟨by first | omega | exact Nat.le_refl _⟩, BK429, BK430, ⟨by repeat (first | (with_reducible first | exact HB.out | apply below_alloc | apply pw_below_drewN | apply below_drew1 | refine below_set ?_ (Aside0.out (by assumption))) | exact HB.out)⟩⟩
 case rest => as_aux_lemma =>
  clear HC4
  try clear p2; try clear c7; try clear c7b0; try clear c7b1; try clear c8; try clear c8b0; try clear c8b1
  obtain ⟨kq, x31_3, rfl, HA, HJ3, BK429, BK430, HB⟩ := hcut
  cases kq with
  | zero => exact absurd HA.out (by simp [acmelaw01_ThreadAgrees.j0])
  | succ kj3 =>
   have H := HA.out
   clear HA
   simp only [acmelaw01_ThreadAgrees.j0] at H
   by_cases c9 : x31_3 = true
   ·subst c9
    have H1 : ((acmelaw01_known.f).bind fun t431 => (some t431)) = some r := by rw [if_pos rfl] at H; exact H
    clear H
    have H := H1
    clear H1
    replace H := Option.bind_eq_some_iff.mp H
    obtain ⟨t431, A100, H⟩ := H; (try dsimp only at H)
    have A10 := Aside0.mk A100
    clear A100
    obtain rfl := Option.some.inj H
    go_wp2_with (first | ((with_reducible refine gate_callee (f := 18) rfl ?_); refine goesL_ (some 32) rfl rfl Try.func18 (by kernel_rfl) rfl #[] rfl (by (try simp only [List.map_toArray, List.map_cons, List.map_nil]); first | done | rfl | (simp only [List.length_drop, List.length_take]; rfl)) ?_; (with_reducible refine (acmelaw01_known.calls  t431 _ A10.out).mono ?_); rintro e w11 ⟨rfl, hb⟩; refine ⟨_, rfl, ?_⟩; replace BK429 := Aside0.mk (blk_below (g := gb429) (o := .cells #[.int .i64 a1_0, .int .i64 a1_1, .int .i64 a1_2, .int .i64 a1_3, .int .i64 a1_4, .int .i64 a1_5, .int .i64 a1_6, .int .i64 a1_7, .int .i64 a1_8, .int .i64 a1_9, .int .i64 a1_10, .int .i64 a1_11, .int .i64 a1_12, .int .i64 a1_13, .int .i64 a1_14] 53 (0, 0)) (by repeat (first | (with_reducible first | exact BK429.out | refine blk_drewN ?_ _ | refine blk_drew ?_ | refine blk_alloc ?_ _) | exact BK429.out)) hb); replace BK430 := Aside0.mk (blk_below (g := gb430) (o := .cells #[.int .i64 a2_0, .int .i64 a2_1, .int .i64 a2_2] 55 (0, 0)) (by repeat (first | (with_reducible first | exact BK430.out | refine blk_drewN ?_ _ | refine blk_drew ?_ | refine blk_alloc ?_ _) | exact BK430.out)) hb); replace HB := Aside0.mk (below_step (by repeat (first | (with_reducible first | exact HB.out | apply below_alloc | apply pw_below_drewN | apply below_drew1 | refine below_set ?_ (Aside0.out (by assumption))) | exact HB.out)) hb); (try clear hb); (try clear hb2); (try clear hk); (try clear hi)))
    go_ret
    exact ⟨by first | rfl | (simp [errW_none, errW_some] <;> rfl) | (simp [*, errW_none, errW_some] <;> rfl), by repeat (first | (with_reducible first | exact HB.out | apply below_alloc | apply pw_below_drewN | apply below_drew1 | refine below_set ?_ (Aside0.out (by assumption))) | exact HB.out)⟩
   ·replace c9 := Bool.eq_false_iff.mpr c9
    subst c9
    have H1 : ((some (([] : List (S23)) : List (S23))).bind fun y432 => (if y432.length + l0.length < 2199023255552 then ((some (y432 ++ l0 : List (S23))).bind fun y435 => ((thread_Agree.f kj3 y435 a1_0 a1_1 a1_2 a1_3 a1_4 a1_5 a1_6 a1_7 a1_8 a1_9 a1_10 a1_11 a1_12 a1_13 a1_14).bind fun bt438 => ((thread_Alike.f kj3 y435 a2_0 a2_1 a2_2).bind fun bt442 => (acmelaw01_ThreadAgrees.l0 kj3 l0 y435 bt438.1 bt438.2 bt442.1 bt442.2 0 a1_0 a1_1 a1_2 a1_3 a1_4 a1_5 a1_6 a1_7 a1_8 a1_9 a1_10 a1_11 a1_12 a1_13 a1_14 a2_0 a2_1 a2_2)))) else (none))) = some r := by rw [if_neg (show ¬ (false = true) by decide)] at H; exact H
    clear H
    have H := H1
    clear H1
    obtain ⟨y432, hy432⟩ : ∃ y_ : List (S23), y_ = (([] : List (S23))) := ⟨_, rfl⟩
    replace H : (if y432.length + l0.length < 2199023255552 then ((some (y432 ++ l0 : List (S23))).bind fun y435 => ((thread_Agree.f kj3 y435 a1_0 a1_1 a1_2 a1_3 a1_4 a1_5 a1_6 a1_7 a1_8 a1_9 a1_10 a1_11 a1_12 a1_13 a1_14).bind fun bt438 => ((thread_Alike.f kj3 y435 a2_0 a2_1 a2_2).bind fun bt442 => (acmelaw01_ThreadAgrees.l0 kj3 l0 y435 bt438.1 bt438.2 bt442.1 bt442.2 0 a1_0 a1_1 a1_2 a1_3 a1_4 a1_5 a1_6 a1_7 a1_8 a1_9 a1_10 a1_11 a1_12 a1_13 a1_14 a2_0 a2_1 a2_2)))) else (none)) = some r := by first | (rw [hy432]; with_reducible exact H) | (have H2_ := (Option.bind_some _ _).symm.trans H; rw [hy432]; with_reducible exact H2_) | (have H2_ := (Option.bind_some _ _).symm.trans H; with_reducible exact H2_) | with_reducible exact H | (rw [hy432]; exact H) | exact H
    have Ny432 := Aside0.mk hy432
    clear hy432
    by_cases c12 : y432.length + l0.length < 2199023255552
    ·rw [if_pos c12] at H
     have LMc12 := Aside0.mk c12
     clear c12
     obtain ⟨y435, hy435⟩ : ∃ y_ : List (S23), y_ = (y432 ++ l0) := ⟨_, rfl⟩
     replace H : ((thread_Agree.f kj3 y435 a1_0 a1_1 a1_2 a1_3 a1_4 a1_5 a1_6 a1_7 a1_8 a1_9 a1_10 a1_11 a1_12 a1_13 a1_14).bind fun bt438 => ((thread_Alike.f kj3 y435 a2_0 a2_1 a2_2).bind fun bt442 => (acmelaw01_ThreadAgrees.l0 kj3 l0 y435 bt438.1 bt438.2 bt442.1 bt442.2 0 a1_0 a1_1 a1_2 a1_3 a1_4 a1_5 a1_6 a1_7 a1_8 a1_9 a1_10 a1_11 a1_12 a1_13 a1_14 a2_0 a2_1 a2_2))) = some r := by first | (rw [hy435]; with_reducible exact H) | (have H2_ := (Option.bind_some _ _).symm.trans H; rw [hy435]; with_reducible exact H2_) | (have H2_ := (Option.bind_some _ _).symm.trans H; with_reducible exact H2_) | with_reducible exact H | (rw [hy435]; exact H) | exact H
     have Ny435 := Aside0.mk hy435
     clear hy435
     replace H := Option.bind_eq_some_iff.mp H
     obtain ⟨⟨t438, t441⟩, A130, H⟩ := H; (try dsimp only at H)
     have A13 := Aside0.mk A130
     clear A130
     replace H := Option.bind_eq_some_iff.mp H
     obtain ⟨⟨t442, t445⟩, A140, H⟩ := H; (try dsimp only at H)
     have A14 := Aside0.mk A140
     clear A140
     have H' := Aside0.mk H
     clear H
     go_wp2_with (first | ((with_reducible refine gate_dst (N := 33) rfl ?_); (try (refine gate_guard (by rfl) ?_; dsimp only)); refine Kd.R_lit k23 _ 23 ?hg (N := 33) ?hd (xs := ([] : List (S23))) (inner := []) (ok := fun _ => True) (okp := fun _ => True) ?hr ?hp (fun _ hk => hk) trivial (Below.refl _ _) (Nat.le_refl _) (by simp) ?_; (case hd => rfl); (case hg => rfl); (case hr => first | (go_simp; done) | (go_simp; rfl)); (case hp => exact (Reps.none _ _)); intro v433 w15 ho16 hb hg_ hnew_; clear hg_ hnew_; (first | rw [← Ny432.out] at ho16 | (simp only [Int.reduceToNat] at ho16; rw [← Ny432.out] at ho16)); have HO434 := Aside0.mk (Kd.R_lower ho16 (below_size (by repeat (first | (with_reducible first | exact HB.out | apply below_alloc | apply pw_below_drewN | apply below_drew1 | refine below_set ?_ (Aside0.out (by assumption))) | exact HB.out)))); replace BK429 := Aside0.mk (blk_below (g := gb429) (o := .cells #[.int .i64 a1_0, .int .i64 a1_1, .int .i64 a1_2, .int .i64 a1_3, .int .i64 a1_4, .int .i64 a1_5, .int .i64 a1_6, .int .i64 a1_7, .int .i64 a1_8, .int .i64 a1_9, .int .i64 a1_10, .int .i64 a1_11, .int .i64 a1_12, .int .i64 a1_13, .int .i64 a1_14] 53 (0, 0)) (by repeat (first | (with_reducible first | exact BK429.out | refine blk_drewN ?_ _ | refine blk_drew ?_ | refine blk_alloc ?_ _) | exact BK429.out)) hb); replace BK430 := Aside0.mk (blk_below (g := gb430) (o := .cells #[.int .i64 a2_0, .int .i64 a2_1, .int .i64 a2_2] 55 (0, 0)) (by repeat (first | (with_reducible first | exact BK430.out | refine blk_drewN ?_ _ | refine blk_drew ?_ | refine blk_alloc ?_ _) | exact BK430.out)) hb); replace HB := Aside0.mk (below_step (by repeat (first | (with_reducible first | exact HB.out | apply below_alloc | apply pw_below_drewN | apply below_drew1 | refine below_set ?_ (Aside0.out (by assumption))) | exact HB.out)) hb); clear hb ho16) | ((with_reducible refine gate_builtin (b := .append) (xs := #[.tmp 33, .tmp 34]) rfl ?_); (try (refine gate_guard (by rfl) ?_; dsimp only)); at_builtin; refine Kd.R_append_rows k23 (w0 := w) w.heap.size rfl (.tmp 33) (.tmp 34) 50 23 (.agg #[(.int .i64 0), (.int .i64 0), (.int .i64 0), (.int .i64 0), (.int .i64 0), (.int .i64 0), (.bool false), (.int .i64 0)]) 64 rfl Try.underlying50 info23 rfl (by decide) (by omega) v433 y432 l0 _ _ _ (fun _ => True) (fun _ => False) rfl rfl ?aO ?aR (fun _ _ h => h) (fun _ h => h.elim) ?aF ?aB ?aS ?aL ?_; (case aR => repeat (first | exact (Kd.C_below HR0.out HB.out) | (with_reducible refine Kd.C_alloc ?_ _) | (with_reducible refine Kd.C_drewN ?_ _) | (with_reducible refine Kd.C_drew ?_))); (case aB => exact (by repeat (first | (with_reducible first | exact HB.out | apply below_alloc | apply pw_below_drewN | apply below_drew1 | refine below_set ?_ (Aside0.out (by assumption))) | exact HB.out))); (case aF => exact (fun _ _ => trivial)); (case aO => exact (by (with_reducible repeat (first | apply Kd.R_alloc | apply Kd.R_drewN | apply Kd.R_drew)); exact HO434.out)); (case aS => exact (below_size (by repeat (first | (with_reducible first | exact HB.out | apply below_alloc | apply pw_below_drewN | apply below_drew1 | refine below_set ?_ (Aside0.out (by assumption))) | exact HB.out)))); (case aL => have := LMc12.out; omega); intro v436 w17 ho hb hg hat; rw [← Ny435.out] at ho; replace BK429 := Aside0.mk (blk_grown (g := gb429) (o := .cells #[.int .i64 a1_0, .int .i64 a1_1, .int .i64 a1_2, .int .i64 a1_3, .int .i64 a1_4, .int .i64 a1_5, .int .i64 a1_6, .int .i64 a1_7, .int .i64 a1_8, .int .i64 a1_9, .int .i64 a1_10, .int .i64 a1_11, .int .i64 a1_12, .int .i64 a1_13, .int .i64 a1_14] 53 (0, 0)) (by repeat (first | (with_reducible first | exact BK429.out | refine blk_drewN ?_ _ | refine blk_drew ?_ | refine blk_alloc ?_ _) | exact BK429.out)) hg (Kd.R_ne HO434.out BK429.out (by decide))); replace BK430 := Aside0.mk (blk_grown (g := gb430) (o := .cells #[.int .i64 a2_0, .int .i64 a2_1, .int .i64 a2_2] 55 (0, 0)) (by repeat (first | (with_reducible first | exact BK430.out | refine blk_drewN ?_ _ | refine blk_drew ?_ | refine blk_alloc ?_ _) | exact BK430.out)) hg (Kd.R_ne HO434.out BK430.out (by decide))); replace HB := Aside0.mk (hb); have HO437 := Aside0.mk (ho); clear HO434; clear ho hb hg hat; have hnb18 := NB429_430.out; have hnc18 := NB430_429.out; obtain ⟨hcz19_0, hcz19_1, hcz19_2, hcz19_3, hcz19_4, hcz19_5, hcz19_6, hcz19_7, hcz19_8, hcz19_9, hcz19_10, hcz19_11, hcz19_12, hcz19_13, hcz19_14⟩ := bc15 BK429.out; obtain ⟨hfz19_0, hfz19_1, hfz19_2, hfz19_3, hfz19_4, hfz19_5, hfz19_6, hfz19_7, hfz19_8, hfz19_9, hfz19_10, hfz19_11, hfz19_12, hfz19_13, hfz19_14⟩ := bf15 BK429.out; obtain ⟨Ao20, co20, eo20⟩ := Kd.R_slice HO437.out; subst eo20) | ((with_reducible refine gate_callee (f := 30) rfl ?_); refine goesL_ (some 39) rfl rfl Try.func30 (by kernel_rfl) rfl #[.slice Ao20 y435.length co20, .agg #[.int .i64 a1_0, .int .i64 a1_1, .int .i64 a1_2, .int .i64 a1_3, .int .i64 a1_4, .int .i64 a1_5, .int .i64 a1_6, .int .i64 a1_7, .int .i64 a1_8, .int .i64 a1_9, .int .i64 a1_10, .int .i64 a1_11, .int .i64 a1_12, .int .i64 a1_13, .int .i64 a1_14]] rfl (by (try simp only [List.map_toArray, List.map_cons, List.map_nil]); first | done | rfl | (simp only [List.length_drop, List.length_take]; rfl)) ?_; (with_reducible refine (thread_Agree.calls kj3 _ _ y435 a1_0 a1_1 a1_2 a1_3 a1_4 a1_5 a1_6 a1_7 a1_8 a1_9 a1_10 a1_11 a1_12 a1_13 a1_14 t438 t441 _ ?side1 ?side2 A13.out).mono ?_); (case side1 => repeat (first | exact (Kd.R_reads' HO437.out).2.2 | (with_reducible refine Kd.C_alloc ?_ _) | (with_reducible refine Kd.C_drewN ?_ _) | (with_reducible refine Kd.C_drew ?_))); (case side2 => exact (Kd.R_reads' HO437.out).2.1); rintro e w21 ⟨v439, rfl, ho0, hb⟩; refine ⟨_, rfl, ?_⟩; replace HO437 := Aside0.mk (Kd.R_below (by (with_reducible repeat (first | apply Kd.R_alloc | apply Kd.R_drewN | apply Kd.R_drew)); exact HO437.out) hb); have HO440 := Aside0.mk (Kd.R_lower ho0 (below_size (by repeat (first | (with_reducible first | exact HB.out | apply below_alloc | apply pw_below_drewN | apply below_drew1 | refine below_set ?_ (Aside0.out (by assumption))) | exact HB.out)))); replace BK429 := Aside0.mk (blk_below (g := gb429) (o := .cells #[.int .i64 a1_0, .int .i64 a1_1, .int .i64 a1_2, .int .i64 a1_3, .int .i64 a1_4, .int .i64 a1_5, .int .i64 a1_6, .int .i64 a1_7, .int .i64 a1_8, .int .i64 a1_9, .int .i64 a1_10, .int .i64 a1_11, .int .i64 a1_12, .int .i64 a1_13, .int .i64 a1_14] 53 (0, 0)) (by repeat (first | (with_reducible first | exact BK429.out | refine blk_drewN ?_ _ | refine blk_drew ?_ | refine blk_alloc ?_ _) | exact BK429.out)) hb); replace BK430 := Aside0.mk (blk_below (g := gb430) (o := .cells #[.int .i64 a2_0, .int .i64 a2_1, .int .i64 a2_2] 55 (0, 0)) (by repeat (first | (with_reducible first | exact BK430.out | refine blk_drewN ?_ _ | refine blk_drew ?_ | refine blk_alloc ?_ _) | exact BK430.out)) hb); replace HB := Aside0.mk (below_step (by repeat (first | (with_reducible first | exact HB.out | apply below_alloc | apply pw_below_drewN | apply below_drew1 | refine below_set ?_ (Aside0.out (by assumption))) | exact HB.out)) hb); (try clear hb); (try clear hb2); (try clear hk); (try clear hi); (try clear ho0); obtain ⟨hcz22_0, hcz22_1, hcz22_2⟩ := bc3 BK430.out; obtain ⟨hfz22_0, hfz22_1, hfz22_2⟩ := bf3 BK430.out) | ((with_reducible refine gate_callee (f := 31) rfl ?_); refine goesL_ (some 45) rfl rfl Try.func31 (by kernel_rfl) rfl #[.slice Ao20 y435.length co20, .agg #[.int .i64 a2_0, .int .i64 a2_1, .int .i64 a2_2]] rfl (by (try simp only [List.map_toArray, List.map_cons, List.map_nil]); first | done | rfl | (simp only [List.length_drop, List.length_take]; rfl)) ?_; (with_reducible refine (thread_Alike.calls kj3 _ _ y435 a2_0 a2_1 a2_2 t442 t445 _ ?side1 ?side2 A14.out).mono ?_); (case side1 => repeat (first | exact (Kd.R_reads' HO437.out).2.2 | (with_reducible refine Kd.C_alloc ?_ _) | (with_reducible refine Kd.C_drewN ?_ _) | (with_reducible refine Kd.C_drew ?_))); (case side2 => exact (Kd.R_reads' HO437.out).2.1); rintro e w23 ⟨v443, rfl, ho0, hb⟩; refine ⟨_, rfl, ?_⟩; replace HO437 := Aside0.mk (Kd.R_below (by (with_reducible repeat (first | apply Kd.R_alloc | apply Kd.R_drewN | apply Kd.R_drew)); exact HO437.out) hb); replace HO440 := Aside0.mk (Kd.R_below (by (with_reducible repeat (first | apply Kd.R_alloc | apply Kd.R_drewN | apply Kd.R_drew)); exact HO440.out) hb); have HO444 := Aside0.mk (Kd.R_lower ho0 (below_size (by repeat (first | (with_reducible first | exact HB.out | apply below_alloc | apply pw_below_drewN | apply below_drew1 | refine below_set ?_ (Aside0.out (by assumption))) | exact HB.out)))); replace BK429 := Aside0.mk (blk_below (g := gb429) (o := .cells #[.int .i64 a1_0, .int .i64 a1_1, .int .i64 a1_2, .int .i64 a1_3, .int .i64 a1_4, .int .i64 a1_5, .int .i64 a1_6, .int .i64 a1_7, .int .i64 a1_8, .int .i64 a1_9, .int .i64 a1_10, .int .i64 a1_11, .int .i64 a1_12, .int .i64 a1_13, .int .i64 a1_14] 53 (0, 0)) (by repeat (first | (with_reducible first | exact BK429.out | refine blk_drewN ?_ _ | refine blk_drew ?_ | refine blk_alloc ?_ _) | exact BK429.out)) hb); replace BK430 := Aside0.mk (blk_below (g := gb430) (o := .cells #[.int .i64 a2_0, .int .i64 a2_1, .int .i64 a2_2] 55 (0, 0)) (by repeat (first | (with_reducible first | exact BK430.out | refine blk_drewN ?_ _ | refine blk_drew ?_ | refine blk_alloc ?_ _) | exact BK430.out)) hb); replace HB := Aside0.mk (below_step (by repeat (first | (with_reducible first | exact HB.out | apply below_alloc | apply pw_below_drewN | apply below_drew1 | refine below_set ?_ (Aside0.out (by assumption))) | exact HB.out)) hb); (try clear hb); (try clear hb2); (try clear hk); (try clear hi); (try clear ho0)))
     go_loopg [12] kj3 (fun kq v12 w' => ∃ (x12_2 : Int), v12 = .int .i64 x12_2 ∧ Aside0 (acmelaw01_ThreadAgrees.l0 kq l0 y435 t438 t441 t442 t445 x12_2 a1_0 a1_1 a1_2 a1_3 a1_4 a1_5 a1_6 a1_7 a1_8 a1_9 a1_10 a1_11 a1_12 a1_13 a1_14 a2_0 a2_1 a2_2 = some r) ∧ Aside0 (kq ≤ kj3) ∧ Aside0 (Kd.R k23 23 w' w.heap.size (fun _ => True) (.slice Ao20 y435.length co20) y435) ∧ Aside0 (Kd.R (Kd.int .i64) 3 w' w.heap.size (fun _ => True) v439 t438) ∧ Aside0 (Kd.R k67 67 w' w.heap.size (fun _ => True) v443 t442) ∧ Aside0 (w'.heap[gb429]? = some (.cells #[.int .i64 a1_0, .int .i64 a1_1, .int .i64 a1_2, .int .i64 a1_3, .int .i64 a1_4, .int .i64 a1_5, .int .i64 a1_6, .int .i64 a1_7, .int .i64 a1_8, .int .i64 a1_9, .int .i64 a1_10, .int .i64 a1_11, .int .i64 a1_12, .int .i64 a1_13, .int .i64 a1_14] 53 (0, 0))) ∧ Aside0 (w'.heap[gb430]? = some (.cells #[.int .i64 a2_0, .int .i64 a2_1, .int .i64 a2_2] 55 (0, 0))) ∧ Aside0 (Below w.heap.size w w'))
     case atStart => exact ⟨(0), (by first | rfl | (simp; done) | (simp [*]; done)), H', ⟨Nat.le_refl _⟩, ⟨by (with_reducible repeat (first | apply Kd.R_alloc | apply Kd.R_drewN | apply Kd.R_drew)); exact HO437.out⟩, ⟨by (with_reducible repeat (first | apply Kd.R_alloc | apply Kd.R_drewN | apply Kd.R_drew)); exact HO440.out⟩, ⟨by (with_reducible repeat (first | apply Kd.R_alloc | apply Kd.R_drewN | apply Kd.R_drew)); exact HO444.out⟩, BK429, BK430, ⟨by repeat (first | (with_reducible first | exact HB.out | apply below_alloc | apply pw_below_drewN | apply below_drew1 | refine below_set ?_ (Aside0.out (by assumption))) | exact HB.out)⟩⟩
     case round => as_aux_lemma =>
      clear H'
      try clear c1; try clear p2; try clear c3; try clear c7; try clear c7b0; try clear c7b1; try clear c8; try clear c8b0; try clear c8b1; try clear c9; try clear c12; try clear c18; try clear hcz19_0; try clear hcz19_1; try clear hcz19_10; try clear hcz19_11; try clear hcz19_12; try clear hcz19_13; try clear hcz19_14; try clear hcz19_2; try clear hcz19_3; try clear hcz19_4; try clear hcz19_5; try clear hcz19_6; try clear hcz19_7; try clear hcz19_8; try clear hcz19_9; try clear hcz22_0; try clear hcz22_1; try clear hcz22_2; try clear hfz19_0; try clear hfz19_1; try clear hfz19_10; try clear hfz19_11; try clear hfz19_12; try clear hfz19_13; try clear hfz19_14; try clear hfz19_2; try clear hfz19_3; try clear hfz19_4; try clear hfz19_5; try clear hfz19_6; try clear hfz19_7; try clear hfz19_8; try clear hfz19_9; try clear hfz22_0; try clear hfz22_1; try clear hfz22_2; try clear p2
      obtain ⟨x12_2, rfl, HA, HK2, HO_7, HO_8, HO_10, BK429, BK430, HB⟩ := hrel
      cases gk with
      | zero => exact absurd HA.out (by simp [acmelaw01_ThreadAgrees.l0])
      | succ k2 =>
       have H := HA.out
       clear HA
       simp only [acmelaw01_ThreadAgrees.l0] at H
       by_cases c24 : x12_2 < (l0.length : Int)
       ·rw [if_pos c24] at H
        have c24b0 : decide (x12_2 < (l0.length : Int)) = true := decide_eq_true c24
        clear c24
        by_cases c25 : 0 ≤ x12_2
        ·rw [if_pos c25] at H
         have c25b0 : decide (0 ≤ x12_2) = true := decide_eq_true c25
         clear c25
         by_cases c26 : x12_2 < (y435.length : Int)
         ·rw [if_pos c26] at H
          have c26b0 : decide (x12_2 < (y435.length : Int)) = true := decide_eq_true c26
          clear c26
          by_cases c27 : (!(((rd_T23 y435 x12_2).f0) == ((rd_T23 l0 x12_2).f0)) || (!(((rd_T23 y435 x12_2).f1) == ((rd_T23 l0 x12_2).f1)) || (!(((rd_T23 y435 x12_2).f2) == ((rd_T23 l0 x12_2).f2)) || (!(((rd_T23 y435 x12_2).f3) == ((rd_T23 l0 x12_2).f3)) || (!(((rd_T23 y435 x12_2).f4) == ((rd_T23 l0 x12_2).f4)) || (!(((rd_T23 y435 x12_2).f5) == ((rd_T23 l0 x12_2).f5)) || (!(((rd_T23 y435 x12_2).f6) == ((rd_T23 l0 x12_2).f6)) || (!(((rd_T23 y435 x12_2).f7) == ((rd_T23 l0 x12_2).f7)))))))))) = true
          ·rw [if_pos c27] at H
           exact absurd H (by simp)
          ·rw [if_neg c27] at H
           have c27b0 : (!(((rd_T23 y435 x12_2).f0) == ((rd_T23 l0 x12_2).f0)) || (!(((rd_T23 y435 x12_2).f1) == ((rd_T23 l0 x12_2).f1)) || (!(((rd_T23 y435 x12_2).f2) == ((rd_T23 l0 x12_2).f2)) || (!(((rd_T23 y435 x12_2).f3) == ((rd_T23 l0 x12_2).f3)) || (!(((rd_T23 y435 x12_2).f4) == ((rd_T23 l0 x12_2).f4)) || (!(((rd_T23 y435 x12_2).f5) == ((rd_T23 l0 x12_2).f5)) || (!(((rd_T23 y435 x12_2).f6) == ((rd_T23 l0 x12_2).f6)) || (!(((rd_T23 y435 x12_2).f7) == ((rd_T23 l0 x12_2).f7)))))))))) = false := by simpa using c27
           clear c27
           have H' := Aside0.mk H
           clear H
           try go_wp2
           have n0_ := Aside0.mk (Kd.R_drew HO_7.out)
           have n1_ := Aside0.mk (Kd.R_drew HO_8.out)
           have n2_ := Aside0.mk (Kd.R_drew HO_10.out)
           have n3_ := Aside0.mk (blk_drew BK429.out)
           have n4_ := Aside0.mk (blk_drew BK430.out)
           have n5_ := Aside0.mk (below_drew1 HB.out)
           clear HO_7
           clear HO_8
           clear HO_10
           clear BK429
           clear BK430
           clear HB
           have HO_7 := n0_
           have HO_8 := n1_
           have HO_10 := n2_
           have BK429 := n3_
           have BK430 := n4_
           have HB := n5_
           clear n0_ n1_ n2_ n3_ n4_ n5_
           have p446 : 0 ≤ (x12_2 : Int) := of_decide_eq_true (by first | (with_reducible assumption) | assumption)
           have q446 : x12_2 < (y435.length : Int) := of_decide_eq_true (by first | (with_reducible assumption) | assumption)
           obtain ⟨ad446, e446, hx446_0, hx446_1, hx446_2, hx446_3, hx446_4, hx446_5, hx446_6, hx446_7⟩ := at_T23 (Kd.R_reads' HO_7.out).2.2 x12_2 p446 q446
           cases e446
           replace p446 := eq_true p446
           replace q446 := eq_true q446
           have p447 : 0 ≤ (x12_2 : Int) := of_decide_eq_true (by first | (with_reducible assumption) | assumption)
           have q447 : x12_2 < (l0.length : Int) := of_decide_eq_true (by first | (with_reducible assumption) | assumption)
           obtain ⟨ad447, e447, hx447_0, hx447_1, hx447_2, hx447_3, hx447_4, hx447_5, hx447_6, hx447_7⟩ := at_T23 HR0.out x12_2 p447 q447
           have hw447_7 := hx447_7
           have hw447_6 := hx447_6
           have hw447_5 := hx447_5
           have hw447_4 := hx447_4
           have hw447_3 := hx447_3
           have hw447_2 := hx447_2
           have hw447_1 := hx447_1
           have hw447_0 := hx447_0
           cases e447
           replace hx447_0 := (HB.out.cell (World.block_lt_of_cell? w _ hx447_0)).trans hx447_0
           replace hx447_1 := (HB.out.cell (World.block_lt_of_cell? w _ hx447_1)).trans hx447_1
           replace hx447_2 := (HB.out.cell (World.block_lt_of_cell? w _ hx447_2)).trans hx447_2
           replace hx447_3 := (HB.out.cell (World.block_lt_of_cell? w _ hx447_3)).trans hx447_3
           replace hx447_4 := (HB.out.cell (World.block_lt_of_cell? w _ hx447_4)).trans hx447_4
           replace hx447_5 := (HB.out.cell (World.block_lt_of_cell? w _ hx447_5)).trans hx447_5
           replace hx447_6 := (HB.out.cell (World.block_lt_of_cell? w _ hx447_6)).trans hx447_6
           replace hx447_7 := (HB.out.cell (World.block_lt_of_cell? w _ hx447_7)).trans hx447_7
           replace p447 := eq_true p447
           replace q447 := eq_true q447
           refine start_ (n := 9) (S := fun w' => w'.cell? (ad446.add ((x12_2).toNat * 8)) = some (.int .i64 ((rd_T23 y435 x12_2).f0)) ∧ w'.cell? ⟨(ad446.add ((x12_2).toNat * 8)).block, (ad446.add ((x12_2).toNat * 8)).off + 1, none⟩ = some (.int .i64 ((rd_T23 y435 x12_2).f1)) ∧ w'.cell? ⟨(ad446.add ((x12_2).toNat * 8)).block, (ad446.add ((x12_2).toNat * 8)).off + 2, none⟩ = some (.int .i64 ((rd_T23 y435 x12_2).f2)) ∧ w'.cell? ⟨(ad446.add ((x12_2).toNat * 8)).block, (ad446.add ((x12_2).toNat * 8)).off + 3, none⟩ = some (.int .i64 ((rd_T23 y435 x12_2).f3)) ∧ w'.cell? ⟨(ad446.add ((x12_2).toNat * 8)).block, (ad446.add ((x12_2).toNat * 8)).off + 4, none⟩ = some (.int .i64 ((rd_T23 y435 x12_2).f4)) ∧ w'.cell? ⟨(ad446.add ((x12_2).toNat * 8)).block, (ad446.add ((x12_2).toNat * 8)).off + 5, none⟩ = some (.int .i64 ((rd_T23 y435 x12_2).f5)) ∧ w'.cell? ⟨(ad446.add ((x12_2).toNat * 8)).block, (ad446.add ((x12_2).toNat * 8)).off + 6, none⟩ = some (.bool ((rd_T23 y435 x12_2).f6)) ∧ w'.cell? ⟨(ad446.add ((x12_2).toNat * 8)).block, (ad446.add ((x12_2).toNat * 8)).off + 7, none⟩ = some (.int .i64 ((rd_T23 y435 x12_2).f7)) ∧ w'.cell? (ad447.add ((x12_2).toNat * 8)) = some (.int .i64 ((rd_T23 l0 x12_2).f0)) ∧ w'.cell? ⟨(ad447.add ((x12_2).toNat * 8)).block, (ad447.add ((x12_2).toNat * 8)).off + 1, none⟩ = some (.int .i64 ((rd_T23 l0 x12_2).f1)) ∧ w'.cell? ⟨(ad447.add ((x12_2).toNat * 8)).block, (ad447.add ((x12_2).toNat * 8)).off + 2, none⟩ = some (.int .i64 ((rd_T23 l0 x12_2).f2)) ∧ w'.cell? ⟨(ad447.add ((x12_2).toNat * 8)).block, (ad447.add ((x12_2).toNat * 8)).off + 3, none⟩ = some (.int .i64 ((rd_T23 l0 x12_2).f3)) ∧ w'.cell? ⟨(ad447.add ((x12_2).toNat * 8)).block, (ad447.add ((x12_2).toNat * 8)).off + 4, none⟩ = some (.int .i64 ((rd_T23 l0 x12_2).f4)) ∧ w'.cell? ⟨(ad447.add ((x12_2).toNat * 8)).block, (ad447.add ((x12_2).toNat * 8)).off + 5, none⟩ = some (.int .i64 ((rd_T23 l0 x12_2).f5)) ∧ w'.cell? ⟨(ad447.add ((x12_2).toNat * 8)).block, (ad447.add ((x12_2).toNat * 8)).off + 6, none⟩ = some (.bool ((rd_T23 l0 x12_2).f6)) ∧ w'.cell? ⟨(ad447.add ((x12_2).toNat * 8)).block, (ad447.add ((x12_2).toNat * 8)).off + 7, none⟩ = some (.int .i64 ((rd_T23 l0 x12_2).f7))) (ds := []) #[false, false, false, false, false, false, false, false, false] (by kernel_rfl) rfl rfl ⟨hx446_0, hx446_1, hx446_2, hx446_3, hx446_4, hx446_5, hx446_6, hx446_7, ((HB.out.cell (World.block_lt_of_cell? w _ hw447_0)).trans hw447_0), ((HB.out.cell (World.block_lt_of_cell? w _ hw447_1)).trans hw447_1), ((HB.out.cell (World.block_lt_of_cell? w _ hw447_2)).trans hw447_2), ((HB.out.cell (World.block_lt_of_cell? w _ hw447_3)).trans hw447_3), ((HB.out.cell (World.block_lt_of_cell? w _ hw447_4)).trans hw447_4), ((HB.out.cell (World.block_lt_of_cell? w _ hw447_5)).trans hw447_5), ((HB.out.cell (World.block_lt_of_cell? w _ hw447_6)).trans hw447_6), ((HB.out.cell (World.block_lt_of_cell? w _ hw447_7)).trans hw447_7)⟩ (fun hHeld => ?_); refine with_tabW acmelaw01_ThreadAgrees.tab9 acmelaw01_ThreadAgrees.bits9 (fun HT_ HW_ => ?_)
           generalize wr.drew = w28 at HO_7 HO_8 HO_10 BK429 BK430 HB hx446_0 hx446_1 hx446_2 hx446_3 hx446_4 hx446_5 hx446_6 hx446_7 hx447_0 hx447_1 hx447_2 hx447_3 hx447_4 hx447_5 hx447_6 hx447_7 hHeld ⊢
           refine pure_ (i := 0) (N := some 54) (v := ?_) (a' := ?_) #[true, false, false, false, false, false, false, false, false] rfl rfl (any_of HT_.out (by kernel_rfl)) (fun _ _ _ h => h) (Or.inl ⟨by rfl, ?_⟩) ?_ ?_
           rotate_left
           ·intro w'
            go_simp
            with_reducible rfl
           rotate_left
           ·simp only [Act.put, List.setIfInBounds_toArray, List.set_cons_zero, List.set_cons_succ, i64_w, i32_w]
            rfl
           refine pure_ (i := 1) (N := some 55) (v := ?_) (a' := ?_) #[true, true, false, false, false, false, false, false, false] rfl rfl (any_of HT_.out (by kernel_rfl)) (fun _ _ _ h => h) (Or.inl ⟨by rfl, ?_⟩) ?_ ?_
           rotate_left
           ·intro w'
            go_simp
            with_reducible rfl
           rotate_left
           ·simp only [Act.put, List.setIfInBounds_toArray, List.set_cons_zero, List.set_cons_succ, i64_w, i32_w]
            rfl
           refine pure_ (i := 2) (N := some 56) (v := ?_) (a' := ?_) #[true, true, true, false, false, false, false, false, false] rfl rfl (any_of HT_.out (by kernel_rfl)) (fun _ _ _ h => h) (Or.inl ⟨by rfl, ?_⟩) ?_ ?_
           rotate_left
           ·intro w'
            go_simp
            with_reducible rfl
           rotate_left
           ·simp only [Act.put, List.setIfInBounds_toArray, List.set_cons_zero, List.set_cons_succ, i64_w, i32_w]
            rfl
           refine pure_ (i := 4) (N := some 58) (v := ?_) (a' := ?_) #[true, true, true, false, true, false, false, false, false] rfl rfl (any_of HT_.out (by kernel_rfl)) (fun _ _ _ h => h) (Or.inl ⟨by rfl, ?_⟩) ?_ ?_
           rotate_left
           ·intro w'
            go_simp
            with_reducible rfl
           rotate_left
           ·simp only [Act.put, List.setIfInBounds_toArray, List.set_cons_zero, List.set_cons_succ, i64_w, i32_w]
            rfl
           refine pure_ (i := 5) (N := some 59) (v := ?_) (a' := ?_) #[true, true, true, false, true, true, false, false, false] rfl rfl (any_of HT_.out (by kernel_rfl)) (fun _ _ _ h => h) (Or.inl ⟨by rfl, ?_⟩) ?_ ?_
           rotate_left
           ·intro w'
            go_simp
            with_reducible rfl
           rotate_left
           ·simp only [Act.put, List.setIfInBounds_toArray, List.set_cons_zero, List.set_cons_succ, i64_w, i32_w]
            rfl
           refine pure_ (i := 6) (N := some 60) (v := ?_) (a' := ?_) #[true, true, true, false, true, true, true, false, false] rfl rfl (any_of HT_.out (by kernel_rfl)) (fun _ _ _ h => h) (Or.inl ⟨by rfl, ?_⟩) ?_ ?_
           rotate_left
           ·intro w'
            go_simp
            with_reducible rfl
           rotate_left
           ·simp only [Act.put, List.setIfInBounds_toArray, List.set_cons_zero, List.set_cons_succ, i64_w, i32_w]
            rfl
           refine take_ (i := 3) (N := some 57) (v := ?_) (a' := ?_) #[true, true, true, true, true, true, true, false, false] rfl rfl (take_ofW HT_.out HW_.out (by kernel_rfl)) (fun _ _ _ h => h) (Or.inl ⟨by rfl, ?_⟩) hHeld ?_ ?_
           rotate_left
           ·rintro w' ⟨s0, s1, s2, s3, s4, s5, s6, s7, s8, s9, s10, s11, s12, s13, s14, s15⟩
            go_simp
            with_reducible rfl
           rotate_left
           ·simp only [Act.put, List.setIfInBounds_toArray, List.set_cons_zero, List.set_cons_succ, i64_w, i32_w]
            rfl
           refine take_ (i := 7) (N := some 61) (v := ?_) (a' := ?_) #[true, true, true, true, true, true, true, true, false] rfl rfl (take_ofW HT_.out HW_.out (by kernel_rfl)) (fun _ _ _ h => h) (Or.inl ⟨by rfl, ?_⟩) hHeld ?_ ?_
           rotate_left
           ·rintro w' ⟨s0, s1, s2, s3, s4, s5, s6, s7, s8, s9, s10, s11, s12, s13, s14, s15⟩
            go_simp
            with_reducible rfl
           rotate_left
           ·simp only [Act.put, List.setIfInBounds_toArray, List.set_cons_zero, List.set_cons_succ, i64_w, i32_w]
            rfl
           refine pure_ (i := 8) (N := some 62) (v := ?_) (a' := ?_) #[true, true, true, true, true, true, true, true, true] rfl rfl (any_of HT_.out (by kernel_rfl)) (fun _ _ _ h => h) (Or.inl ⟨by rfl, ?_⟩) ?_ ?_
           rotate_left
           ·intro w'
            go_simp
            with_reducible rfl
           rotate_left
           ·simp only [Act.put, List.setIfInBounds_toArray, List.set_cons_zero, List.set_cons_succ, i64_w, i32_w]
            rfl
           refine done_ (done_of HT_.out (by kernel_rfl)) ?_
           try go_wp2
           go_roundg k2
           case measure => have := HJ3.out; have := HK2.out; omega
           case rel => exact ⟨(wrap64 (x12_2 + 1)), (by first | rfl | (simp; done) | (simp [*]; done)), H', ⟨by have := HJ3.out; have := HK2.out; omega⟩, ⟨by (with_reducible repeat (first | apply Kd.R_alloc | apply Kd.R_drewN | apply Kd.R_drew)); exact HO_7.out⟩, ⟨by (with_reducible repeat (first | apply Kd.R_alloc | apply Kd.R_drewN | apply Kd.R_drew)); exact HO_8.out⟩, ⟨by (with_reducible repeat (first | apply Kd.R_alloc | apply Kd.R_drewN | apply Kd.R_drew)); exact HO_10.out⟩, BK429, BK430, ⟨by repeat (first | (with_reducible first | exact HB.out | apply below_alloc | apply pw_below_drewN | apply below_drew1 | refine below_set ?_ (Aside0.out (by assumption))) | exact HB.out)⟩⟩
         ·rw [if_neg c26] at H
          exact absurd H (by simp)
        ·rw [if_neg c25] at H
         exact absurd H (by simp)
       ·rw [if_neg c24] at H
        have c24b0 : decide (x12_2 < (l0.length : Int)) = false := decide_eq_false c24
        clear c24
        replace H := Option.bind_eq_some_iff.mp H
        obtain ⟨t448, A290, H⟩ := H; (try dsimp only at H)
        have A29 := Aside0.mk A290
        clear A290
        by_cases c30 : t448 = 0
        ·rw [if_pos c30] at H
         have c30b0 : (t448 == 0) = true := beq_iff_eq.mpr c30
         have c30b1 : (t448 != 0) = false := bne_eq_false_iff_eq.mpr c30
         clear c30
         obtain ⟨y450, hy450⟩ : ∃ y_ : List Int, y_ = (([] : List Int)) := ⟨_, rfl⟩
         replace H : (acmelaw01_ThreadAgrees.l1 k2 l0 t438 t441 t442 t445 y450 0 a1_0 a1_1 a1_2 a1_3 a1_4 a1_5 a1_6 a1_7 a1_8 a1_9 a1_10 a1_11 a1_12 a1_13 a1_14 a2_0 a2_1 a2_2) = some r := by first | (rw [hy450]; with_reducible exact H) | (have H2_ := (Option.bind_some _ _).symm.trans H; rw [hy450]; with_reducible exact H2_) | (have H2_ := (Option.bind_some _ _).symm.trans H; with_reducible exact H2_) | with_reducible exact H | (rw [hy450]; exact H) | exact H
         have Ny450 := Aside0.mk hy450
         clear hy450
         have H' := Aside0.mk H
         clear H
         go_wp2_with (first | ((with_reducible refine gate_callee (f := 32) rfl ?_); refine goesL_ (some 64) rfl rfl Try.func32 (by kernel_rfl) rfl #[.slice A0 l0.length c0] rfl (by (try simp only [List.map_toArray, List.map_cons, List.map_nil]); first | done | rfl | (simp only [List.length_drop, List.length_take]; rfl)) ?_; (with_reducible refine (acmeref01_Table.calls k2 _ _ l0 t448 _ ?side1 ?side2 A29.out).mono ?_); (case side1 => repeat (first | exact (Kd.C_below HR0.out HB.out) | (with_reducible refine Kd.C_alloc ?_ _) | (with_reducible refine Kd.C_drewN ?_ _) | (with_reducible refine Kd.C_drew ?_))); (case side2 => exact HC0.out); rintro e w31 ⟨rfl, hb⟩; refine ⟨_, rfl, ?_⟩; replace HO_7 := Aside0.mk (Kd.R_below (by (with_reducible repeat (first | apply Kd.R_alloc | apply Kd.R_drewN | apply Kd.R_drew)); exact HO_7.out) hb); replace HO_8 := Aside0.mk (Kd.R_below (by (with_reducible repeat (first | apply Kd.R_alloc | apply Kd.R_drewN | apply Kd.R_drew)); exact HO_8.out) hb); replace HO_10 := Aside0.mk (Kd.R_below (by (with_reducible repeat (first | apply Kd.R_alloc | apply Kd.R_drewN | apply Kd.R_drew)); exact HO_10.out) hb); replace BK429 := Aside0.mk (blk_below (g := gb429) (o := .cells #[.int .i64 a1_0, .int .i64 a1_1, .int .i64 a1_2, .int .i64 a1_3, .int .i64 a1_4, .int .i64 a1_5, .int .i64 a1_6, .int .i64 a1_7, .int .i64 a1_8, .int .i64 a1_9, .int .i64 a1_10, .int .i64 a1_11, .int .i64 a1_12, .int .i64 a1_13, .int .i64 a1_14] 53 (0, 0)) (by repeat (first | (with_reducible first | exact BK429.out | refine blk_drewN ?_ _ | refine blk_drew ?_ | refine blk_alloc ?_ _) | exact BK429.out)) hb); replace BK430 := Aside0.mk (blk_below (g := gb430) (o := .cells #[.int .i64 a2_0, .int .i64 a2_1, .int .i64 a2_2] 55 (0, 0)) (by repeat (first | (with_reducible first | exact BK430.out | refine blk_drewN ?_ _ | refine blk_drew ?_ | refine blk_alloc ?_ _) | exact BK430.out)) hb); replace HB := Aside0.mk (below_step (by repeat (first | (with_reducible first | exact HB.out | apply below_alloc | apply pw_below_drewN | apply below_drew1 | refine below_set ?_ (Aside0.out (by assumption))) | exact HB.out)) hb); (try clear hb); (try clear hb2); (try clear hk); (try clear hi)) | ((with_reducible refine gate_dst (N := 86) rfl ?_); (try (refine gate_guard (by rfl) ?_; dsimp only)); refine Kd.R_lit (Kd.int .i64) _ 3 ?hg (N := 86) ?hd (xs := ([] : List Int)) (inner := []) (ok := fun _ => True) (okp := fun _ => True) ?hr ?hp (fun _ hk => hk) trivial (Below.refl _ _) (Nat.le_refl _) (by simp) ?_; (case hd => rfl); (case hg => rfl); (case hr => first | (go_simp; done) | (go_simp; rfl)); (case hp => exact (Reps.none _ _)); intro v451 w32 ho33 hb hg_ hnew_; clear hg_ hnew_; (first | rw [← Ny450.out] at ho33 | (simp only [Int.reduceToNat] at ho33; rw [← Ny450.out] at ho33)); replace HO_7 := Aside0.mk (Kd.R_below (by (with_reducible repeat (first | apply Kd.R_alloc | apply Kd.R_drewN | apply Kd.R_drew)); exact HO_7.out) hb); replace HO_10 := Aside0.mk (Kd.R_below (by (with_reducible repeat (first | apply Kd.R_alloc | apply Kd.R_drewN | apply Kd.R_drew)); exact HO_10.out) hb); have HO452 := Aside0.mk (Kd.R_lower (Kd.R_new' ho33 (Kd.R_lt (by (with_reducible repeat (first | apply Kd.R_alloc | apply Kd.R_drewN | apply Kd.R_drew)); exact HO_8.out))) (below_size (by repeat (first | (with_reducible first | exact HB.out | apply below_alloc | apply pw_below_drewN | apply below_drew1 | refine below_set ?_ (Aside0.out (by assumption))) | exact HB.out)))); replace HO_8 := Aside0.mk (Kd.R_elder' (by (with_reducible repeat (first | apply Kd.R_alloc | apply Kd.R_drewN | apply Kd.R_drew)); exact HO_8.out) (Kd.R_base ho33) hb); replace BK429 := Aside0.mk (blk_below (g := gb429) (o := .cells #[.int .i64 a1_0, .int .i64 a1_1, .int .i64 a1_2, .int .i64 a1_3, .int .i64 a1_4, .int .i64 a1_5, .int .i64 a1_6, .int .i64 a1_7, .int .i64 a1_8, .int .i64 a1_9, .int .i64 a1_10, .int .i64 a1_11, .int .i64 a1_12, .int .i64 a1_13, .int .i64 a1_14] 53 (0, 0)) (by repeat (first | (with_reducible first | exact BK429.out | refine blk_drewN ?_ _ | refine blk_drew ?_ | refine blk_alloc ?_ _) | exact BK429.out)) hb); replace BK430 := Aside0.mk (blk_below (g := gb430) (o := .cells #[.int .i64 a2_0, .int .i64 a2_1, .int .i64 a2_2] 55 (0, 0)) (by repeat (first | (with_reducible first | exact BK430.out | refine blk_drewN ?_ _ | refine blk_drew ?_ | refine blk_alloc ?_ _) | exact BK430.out)) hb); replace HB := Aside0.mk (below_step (by repeat (first | (with_reducible first | exact HB.out | apply below_alloc | apply pw_below_drewN | apply below_drew1 | refine below_set ?_ (Aside0.out (by assumption))) | exact HB.out)) hb); clear hb ho33))
         go_loopg [14, 15] k2 (fun kq v14 v15 w' => ∃ (x14_3 : List Int) (x15_3 : Int), v15 = .int .i64 x15_3 ∧ Aside0 (acmelaw01_ThreadAgrees.l1 kq l0 t438 t441 t442 t445 x14_3 x15_3 a1_0 a1_1 a1_2 a1_3 a1_4 a1_5 a1_6 a1_7 a1_8 a1_9 a1_10 a1_11 a1_12 a1_13 a1_14 a2_0 a2_1 a2_2 = some r) ∧ Aside0 (kq ≤ k2) ∧ Aside0 (Kd.R (Kd.int .i64) 3 w' w.heap.size (fun k_ => some k_ ≠ (v14 : Value).ownBlock) v439 t438) ∧ Aside0 (Kd.R k67 67 w' w.heap.size (fun _ => True) v443 t442) ∧ Aside0 (Kd.R (Kd.int .i64) 3 w' w.heap.size (fun k_ => some k_ ≠ (v439 : Value).ownBlock) v14 x14_3) ∧ Aside0 (w'.heap[gb429]? = some (.cells #[.int .i64 a1_0, .int .i64 a1_1, .int .i64 a1_2, .int .i64 a1_3, .int .i64 a1_4, .int .i64 a1_5, .int .i64 a1_6, .int .i64 a1_7, .int .i64 a1_8, .int .i64 a1_9, .int .i64 a1_10, .int .i64 a1_11, .int .i64 a1_12, .int .i64 a1_13, .int .i64 a1_14] 53 (0, 0))) ∧ Aside0 (w'.heap[gb430]? = some (.cells #[.int .i64 a2_0, .int .i64 a2_1, .int .i64 a2_2] 55 (0, 0))) ∧ Aside0 (Below w.heap.size w w'))
         case atStart => exact ⟨(y450), (0), (by first | rfl | (simp; done) | (simp [*]; done)), H', ⟨Nat.le_refl _⟩, ⟨by (with_reducible repeat (first | apply Kd.R_alloc | apply Kd.R_drewN | apply Kd.R_drew)); exact Kd.R_mono HO_8.out (fun _ hk => hk.2)⟩, ⟨by (with_reducible repeat (first | apply Kd.R_alloc | apply Kd.R_drewN | apply Kd.R_drew)); exact HO_10.out⟩, ⟨by (with_reducible repeat (first | apply Kd.R_alloc | apply Kd.R_drewN | apply Kd.R_drew)); exact Kd.R_mono HO452.out (fun _ hk => hk.2)⟩, BK429, BK430, ⟨by repeat (first | (with_reducible first | exact HB.out | apply below_alloc | apply pw_below_drewN | apply below_drew1 | refine below_set ?_ (Aside0.out (by assumption))) | exact HB.out)⟩⟩
         case round => as_aux_lemma =>
          clear H'
          try clear c1; try clear c2; try clear p2; try clear c3; try clear p4; try clear q4; try clear hx4; try clear p6; try clear c7; try clear c7b0; try clear c7b1; try clear c8; try clear c8b0; try clear c8b1; try clear c9; try clear c12; try clear c18; try clear c24; try clear c24b0; try clear c25; try clear c25b0; try clear c26; try clear c26b0; try clear c27; try clear c27b0; try clear c30; try clear c30b0; try clear c30b1; try clear c31; try clear c32; try clear hcz19_0; try clear hcz19_1; try clear hcz19_10; try clear hcz19_11; try clear hcz19_12; try clear hcz19_13; try clear hcz19_14; try clear hcz19_2; try clear hcz19_3; try clear hcz19_4; try clear hcz19_5; try clear hcz19_6; try clear hcz19_7; try clear hcz19_8; try clear hcz19_9; try clear hcz22_0; try clear hcz22_1; try clear hcz22_2; try clear hfz19_0; try clear hfz19_1; try clear hfz19_10; try clear hfz19_11; try clear hfz19_12; try clear hfz19_13; try clear hfz19_14; try clear hfz19_2; try clear hfz19_3; try clear hfz19_4; try clear hfz19_5; try clear hfz19_6; try clear hfz19_7; try clear hfz19_8; try clear hfz19_9; try clear hfz22_0; try clear hfz22_1; try clear hfz22_2; try clear hx446_0; try clear hx446_1; try clear hx446_2; try clear hx446_3; try clear hx446_4; try clear hx446_5; try clear hx446_6; try clear hx446_7; try clear hx447_0; try clear hx447_1; try clear hx447_2; try clear hx447_3; try clear hx447_4; try clear hx447_5; try clear hx447_6; try clear hx447_7; try clear p2; try clear p446; try clear p447; try clear q446; try clear q447
          obtain ⟨x14_3, x15_3, rfl, HA, HK3, HO_8, HO_10, HO_14, BK429, BK430, HB⟩ := hrel
          cases gk with
          | zero => exact absurd HA.out (by simp [acmelaw01_ThreadAgrees.l1])
          | succ k3 =>
           have H := HA.out
           clear HA
           simp only [acmelaw01_ThreadAgrees.l1] at H
           by_cases c34 : x15_3 < (l0.length : Int)
           ·rw [if_pos c34] at H
            have c34b0 : decide (x15_3 < (l0.length : Int)) = true := decide_eq_true c34
            clear c34
            by_cases c35 : 0 ≤ x15_3
            ·rw [if_pos c35] at H
             have c35b0 : decide (0 ≤ x15_3) = true := decide_eq_true c35
             clear c35
             replace H := Option.bind_eq_some_iff.mp H
             obtain ⟨t454, A360, H⟩ := H; (try dsimp only at H)
             have A36 := Aside0.mk A360
             clear A360
             by_cases c37 : t454 = true
             ·subst c37
              have H1 : (if x14_3.length < 17592186044416 then (acmelaw01_ThreadAgrees.l1 k3 l0 t438 t441 t442 t445 (x14_3 ++ [x15_3]) (wrap64 (x15_3 + 1)) a1_0 a1_1 a1_2 a1_3 a1_4 a1_5 a1_6 a1_7 a1_8 a1_9 a1_10 a1_11 a1_12 a1_13 a1_14 a2_0 a2_1 a2_2) else (none)) = some r := by rw [if_pos rfl] at H; exact H
              clear H
              have H := H1
              clear H1
              by_cases c38 : x14_3.length < 17592186044416
              ·rw [if_pos c38] at H
               have LMc38 := Aside0.mk c38
               clear c38
               obtain ⟨y455, hy455⟩ : ∃ y_ : List Int, y_ = (x14_3 ++ [x15_3]) := ⟨_, rfl⟩
               replace H : (acmelaw01_ThreadAgrees.l1 k3 l0 t438 t441 t442 t445 y455 (wrap64 (x15_3 + 1)) a1_0 a1_1 a1_2 a1_3 a1_4 a1_5 a1_6 a1_7 a1_8 a1_9 a1_10 a1_11 a1_12 a1_13 a1_14 a2_0 a2_1 a2_2) = some r := by first | (rw [hy455]; with_reducible exact H) | (have H2_ := (Option.bind_some _ _).symm.trans H; rw [hy455]; with_reducible exact H2_) | (have H2_ := (Option.bind_some _ _).symm.trans H; with_reducible exact H2_) | with_reducible exact H | (rw [hy455]; exact H) | exact H
               have Ny455 := Aside0.mk hy455
               clear hy455
               have H' := Aside0.mk H
               clear H
               try go_wp2
               have n0_ := Aside0.mk (Kd.R_drew HO_8.out)
               have n1_ := Aside0.mk (Kd.R_drew HO_10.out)
               have n2_ := Aside0.mk (Kd.R_drew HO_14.out)
               have n3_ := Aside0.mk (blk_drew BK429.out)
               have n4_ := Aside0.mk (blk_drew BK430.out)
               have n5_ := Aside0.mk (below_drew1 HB.out)
               clear HO_8
               clear HO_10
               clear HO_14
               clear BK429
               clear BK430
               clear HB
               have HO_8 := n0_
               have HO_10 := n1_
               have HO_14 := n2_
               have BK429 := n3_
               have BK430 := n4_
               have HB := n5_
               clear n0_ n1_ n2_ n3_ n4_ n5_
               have p453 : 0 ≤ (x15_3 : Int) := of_decide_eq_true (by first | (with_reducible assumption) | assumption)
               have q453 : x15_3 < (l0.length : Int) := of_decide_eq_true (by first | (with_reducible assumption) | assumption)
               obtain ⟨ad453, e453, hx453_0, hx453_1, hx453_2, hx453_3, hx453_4, hx453_5, hx453_6, hx453_7⟩ := at_T23 HR0.out x15_3 p453 q453
               have hw453_7 := hx453_7
               have hw453_6 := hx453_6
               have hw453_5 := hx453_5
               have hw453_4 := hx453_4
               have hw453_3 := hx453_3
               have hw453_2 := hx453_2
               have hw453_1 := hx453_1
               have hw453_0 := hx453_0
               cases e453
               replace hx453_0 := (HB.out.cell (World.block_lt_of_cell? w _ hx453_0)).trans hx453_0
               replace hx453_1 := (HB.out.cell (World.block_lt_of_cell? w _ hx453_1)).trans hx453_1
               replace hx453_2 := (HB.out.cell (World.block_lt_of_cell? w _ hx453_2)).trans hx453_2
               replace hx453_3 := (HB.out.cell (World.block_lt_of_cell? w _ hx453_3)).trans hx453_3
               replace hx453_4 := (HB.out.cell (World.block_lt_of_cell? w _ hx453_4)).trans hx453_4
               replace hx453_5 := (HB.out.cell (World.block_lt_of_cell? w _ hx453_5)).trans hx453_5
               replace hx453_6 := (HB.out.cell (World.block_lt_of_cell? w _ hx453_6)).trans hx453_6
               replace hx453_7 := (HB.out.cell (World.block_lt_of_cell? w _ hx453_7)).trans hx453_7
               replace p453 := eq_true p453
               replace q453 := eq_true q453
               refine start_ (n := 6) (S := fun w' => w'.cell? ⟨gb429, 0, none⟩ = some (.int .i64 a1_0) ∧ w'.cell? ⟨gb429, 1, none⟩ = some (.int .i64 a1_1) ∧ w'.cell? ⟨gb429, 2, none⟩ = some (.int .i64 a1_2) ∧ w'.cell? ⟨gb429, 3, none⟩ = some (.int .i64 a1_3) ∧ w'.cell? ⟨gb429, 4, none⟩ = some (.int .i64 a1_4) ∧ w'.cell? ⟨gb429, 5, none⟩ = some (.int .i64 a1_5) ∧ w'.cell? ⟨gb429, 6, none⟩ = some (.int .i64 a1_6) ∧ w'.cell? ⟨gb429, 7, none⟩ = some (.int .i64 a1_7) ∧ w'.cell? ⟨gb429, 8, none⟩ = some (.int .i64 a1_8) ∧ w'.cell? ⟨gb429, 9, none⟩ = some (.int .i64 a1_9) ∧ w'.cell? ⟨gb429, 10, none⟩ = some (.int .i64 a1_10) ∧ w'.cell? ⟨gb429, 11, none⟩ = some (.int .i64 a1_11) ∧ w'.cell? ⟨gb429, 12, none⟩ = some (.int .i64 a1_12) ∧ w'.cell? ⟨gb429, 13, none⟩ = some (.int .i64 a1_13) ∧ w'.cell? ⟨gb429, 14, none⟩ = some (.int .i64 a1_14) ∧ w'.cell? (ad453.add ((x15_3).toNat * 8)) = some (.int .i64 ((rd_T23 l0 x15_3).f0)) ∧ w'.cell? ⟨(ad453.add ((x15_3).toNat * 8)).block, (ad453.add ((x15_3).toNat * 8)).off + 1, none⟩ = some (.int .i64 ((rd_T23 l0 x15_3).f1)) ∧ w'.cell? ⟨(ad453.add ((x15_3).toNat * 8)).block, (ad453.add ((x15_3).toNat * 8)).off + 2, none⟩ = some (.int .i64 ((rd_T23 l0 x15_3).f2)) ∧ w'.cell? ⟨(ad453.add ((x15_3).toNat * 8)).block, (ad453.add ((x15_3).toNat * 8)).off + 3, none⟩ = some (.int .i64 ((rd_T23 l0 x15_3).f3)) ∧ w'.cell? ⟨(ad453.add ((x15_3).toNat * 8)).block, (ad453.add ((x15_3).toNat * 8)).off + 4, none⟩ = some (.int .i64 ((rd_T23 l0 x15_3).f4)) ∧ w'.cell? ⟨(ad453.add ((x15_3).toNat * 8)).block, (ad453.add ((x15_3).toNat * 8)).off + 5, none⟩ = some (.int .i64 ((rd_T23 l0 x15_3).f5)) ∧ w'.cell? ⟨(ad453.add ((x15_3).toNat * 8)).block, (ad453.add ((x15_3).toNat * 8)).off + 6, none⟩ = some (.bool ((rd_T23 l0 x15_3).f6)) ∧ w'.cell? ⟨(ad453.add ((x15_3).toNat * 8)).block, (ad453.add ((x15_3).toNat * 8)).off + 7, none⟩ = some (.int .i64 ((rd_T23 l0 x15_3).f7))) (ds := []) #[false, false, false, false, false, false] (by kernel_rfl) rfl rfl ⟨(blk_cell BK429.out 0).trans rfl, (blk_cell BK429.out 1).trans rfl, (blk_cell BK429.out 2).trans rfl, (blk_cell BK429.out 3).trans rfl, (blk_cell BK429.out 4).trans rfl, (blk_cell BK429.out 5).trans rfl, (blk_cell BK429.out 6).trans rfl, (blk_cell BK429.out 7).trans rfl, (blk_cell BK429.out 8).trans rfl, (blk_cell BK429.out 9).trans rfl, (blk_cell BK429.out 10).trans rfl, (blk_cell BK429.out 11).trans rfl, (blk_cell BK429.out 12).trans rfl, (blk_cell BK429.out 13).trans rfl, (blk_cell BK429.out 14).trans rfl, ((HB.out.cell (World.block_lt_of_cell? w _ hw453_0)).trans hw453_0), ((HB.out.cell (World.block_lt_of_cell? w _ hw453_1)).trans hw453_1), ((HB.out.cell (World.block_lt_of_cell? w _ hw453_2)).trans hw453_2), ((HB.out.cell (World.block_lt_of_cell? w _ hw453_3)).trans hw453_3), ((HB.out.cell (World.block_lt_of_cell? w _ hw453_4)).trans hw453_4), ((HB.out.cell (World.block_lt_of_cell? w _ hw453_5)).trans hw453_5), ((HB.out.cell (World.block_lt_of_cell? w _ hw453_6)).trans hw453_6), ((HB.out.cell (World.block_lt_of_cell? w _ hw453_7)).trans hw453_7)⟩ (fun hHeld => ?_)
               generalize wr.drew = w39 at HO_8 HO_10 HO_14 BK429 BK430 HB hx453_0 hx453_1 hx453_2 hx453_3 hx453_4 hx453_5 hx453_6 hx453_7 hHeld ⊢
               refine pure_ (i := 0) (N := some 93) (v := ?_) (a' := ?_) #[true, false, false, false, false, false] rfl rfl (by kernel_rfl) (fun _ _ _ h => h) (Or.inl ⟨by rfl, ?_⟩) ?_ ?_
               rotate_left
               ·intro w'
                go_simp
                with_reducible rfl
               rotate_left
               ·simp only [Act.put, List.setIfInBounds_toArray, List.set_cons_zero, List.set_cons_succ, i64_w, i32_w]
                rfl
               refine pure_ (i := 1) (N := some 94) (v := ?_) (a' := ?_) #[true, true, false, false, false, false] rfl rfl (by kernel_rfl) (fun _ _ _ h => h) (Or.inl ⟨by rfl, ?_⟩) ?_ ?_
               rotate_left
               ·intro w'
                go_simp
                with_reducible rfl
               rotate_left
               ·simp only [Act.put, List.setIfInBounds_toArray, List.set_cons_zero, List.set_cons_succ, i64_w, i32_w]
                rfl
               refine pure_ (i := 2) (N := some 95) (v := ?_) (a' := ?_) #[true, true, true, false, false, false] rfl rfl (by kernel_rfl) (fun _ _ _ h => h) (Or.inl ⟨by rfl, ?_⟩) ?_ ?_
               rotate_left
               ·intro w'
                go_simp
                with_reducible rfl
               rotate_left
               ·simp only [Act.put, List.setIfInBounds_toArray, List.set_cons_zero, List.set_cons_succ, i64_w, i32_w]
                rfl
               refine take_ (i := 3) (N := some 96) (v := ?_) (a' := ?_) #[true, true, true, true, false, false] rfl rfl (by kernel_rfl) (fun _ _ _ h => h) (Or.inl ⟨by rfl, ?_⟩) hHeld ?_ ?_
               rotate_left
               ·rintro w' ⟨s0, s1, s2, s3, s4, s5, s6, s7, s8, s9, s10, s11, s12, s13, s14, s15, s16, s17, s18, s19, s20, s21, s22⟩
                go_simp
                with_reducible rfl
               rotate_left
               ·simp only [Act.put, List.setIfInBounds_toArray, List.set_cons_zero, List.set_cons_succ, i64_w, i32_w]
                rfl
               refine take_ (i := 4) (N := some 97) (v := ?_) (a' := ?_) #[true, true, true, true, true, false] rfl rfl (by kernel_rfl) (fun _ _ _ h => h) (Or.inl ⟨by rfl, ?_⟩) hHeld ?_ ?_
               rotate_left
               ·rintro w' ⟨s0, s1, s2, s3, s4, s5, s6, s7, s8, s9, s10, s11, s12, s13, s14, s15, s16, s17, s18, s19, s20, s21, s22⟩
                go_simp
                with_reducible rfl
               rotate_left
               ·simp only [Act.put, List.setIfInBounds_toArray, List.set_cons_zero, List.set_cons_succ, i64_w, i32_w]
                rfl
               refine one_ (i := 5) (N := some 98) #[true, true, true, true, true, true] rfl rfl (by kernel_rfl) (by decide) (fun K hK => ?_)
               refine goes_ Try.func33 (by kernel_rfl) rfl #[.agg #[.int .i64 ((rd_T23 l0 x15_3).f0), .int .i64 ((rd_T23 l0 x15_3).f1), .int .i64 ((rd_T23 l0 x15_3).f2), .int .i64 ((rd_T23 l0 x15_3).f3), .int .i64 ((rd_T23 l0 x15_3).f4), .int .i64 ((rd_T23 l0 x15_3).f5), .bool ((rd_T23 l0 x15_3).f6), .int .i64 ((rd_T23 l0 x15_3).f7)], .agg #[.int .i64 a1_0, .int .i64 a1_1, .int .i64 a1_2, .int .i64 a1_3, .int .i64 a1_4, .int .i64 a1_5, .int .i64 a1_6, .int .i64 a1_7, .int .i64 a1_8, .int .i64 a1_9, .int .i64 a1_10, .int .i64 a1_11, .int .i64 a1_12, .int .i64 a1_13, .int .i64 a1_14]] (by rfl) rfl rfl (by (try simp only [List.map_toArray, List.map_cons, List.map_nil]); first | done | rfl | (simp only [List.length_drop, List.length_take]; rfl)) ?_
               with_reducible refine (acmeref01_Agrees.calls k3 ((rd_T23 l0 x15_3).f0) ((rd_T23 l0 x15_3).f1) ((rd_T23 l0 x15_3).f2) ((rd_T23 l0 x15_3).f3) ((rd_T23 l0 x15_3).f4) ((rd_T23 l0 x15_3).f5) ((rd_T23 l0 x15_3).f6) ((rd_T23 l0 x15_3).f7) a1_0 a1_1 a1_2 a1_3 a1_4 a1_5 a1_6 a1_7 a1_8 a1_9 a1_10 a1_11 a1_12 a1_13 a1_14 true _ A36.out).mono ?_
               rintro e w40 ⟨rfl, hb⟩
               refine ⟨_, rfl, ?_⟩
               have n0_ := Aside0.mk (Kd.R_below (by (with_reducible repeat (first | apply Kd.R_alloc | apply Kd.R_drewN | apply Kd.R_drew)); exact HO_8.out) hb)
               have n1_ := Aside0.mk (Kd.R_below (by (with_reducible repeat (first | apply Kd.R_alloc | apply Kd.R_drewN | apply Kd.R_drew)); exact HO_10.out) hb)
               have n2_ := Aside0.mk (Kd.R_below (by (with_reducible repeat (first | apply Kd.R_alloc | apply Kd.R_drewN | apply Kd.R_drew)); exact HO_14.out) hb)
               have n3_ := Aside0.mk (blk_below (g := gb429) (o := .cells #[.int .i64 a1_0, .int .i64 a1_1, .int .i64 a1_2, .int .i64 a1_3, .int .i64 a1_4, .int .i64 a1_5, .int .i64 a1_6, .int .i64 a1_7, .int .i64 a1_8, .int .i64 a1_9, .int .i64 a1_10, .int .i64 a1_11, .int .i64 a1_12, .int .i64 a1_13, .int .i64 a1_14] 53 (0, 0)) (by repeat (first | (with_reducible first | exact BK429.out | refine blk_drewN ?_ _ | refine blk_drew ?_ | refine blk_alloc ?_ _) | exact BK429.out)) hb)
               have n4_ := Aside0.mk (blk_below (g := gb430) (o := .cells #[.int .i64 a2_0, .int .i64 a2_1, .int .i64 a2_2] 55 (0, 0)) (by repeat (first | (with_reducible first | exact BK430.out | refine blk_drewN ?_ _ | refine blk_drew ?_ | refine blk_alloc ?_ _) | exact BK430.out)) hb)
               have n5_ := Aside0.mk (below_step (by repeat (first | (with_reducible first | exact HB.out | apply below_alloc | apply pw_below_drewN | apply below_drew1 | refine below_set ?_ (Aside0.out (by assumption))) | exact HB.out)) hb)
               clear HO_8
               clear HO_10
               clear HO_14
               clear BK429
               clear BK430
               clear HB
               have HO_8 := n0_
               have HO_10 := n1_
               have HO_14 := n2_
               have BK429 := n3_
               have BK430 := n4_
               have HB := n5_
               clear n0_ n1_ n2_ n3_ n4_ n5_
               (try clear hb)
               (try clear hb2)
               (try clear hk)
               (try clear hi)
               refine hK.out _ _ ⟨(blk_cell BK429.out 0).trans rfl, (blk_cell BK429.out 1).trans rfl, (blk_cell BK429.out 2).trans rfl, (blk_cell BK429.out 3).trans rfl, (blk_cell BK429.out 4).trans rfl, (blk_cell BK429.out 5).trans rfl, (blk_cell BK429.out 6).trans rfl, (blk_cell BK429.out 7).trans rfl, (blk_cell BK429.out 8).trans rfl, (blk_cell BK429.out 9).trans rfl, (blk_cell BK429.out 10).trans rfl, (blk_cell BK429.out 11).trans rfl, (blk_cell BK429.out 12).trans rfl, (blk_cell BK429.out 13).trans rfl, (blk_cell BK429.out 14).trans rfl, ((HB.out.cell (World.block_lt_of_cell? w _ hw453_0)).trans hw453_0), ((HB.out.cell (World.block_lt_of_cell? w _ hw453_1)).trans hw453_1), ((HB.out.cell (World.block_lt_of_cell? w _ hw453_2)).trans hw453_2), ((HB.out.cell (World.block_lt_of_cell? w _ hw453_3)).trans hw453_3), ((HB.out.cell (World.block_lt_of_cell? w _ hw453_4)).trans hw453_4), ((HB.out.cell (World.block_lt_of_cell? w _ hw453_5)).trans hw453_5), ((HB.out.cell (World.block_lt_of_cell? w _ hw453_6)).trans hw453_6), ((HB.out.cell (World.block_lt_of_cell? w _ hw453_7)).trans hw453_7)⟩ (fun hHeld => ?_)
               clear hK K
               refine norm_ (a' := ?_) ?_ ?_
               rotate_left
               ·show Act.put _ (some 98) _ = _
                simp only [Act.put, List.setIfInBounds_toArray, List.set_cons_zero, List.set_cons_succ, i64_w, i32_w]
                rfl
               refine done_ (by kernel_rfl) ?_
               try go_wp2_with (first | ((with_reducible refine gate_builtin (b := .append) (xs := #[.tmp 99, .tmp 101]) rfl ?_); (try (refine gate_guard (by rfl) ?_; dsimp only)); at_builtin; refine Kd.R_append (Kd.int .i64) (w0 := w) w.heap.size rfl (.tmp 99) (.tmp 101) 56 3 (.int .i64 0) 8 rfl Try.underlying56 info3 rfl (by decide) (by omega) u14 x14_3 x15_3 [.int .i64 x15_3] (fun k_ => some k_ ≠ (v439 : Value).ownBlock) (fun _ => False) rfl rfl ?aP (fun _ hk => hk.elim) ?aF ?aO ?aB ?aS ?aL ?_; (case aP => exact rfl); (case aB => exact (by repeat (first | (with_reducible first | exact HB.out | apply below_alloc | apply pw_below_drewN | apply below_drew1 | refine below_set ?_ (Aside0.out (by assumption))) | exact HB.out))); (case aF => exact (fun k_ hk => Kd.fresh' (Kd.R_lt (by (with_reducible repeat (first | apply Kd.R_alloc | apply Kd.R_drewN | apply Kd.R_drew)); exact HO_8.out)) k_ hk)); (case aO => exact (by (with_reducible repeat (first | apply Kd.R_alloc | apply Kd.R_drewN | apply Kd.R_drew)); exact HO_14.out)); (case aS => exact (below_size (by repeat (first | (with_reducible first | exact HB.out | apply below_alloc | apply pw_below_drewN | apply below_drew1 | refine below_set ?_ (Aside0.out (by assumption))) | exact HB.out)))); (case aL => have := LMc38.out; omega); intro v456 w41 ho hb hg hat; rw [← Ny455.out] at ho; replace HO_8 := Aside0.mk (Kd.R_after (ok := (fun _ => True)) (by (with_reducible repeat (first | apply Kd.R_alloc | apply Kd.R_drewN | apply Kd.R_drew)); exact Kd.R_mono HO_8.out (fun _ hk => ⟨trivial, hk⟩)) hg hat); replace HO_10 := Aside0.mk (Kd.R_over' (by (with_reducible repeat (first | apply Kd.R_alloc | apply Kd.R_drewN | apply Kd.R_drew)); exact HO_10.out) (Kd.R_typed (by (with_reducible repeat (first | apply Kd.R_alloc | apply Kd.R_drewN | apply Kd.R_drew)); exact HO_14.out)) (by decide) hg); replace BK429 := Aside0.mk (blk_grown (g := gb429) (o := .cells #[.int .i64 a1_0, .int .i64 a1_1, .int .i64 a1_2, .int .i64 a1_3, .int .i64 a1_4, .int .i64 a1_5, .int .i64 a1_6, .int .i64 a1_7, .int .i64 a1_8, .int .i64 a1_9, .int .i64 a1_10, .int .i64 a1_11, .int .i64 a1_12, .int .i64 a1_13, .int .i64 a1_14] 53 (0, 0)) (by repeat (first | (with_reducible first | exact BK429.out | refine blk_drewN ?_ _ | refine blk_drew ?_ | refine blk_alloc ?_ _) | exact BK429.out)) hg (Kd.R_ne HO_14.out BK429.out (by decide))); replace BK430 := Aside0.mk (blk_grown (g := gb430) (o := .cells #[.int .i64 a2_0, .int .i64 a2_1, .int .i64 a2_2] 55 (0, 0)) (by repeat (first | (with_reducible first | exact BK430.out | refine blk_drewN ?_ _ | refine blk_drew ?_ | refine blk_alloc ?_ _) | exact BK430.out)) hg (Kd.R_ne HO_14.out BK430.out (by decide))); replace HB := Aside0.mk (hb); have HO457 := Aside0.mk (ho); clear HO_14; clear ho hb hg hat))
               go_roundg k3
               case measure => have := HJ3.out; have := HK2.out; have := HK3.out; omega
               case rel => exact ⟨(y455), (wrap64 (x15_3 + 1)), (by first | rfl | (simp; done) | (simp [*]; done)), H', ⟨by have := HJ3.out; have := HK2.out; have := HK3.out; omega⟩, ⟨by (with_reducible repeat (first | apply Kd.R_alloc | apply Kd.R_drewN | apply Kd.R_drew)); exact Kd.R_mono HO_8.out (fun _ hk => hk.2)⟩, ⟨by (with_reducible repeat (first | apply Kd.R_alloc | apply Kd.R_drewN | apply Kd.R_drew)); exact HO_10.out⟩, ⟨by (with_reducible repeat (first | apply Kd.R_alloc | apply Kd.R_drewN | apply Kd.R_drew)); exact HO457.out⟩, BK429, BK430, ⟨by repeat (first | (with_reducible first | exact HB.out | apply below_alloc | apply pw_below_drewN | apply below_drew1 | refine below_set ?_ (Aside0.out (by assumption))) | exact HB.out)⟩⟩
              ·rw [if_neg c38] at H
               exact absurd H (by simp)
             ·replace c37 := Bool.eq_false_iff.mpr c37
              subst c37
              have H1 : (acmelaw01_ThreadAgrees.l1 k3 l0 t438 t441 t442 t445 x14_3 (wrap64 (x15_3 + 1)) a1_0 a1_1 a1_2 a1_3 a1_4 a1_5 a1_6 a1_7 a1_8 a1_9 a1_10 a1_11 a1_12 a1_13 a1_14 a2_0 a2_1 a2_2) = some r := by rw [if_neg (show ¬ (false = true) by decide)] at H; exact H
              clear H
              have H := H1
              clear H1
              have H' := Aside0.mk H
              clear H
              try go_wp2
              have n0_ := Aside0.mk (Kd.R_drew HO_8.out)
              have n1_ := Aside0.mk (Kd.R_drew HO_10.out)
              have n2_ := Aside0.mk (Kd.R_drew HO_14.out)
              have n3_ := Aside0.mk (blk_drew BK429.out)
              have n4_ := Aside0.mk (blk_drew BK430.out)
              have n5_ := Aside0.mk (below_drew1 HB.out)
              clear HO_8
              clear HO_10
              clear HO_14
              clear BK429
              clear BK430
              clear HB
              have HO_8 := n0_
              have HO_10 := n1_
              have HO_14 := n2_
              have BK429 := n3_
              have BK430 := n4_
              have HB := n5_
              clear n0_ n1_ n2_ n3_ n4_ n5_
              have p453 : 0 ≤ (x15_3 : Int) := of_decide_eq_true (by first | (with_reducible assumption) | assumption)
              have q453 : x15_3 < (l0.length : Int) := of_decide_eq_true (by first | (with_reducible assumption) | assumption)
              obtain ⟨ad453, e453, hx453_0, hx453_1, hx453_2, hx453_3, hx453_4, hx453_5, hx453_6, hx453_7⟩ := at_T23 HR0.out x15_3 p453 q453
              have hw453_7 := hx453_7
              have hw453_6 := hx453_6
              have hw453_5 := hx453_5
              have hw453_4 := hx453_4
              have hw453_3 := hx453_3
              have hw453_2 := hx453_2
              have hw453_1 := hx453_1
              have hw453_0 := hx453_0
              cases e453
              replace hx453_0 := (HB.out.cell (World.block_lt_of_cell? w _ hx453_0)).trans hx453_0
              replace hx453_1 := (HB.out.cell (World.block_lt_of_cell? w _ hx453_1)).trans hx453_1
              replace hx453_2 := (HB.out.cell (World.block_lt_of_cell? w _ hx453_2)).trans hx453_2
              replace hx453_3 := (HB.out.cell (World.block_lt_of_cell? w _ hx453_3)).trans hx453_3
              replace hx453_4 := (HB.out.cell (World.block_lt_of_cell? w _ hx453_4)).trans hx453_4
              replace hx453_5 := (HB.out.cell (World.block_lt_of_cell? w _ hx453_5)).trans hx453_5
              replace hx453_6 := (HB.out.cell (World.block_lt_of_cell? w _ hx453_6)).trans hx453_6
              replace hx453_7 := (HB.out.cell (World.block_lt_of_cell? w _ hx453_7)).trans hx453_7
              replace p453 := eq_true p453
              replace q453 := eq_true q453
              refine start_ (n := 6) (S := fun w' => w'.cell? ⟨gb429, 0, none⟩ = some (.int .i64 a1_0) ∧ w'.cell? ⟨gb429, 1, none⟩ = some (.int .i64 a1_1) ∧ w'.cell? ⟨gb429, 2, none⟩ = some (.int .i64 a1_2) ∧ w'.cell? ⟨gb429, 3, none⟩ = some (.int .i64 a1_3) ∧ w'.cell? ⟨gb429, 4, none⟩ = some (.int .i64 a1_4) ∧ w'.cell? ⟨gb429, 5, none⟩ = some (.int .i64 a1_5) ∧ w'.cell? ⟨gb429, 6, none⟩ = some (.int .i64 a1_6) ∧ w'.cell? ⟨gb429, 7, none⟩ = some (.int .i64 a1_7) ∧ w'.cell? ⟨gb429, 8, none⟩ = some (.int .i64 a1_8) ∧ w'.cell? ⟨gb429, 9, none⟩ = some (.int .i64 a1_9) ∧ w'.cell? ⟨gb429, 10, none⟩ = some (.int .i64 a1_10) ∧ w'.cell? ⟨gb429, 11, none⟩ = some (.int .i64 a1_11) ∧ w'.cell? ⟨gb429, 12, none⟩ = some (.int .i64 a1_12) ∧ w'.cell? ⟨gb429, 13, none⟩ = some (.int .i64 a1_13) ∧ w'.cell? ⟨gb429, 14, none⟩ = some (.int .i64 a1_14) ∧ w'.cell? (ad453.add ((x15_3).toNat * 8)) = some (.int .i64 ((rd_T23 l0 x15_3).f0)) ∧ w'.cell? ⟨(ad453.add ((x15_3).toNat * 8)).block, (ad453.add ((x15_3).toNat * 8)).off + 1, none⟩ = some (.int .i64 ((rd_T23 l0 x15_3).f1)) ∧ w'.cell? ⟨(ad453.add ((x15_3).toNat * 8)).block, (ad453.add ((x15_3).toNat * 8)).off + 2, none⟩ = some (.int .i64 ((rd_T23 l0 x15_3).f2)) ∧ w'.cell? ⟨(ad453.add ((x15_3).toNat * 8)).block, (ad453.add ((x15_3).toNat * 8)).off + 3, none⟩ = some (.int .i64 ((rd_T23 l0 x15_3).f3)) ∧ w'.cell? ⟨(ad453.add ((x15_3).toNat * 8)).block, (ad453.add ((x15_3).toNat * 8)).off + 4, none⟩ = some (.int .i64 ((rd_T23 l0 x15_3).f4)) ∧ w'.cell? ⟨(ad453.add ((x15_3).toNat * 8)).block, (ad453.add ((x15_3).toNat * 8)).off + 5, none⟩ = some (.int .i64 ((rd_T23 l0 x15_3).f5)) ∧ w'.cell? ⟨(ad453.add ((x15_3).toNat * 8)).block, (ad453.add ((x15_3).toNat * 8)).off + 6, none⟩ = some (.bool ((rd_T23 l0 x15_3).f6)) ∧ w'.cell? ⟨(ad453.add ((x15_3).toNat * 8)).block, (ad453.add ((x15_3).toNat * 8)).off + 7, none⟩ = some (.int .i64 ((rd_T23 l0 x15_3).f7))) (ds := []) #[false, false, false, false, false, false] (by kernel_rfl) rfl rfl ⟨(blk_cell BK429.out 0).trans rfl, (blk_cell BK429.out 1).trans rfl, (blk_cell BK429.out 2).trans rfl, (blk_cell BK429.out 3).trans rfl, (blk_cell BK429.out 4).trans rfl, (blk_cell BK429.out 5).trans rfl, (blk_cell BK429.out 6).trans rfl, (blk_cell BK429.out 7).trans rfl, (blk_cell BK429.out 8).trans rfl, (blk_cell BK429.out 9).trans rfl, (blk_cell BK429.out 10).trans rfl, (blk_cell BK429.out 11).trans rfl, (blk_cell BK429.out 12).trans rfl, (blk_cell BK429.out 13).trans rfl, (blk_cell BK429.out 14).trans rfl, ((HB.out.cell (World.block_lt_of_cell? w _ hw453_0)).trans hw453_0), ((HB.out.cell (World.block_lt_of_cell? w _ hw453_1)).trans hw453_1), ((HB.out.cell (World.block_lt_of_cell? w _ hw453_2)).trans hw453_2), ((HB.out.cell (World.block_lt_of_cell? w _ hw453_3)).trans hw453_3), ((HB.out.cell (World.block_lt_of_cell? w _ hw453_4)).trans hw453_4), ((HB.out.cell (World.block_lt_of_cell? w _ hw453_5)).trans hw453_5), ((HB.out.cell (World.block_lt_of_cell? w _ hw453_6)).trans hw453_6), ((HB.out.cell (World.block_lt_of_cell? w _ hw453_7)).trans hw453_7)⟩ (fun hHeld => ?_)
              generalize wr.drew = w42 at HO_8 HO_10 HO_14 BK429 BK430 HB hx453_0 hx453_1 hx453_2 hx453_3 hx453_4 hx453_5 hx453_6 hx453_7 hHeld ⊢
              refine pure_ (i := 0) (N := some 93) (v := ?_) (a' := ?_) #[true, false, false, false, false, false] rfl rfl (by kernel_rfl) (fun _ _ _ h => h) (Or.inl ⟨by rfl, ?_⟩) ?_ ?_
              rotate_left
              ·intro w'
               go_simp
               with_reducible rfl
              rotate_left
              ·simp only [Act.put, List.setIfInBounds_toArray, List.set_cons_zero, List.set_cons_succ, i64_w, i32_w]
               rfl
              refine pure_ (i := 1) (N := some 94) (v := ?_) (a' := ?_) #[true, true, false, false, false, false] rfl rfl (by kernel_rfl) (fun _ _ _ h => h) (Or.inl ⟨by rfl, ?_⟩) ?_ ?_
              rotate_left
              ·intro w'
               go_simp
               with_reducible rfl
              rotate_left
              ·simp only [Act.put, List.setIfInBounds_toArray, List.set_cons_zero, List.set_cons_succ, i64_w, i32_w]
               rfl
              refine pure_ (i := 2) (N := some 95) (v := ?_) (a' := ?_) #[true, true, true, false, false, false] rfl rfl (by kernel_rfl) (fun _ _ _ h => h) (Or.inl ⟨by rfl, ?_⟩) ?_ ?_
              rotate_left
              ·intro w'
               go_simp
               with_reducible rfl
              rotate_left
              ·simp only [Act.put, List.setIfInBounds_toArray, List.set_cons_zero, List.set_cons_succ, i64_w, i32_w]
               rfl
              refine take_ (i := 3) (N := some 96) (v := ?_) (a' := ?_) #[true, true, true, true, false, false] rfl rfl (by kernel_rfl) (fun _ _ _ h => h) (Or.inl ⟨by rfl, ?_⟩) hHeld ?_ ?_
              rotate_left
              ·rintro w' ⟨s0, s1, s2, s3, s4, s5, s6, s7, s8, s9, s10, s11, s12, s13, s14, s15, s16, s17, s18, s19, s20, s21, s22⟩
               go_simp
               with_reducible rfl
              rotate_left
              ·simp only [Act.put, List.setIfInBounds_toArray, List.set_cons_zero, List.set_cons_succ, i64_w, i32_w]
               rfl
              refine take_ (i := 4) (N := some 97) (v := ?_) (a' := ?_) #[true, true, true, true, true, false] rfl rfl (by kernel_rfl) (fun _ _ _ h => h) (Or.inl ⟨by rfl, ?_⟩) hHeld ?_ ?_
              rotate_left
              ·rintro w' ⟨s0, s1, s2, s3, s4, s5, s6, s7, s8, s9, s10, s11, s12, s13, s14, s15, s16, s17, s18, s19, s20, s21, s22⟩
               go_simp
               with_reducible rfl
              rotate_left
              ·simp only [Act.put, List.setIfInBounds_toArray, List.set_cons_zero, List.set_cons_succ, i64_w, i32_w]
               rfl
              refine one_ (i := 5) (N := some 98) #[true, true, true, true, true, true] rfl rfl (by kernel_rfl) (by decide) (fun K hK => ?_)
              refine goes_ Try.func33 (by kernel_rfl) rfl #[.agg #[.int .i64 ((rd_T23 l0 x15_3).f0), .int .i64 ((rd_T23 l0 x15_3).f1), .int .i64 ((rd_T23 l0 x15_3).f2), .int .i64 ((rd_T23 l0 x15_3).f3), .int .i64 ((rd_T23 l0 x15_3).f4), .int .i64 ((rd_T23 l0 x15_3).f5), .bool ((rd_T23 l0 x15_3).f6), .int .i64 ((rd_T23 l0 x15_3).f7)], .agg #[.int .i64 a1_0, .int .i64 a1_1, .int .i64 a1_2, .int .i64 a1_3, .int .i64 a1_4, .int .i64 a1_5, .int .i64 a1_6, .int .i64 a1_7, .int .i64 a1_8, .int .i64 a1_9, .int .i64 a1_10, .int .i64 a1_11, .int .i64 a1_12, .int .i64 a1_13, .int .i64 a1_14]] (by rfl) rfl rfl (by (try simp only [List.map_toArray, List.map_cons, List.map_nil]); first | done | rfl | (simp only [List.length_drop, List.length_take]; rfl)) ?_
              with_reducible refine (acmeref01_Agrees.calls k3 ((rd_T23 l0 x15_3).f0) ((rd_T23 l0 x15_3).f1) ((rd_T23 l0 x15_3).f2) ((rd_T23 l0 x15_3).f3) ((rd_T23 l0 x15_3).f4) ((rd_T23 l0 x15_3).f5) ((rd_T23 l0 x15_3).f6) ((rd_T23 l0 x15_3).f7) a1_0 a1_1 a1_2 a1_3 a1_4 a1_5 a1_6 a1_7 a1_8 a1_9 a1_10 a1_11 a1_12 a1_13 a1_14 false _ A36.out).mono ?_
              rintro e w43 ⟨rfl, hb⟩
              refine ⟨_, rfl, ?_⟩
              have n0_ := Aside0.mk (Kd.R_below (by (with_reducible repeat (first | apply Kd.R_alloc | apply Kd.R_drewN | apply Kd.R_drew)); exact HO_8.out) hb)
              have n1_ := Aside0.mk (Kd.R_below (by (with_reducible repeat (first | apply Kd.R_alloc | apply Kd.R_drewN | apply Kd.R_drew)); exact HO_10.out) hb)
              have n2_ := Aside0.mk (Kd.R_below (by (with_reducible repeat (first | apply Kd.R_alloc | apply Kd.R_drewN | apply Kd.R_drew)); exact HO_14.out) hb)
              have n3_ := Aside0.mk (blk_below (g := gb429) (o := .cells #[.int .i64 a1_0, .int .i64 a1_1, .int .i64 a1_2, .int .i64 a1_3, .int .i64 a1_4, .int .i64 a1_5, .int .i64 a1_6, .int .i64 a1_7, .int .i64 a1_8, .int .i64 a1_9, .int .i64 a1_10, .int .i64 a1_11, .int .i64 a1_12, .int .i64 a1_13, .int .i64 a1_14] 53 (0, 0)) (by repeat (first | (with_reducible first | exact BK429.out | refine blk_drewN ?_ _ | refine blk_drew ?_ | refine blk_alloc ?_ _) | exact BK429.out)) hb)
              have n4_ := Aside0.mk (blk_below (g := gb430) (o := .cells #[.int .i64 a2_0, .int .i64 a2_1, .int .i64 a2_2] 55 (0, 0)) (by repeat (first | (with_reducible first | exact BK430.out | refine blk_drewN ?_ _ | refine blk_drew ?_ | refine blk_alloc ?_ _) | exact BK430.out)) hb)
              have n5_ := Aside0.mk (below_step (by repeat (first | (with_reducible first | exact HB.out | apply below_alloc | apply pw_below_drewN | apply below_drew1 | refine below_set ?_ (Aside0.out (by assumption))) | exact HB.out)) hb)
              clear HO_8
              clear HO_10
              clear HO_14
              clear BK429
              clear BK430
              clear HB
              have HO_8 := n0_
              have HO_10 := n1_
              have HO_14 := n2_
              have BK429 := n3_
              have BK430 := n4_
              have HB := n5_
              clear n0_ n1_ n2_ n3_ n4_ n5_
              (try clear hb)
              (try clear hb2)
              (try clear hk)
              (try clear hi)
              refine hK.out _ _ ⟨(blk_cell BK429.out 0).trans rfl, (blk_cell BK429.out 1).trans rfl, (blk_cell BK429.out 2).trans rfl, (blk_cell BK429.out 3).trans rfl, (blk_cell BK429.out 4).trans rfl, (blk_cell BK429.out 5).trans rfl, (blk_cell BK429.out 6).trans rfl, (blk_cell BK429.out 7).trans rfl, (blk_cell BK429.out 8).trans rfl, (blk_cell BK429.out 9).trans rfl, (blk_cell BK429.out 10).trans rfl, (blk_cell BK429.out 11).trans rfl, (blk_cell BK429.out 12).trans rfl, (blk_cell BK429.out 13).trans rfl, (blk_cell BK429.out 14).trans rfl, ((HB.out.cell (World.block_lt_of_cell? w _ hw453_0)).trans hw453_0), ((HB.out.cell (World.block_lt_of_cell? w _ hw453_1)).trans hw453_1), ((HB.out.cell (World.block_lt_of_cell? w _ hw453_2)).trans hw453_2), ((HB.out.cell (World.block_lt_of_cell? w _ hw453_3)).trans hw453_3), ((HB.out.cell (World.block_lt_of_cell? w _ hw453_4)).trans hw453_4), ((HB.out.cell (World.block_lt_of_cell? w _ hw453_5)).trans hw453_5), ((HB.out.cell (World.block_lt_of_cell? w _ hw453_6)).trans hw453_6), ((HB.out.cell (World.block_lt_of_cell? w _ hw453_7)).trans hw453_7)⟩ (fun hHeld => ?_)
              clear hK K
              refine norm_ (a' := ?_) ?_ ?_
              rotate_left
              ·show Act.put _ (some 98) _ = _
               simp only [Act.put, List.setIfInBounds_toArray, List.set_cons_zero, List.set_cons_succ, i64_w, i32_w]
               rfl
              refine done_ (by kernel_rfl) ?_
              try go_wp2
              go_roundg k3
              case measure => have := HJ3.out; have := HK2.out; have := HK3.out; omega
              case rel => exact ⟨(x14_3), (wrap64 (x15_3 + 1)), (by first | rfl | (simp; done) | (simp [*]; done)), H', ⟨by have := HJ3.out; have := HK2.out; have := HK3.out; omega⟩, ⟨by (with_reducible repeat (first | apply Kd.R_alloc | apply Kd.R_drewN | apply Kd.R_drew)); exact HO_8.out⟩, ⟨by (with_reducible repeat (first | apply Kd.R_alloc | apply Kd.R_drewN | apply Kd.R_drew)); exact HO_10.out⟩, ⟨by (with_reducible repeat (first | apply Kd.R_alloc | apply Kd.R_drewN | apply Kd.R_drew)); exact HO_14.out⟩, BK429, BK430, ⟨by repeat (first | (with_reducible first | exact HB.out | apply below_alloc | apply pw_below_drewN | apply below_drew1 | refine below_set ?_ (Aside0.out (by assumption))) | exact HB.out)⟩⟩
            ·rw [if_neg c35] at H
             exact absurd H (by simp)
           ·rw [if_neg c34] at H
            have c34b0 : decide (x15_3 < (l0.length : Int)) = false := decide_eq_false c34
            clear c34
            replace H := Option.bind_eq_some_iff.mp H
            obtain ⟨t458, A440, H⟩ := H; (try dsimp only at H)
            have A44 := Aside0.mk A440
            clear A440
            have HC45 := Aside0.mk H
            clear H
            have hnb46 := NB429_430.out
            have hnc46 := NB430_429.out
            obtain ⟨hcz47_0, hcz47_1, hcz47_2, hcz47_3, hcz47_4, hcz47_5, hcz47_6, hcz47_7, hcz47_8, hcz47_9, hcz47_10, hcz47_11, hcz47_12, hcz47_13, hcz47_14⟩ := bc15 BK429.out
            obtain ⟨hfz47_0, hfz47_1, hfz47_2, hfz47_3, hfz47_4, hfz47_5, hfz47_6, hfz47_7, hfz47_8, hfz47_9, hfz47_10, hfz47_11, hfz47_12, hfz47_13, hfz47_14⟩ := bf15 BK429.out
            go_upto_if 104 with (first | ((with_reducible refine gate_callee (f := 34) rfl ?_); refine goesL_ (some 104) rfl rfl Try.func34 (by kernel_rfl) rfl #[.agg #[.int .i64 a1_0, .int .i64 a1_1, .int .i64 a1_2, .int .i64 a1_3, .int .i64 a1_4, .int .i64 a1_5, .int .i64 a1_6, .int .i64 a1_7, .int .i64 a1_8, .int .i64 a1_9, .int .i64 a1_10, .int .i64 a1_11, .int .i64 a1_12, .int .i64 a1_13, .int .i64 a1_14]] rfl (by (try simp only [List.map_toArray, List.map_cons, List.map_nil]); first | done | rfl | (simp only [List.length_drop, List.length_take]; rfl)) ?_; (with_reducible refine (acmeref01_Seen.calls k3 a1_0 a1_1 a1_2 a1_3 a1_4 a1_5 a1_6 a1_7 a1_8 a1_9 a1_10 a1_11 a1_12 a1_13 a1_14 t458 _ A44.out).mono ?_); rintro e w48 ⟨rfl, hb⟩; refine ⟨_, rfl, ?_⟩; replace HO_8 := Aside0.mk (Kd.R_below (by (with_reducible repeat (first | apply Kd.R_alloc | apply Kd.R_drewN | apply Kd.R_drew)); exact HO_8.out) hb); replace HO_10 := Aside0.mk (Kd.R_below (by (with_reducible repeat (first | apply Kd.R_alloc | apply Kd.R_drewN | apply Kd.R_drew)); exact HO_10.out) hb); replace HO_14 := Aside0.mk (Kd.R_below (by (with_reducible repeat (first | apply Kd.R_alloc | apply Kd.R_drewN | apply Kd.R_drew)); exact HO_14.out) hb); replace BK429 := Aside0.mk (blk_below (g := gb429) (o := .cells #[.int .i64 a1_0, .int .i64 a1_1, .int .i64 a1_2, .int .i64 a1_3, .int .i64 a1_4, .int .i64 a1_5, .int .i64 a1_6, .int .i64 a1_7, .int .i64 a1_8, .int .i64 a1_9, .int .i64 a1_10, .int .i64 a1_11, .int .i64 a1_12, .int .i64 a1_13, .int .i64 a1_14] 53 (0, 0)) (by repeat (first | (with_reducible first | exact BK429.out | refine blk_drewN ?_ _ | refine blk_drew ?_ | refine blk_alloc ?_ _) | exact BK429.out)) hb); replace BK430 := Aside0.mk (blk_below (g := gb430) (o := .cells #[.int .i64 a2_0, .int .i64 a2_1, .int .i64 a2_2] 55 (0, 0)) (by repeat (first | (with_reducible first | exact BK430.out | refine blk_drewN ?_ _ | refine blk_drew ?_ | refine blk_alloc ?_ _) | exact BK430.out)) hb); replace HB := Aside0.mk (below_step (by repeat (first | (with_reducible first | exact HB.out | apply below_alloc | apply pw_below_drewN | apply below_drew1 | refine below_set ?_ (Aside0.out (by assumption))) | exact HB.out)) hb); (try clear hb); (try clear hb2); (try clear hk); (try clear hi)))
            (try simp only [Act.put, List.setIfInBounds_toArray, List.set_cons_zero, List.set_cons_succ])
            go_cut [] (fun wc => ∃ (kq : Nat), Aside0 (acmelaw01_ThreadAgrees.j3 kq l0 t442 t445 a2_0 a2_1 a2_2 = some r) ∧ Aside0 (kq ≤ k3) ∧ Aside0 (Kd.R k67 67 wc w.heap.size (fun _ => True) v443 t442) ∧ Aside0 (wc.heap[gb429]? = some (.cells #[.int .i64 a1_0, .int .i64 a1_1, .int .i64 a1_2, .int .i64 a1_3, .int .i64 a1_4, .int .i64 a1_5, .int .i64 a1_6, .int .i64 a1_7, .int .i64 a1_8, .int .i64 a1_9, .int .i64 a1_10, .int .i64 a1_11, .int .i64 a1_12, .int .i64 a1_13, .int .i64 a1_14] 53 (0, 0))) ∧ Aside0 (wc.heap[gb430]? = some (.cells #[.int .i64 a2_0, .int .i64 a2_1, .int .i64 a2_2] 55 (0, 0))) ∧ Aside0 (Below w.heap.size w wc))
            case first => as_aux_lemma =>
             have H := HC45.out
             clear HC45
             by_cases c49 : t458 = true
             ·subst c49
              have H1 : (if t441 = 0 then ((acmeref01_Same.f k3 t438 x14_3).bind fun t459 => (if t459 = true then (acmelaw01_ThreadAgrees.j3 k3 l0 t442 t445 a2_0 a2_1 a2_2) else (none))) else (none)) = some r := by rw [if_pos rfl] at H; exact H
              clear H
              have H := H1
              clear H1
              by_cases c50 : t441 = 0
              ·rw [if_pos c50] at H
               have c50b0 : (t441 == 0) = true := beq_iff_eq.mpr c50
               have c50b1 : (t441 != 0) = false := bne_eq_false_iff_eq.mpr c50
               clear c50
               (first | rw [c50b0] | (simp only [i64_w, i32_w]; rw [c50b0]) | skip)
               replace H := Option.bind_eq_some_iff.mp H
               obtain ⟨t459, A510, H⟩ := H; (try dsimp only at H)
               have A51 := Aside0.mk A510
               clear A510
               by_cases c52 : t459 = true
               ·subst c52
                have H1 : (acmelaw01_ThreadAgrees.j3 k3 l0 t442 t445 a2_0 a2_1 a2_2) = some r := by rw [if_pos rfl] at H; exact H
                clear H
                have H := H1
                clear H1
                have H' := Aside0.mk H
                clear H
                obtain ⟨Ao53, co53, eo53⟩ := Kd.R_slice HO_8.out
                subst eo53
                obtain ⟨Ao54, co54, eo54⟩ := Kd.R_slice HO_14.out
                subst eo54
                go_wp2_with (first | (go_at_call 35; (with_reducible refine (acmeref01_Same.calls k3 _ _ t438 _ _ x14_3 true _ ?side1 ?side2 ?side3 ?side4 A51.out).mono ?_); (case side1 => repeat (first | exact (Kd.R_reads' HO_8.out).2.2 | (with_reducible refine Kd.C_alloc ?_ _) | (with_reducible refine Kd.C_drewN ?_ _) | (with_reducible refine Kd.C_drew ?_))); (case side2 => exact (Kd.R_reads' HO_8.out).2.1); (case side3 => repeat (first | exact (Kd.R_reads' HO_14.out).2.2 | (with_reducible refine Kd.C_alloc ?_ _) | (with_reducible refine Kd.C_drewN ?_ _) | (with_reducible refine Kd.C_drew ?_))); (case side4 => exact (Kd.R_reads' HO_14.out).2.1); rintro e w' ⟨rfl, ⟨nd, rfl⟩⟩))
                go_meet
                case rel => exact ⟨_, H', ⟨by have := HJ3.out; have := HK2.out; have := HK3.out; first | omega | exact Nat.le_refl _⟩, ⟨by (with_reducible repeat (first | apply Kd.R_alloc | apply Kd.R_drewN | apply Kd.R_drew)); exact HO_10.out⟩, BK429, BK430, ⟨by repeat (first | (with_reducible first | exact HB.out | apply below_alloc | apply pw_below_drewN | apply below_drew1 | refine below_set ?_ (Aside0.out (by assumption))) | exact HB.out)⟩⟩
               ·replace c52 := Bool.eq_false_iff.mpr c52
                subst c52
                have H1 : (none) = some r := by rw [if_neg (show ¬ (false = true) by decide)] at H; exact H
                clear H
                have H := H1
                clear H1
                exact absurd H (by simp)
              ·rw [if_neg c50] at H
               exact absurd H (by simp)
             ·replace c49 := Bool.eq_false_iff.mpr c49
              subst c49
              have H1 : (if t441 = 3 then (if (t438.length : Int) = 0 then (acmelaw01_ThreadAgrees.j3 k3 l0 t442 t445 a2_0 a2_1 a2_2) else (none)) else (none)) = some r := by rw [if_neg (show ¬ (false = true) by decide)] at H; exact H
              clear H
              have H := H1
              clear H1
              by_cases c55 : t441 = 3
              ·rw [if_pos c55] at H
               have c55b0 : (t441 == 3) = true := beq_iff_eq.mpr c55
               have c55b1 : (t441 != 3) = false := bne_eq_false_iff_eq.mpr c55
               clear c55
               by_cases c56 : (t438.length : Int) = 0
               ·rw [if_pos c56] at H
                have c56b0 : ((t438.length : Int) == 0) = true := beq_iff_eq.mpr c56
                have c56b1 : ((t438.length : Int) != 0) = false := bne_eq_false_iff_eq.mpr c56
                clear c56
                have H' := Aside0.mk H
                clear H
                obtain ⟨Ao57, co57, eo57⟩ := Kd.R_slice HO_8.out
                subst eo57
                go_wp2
                go_meet
                case rel => exact ⟨_, H', ⟨by have := HJ3.out; have := HK2.out; have := HK3.out; first | omega | exact Nat.le_refl _⟩, ⟨by (with_reducible repeat (first | apply Kd.R_alloc | apply Kd.R_drewN | apply Kd.R_drew)); exact HO_10.out⟩, BK429, BK430, ⟨by repeat (first | (with_reducible first | exact HB.out | apply below_alloc | apply pw_below_drewN | apply below_drew1 | refine below_set ?_ (Aside0.out (by assumption))) | exact HB.out)⟩⟩
               ·rw [if_neg c56] at H
                exact absurd H (by simp)
              ·rw [if_neg c55] at H
               exact absurd H (by simp)
            case rest => as_aux_lemma =>
             clear HC45
             try clear c1; try clear c2; try clear p2; try clear c3; try clear c4; try clear p4; try clear q4; try clear hx4; try clear c5; try clear p6; try clear c7; try clear c7b0; try clear c7b1; try clear c8; try clear c8b0; try clear c8b1; try clear c9; try clear c12; try clear c18; try clear c24; try clear c24b0; try clear c25; try clear c25b0; try clear c26; try clear c26b0; try clear c27; try clear c27b0; try clear c30; try clear c30b0; try clear c30b1; try clear c31; try clear c32; try clear c33; try clear c34; try clear c34b0; try clear c35; try clear c35b0; try clear c37; try clear c38; try clear p44; try clear q44; try clear hx44; try clear p45; try clear q45; try clear hx45; try clear c46; try clear c49; try clear c50; try clear c50b0; try clear c50b1; try clear c52; try clear c55; try clear c55b0; try clear c55b1; try clear c56; try clear c56b0; try clear c56b1; try clear hcz19_0; try clear hcz19_1; try clear hcz19_10; try clear hcz19_11; try clear hcz19_12; try clear hcz19_13; try clear hcz19_14; try clear hcz19_2; try clear hcz19_3; try clear hcz19_4; try clear hcz19_5; try clear hcz19_6; try clear hcz19_7; try clear hcz19_8; try clear hcz19_9; try clear hcz22_0; try clear hcz22_1; try clear hcz22_2; try clear hcz47_0; try clear hcz47_1; try clear hcz47_10; try clear hcz47_11; try clear hcz47_12; try clear hcz47_13; try clear hcz47_14; try clear hcz47_2; try clear hcz47_3; try clear hcz47_4; try clear hcz47_5; try clear hcz47_6; try clear hcz47_7; try clear hcz47_8; try clear hcz47_9; try clear hfz19_0; try clear hfz19_1; try clear hfz19_10; try clear hfz19_11; try clear hfz19_12; try clear hfz19_13; try clear hfz19_14; try clear hfz19_2; try clear hfz19_3; try clear hfz19_4; try clear hfz19_5; try clear hfz19_6; try clear hfz19_7; try clear hfz19_8; try clear hfz19_9; try clear hfz22_0; try clear hfz22_1; try clear hfz22_2; try clear hfz47_0; try clear hfz47_1; try clear hfz47_10; try clear hfz47_11; try clear hfz47_12; try clear hfz47_13; try clear hfz47_14; try clear hfz47_2; try clear hfz47_3; try clear hfz47_4; try clear hfz47_5; try clear hfz47_6; try clear hfz47_7; try clear hfz47_8; try clear hfz47_9; try clear hx446_0; try clear hx446_1; try clear hx446_2; try clear hx446_3; try clear hx446_4; try clear hx446_5; try clear hx446_6; try clear hx446_7; try clear hx447_0; try clear hx447_1; try clear hx447_2; try clear hx447_3; try clear hx447_4; try clear hx447_5; try clear hx447_6; try clear hx447_7; try clear hx453_0; try clear hx453_1; try clear hx453_2; try clear hx453_3; try clear hx453_4; try clear hx453_5; try clear hx453_6; try clear hx453_7; try clear p2; try clear p4; try clear p446; try clear p447; try clear p453; try clear p6; try clear q4; try clear q446; try clear q447; try clear q453
             obtain ⟨kq, HA, HJ44, HO_10, BK429, BK430, HB⟩ := hcut
             cases kq with
             | zero => exact absurd HA.out (by simp [acmelaw01_ThreadAgrees.j3])
             | succ kj44 =>
              have H := HA.out
              clear HA
              simp only [acmelaw01_ThreadAgrees.j3] at H
              have HC58 := Aside0.mk H
              clear H
              go_upto_region 25 with (fail)
              go_cut [135] (fun v135 wc => ∃ (kq : Nat) (x135_57 : Bool), v135 = .bool x135_57 ∧ Aside0 (acmelaw01_ThreadAgrees.j4 kq l0 t442 t445 x135_57 a2_0 a2_1 a2_2 = some r) ∧ Aside0 (kq ≤ kj44) ∧ Aside0 (Kd.R k67 67 wc w.heap.size (fun _ => True) v443 t442) ∧ Aside0 (wc.heap[gb429]? = some (.cells #[.int .i64 a1_0, .int .i64 a1_1, .int .i64 a1_2, .int .i64 a1_3, .int .i64 a1_4, .int .i64 a1_5, .int .i64 a1_6, .int .i64 a1_7, .int .i64 a1_8, .int .i64 a1_9, .int .i64 a1_10, .int .i64 a1_11, .int .i64 a1_12, .int .i64 a1_13, .int .i64 a1_14] 53 (0, 0))) ∧ Aside0 (wc.heap[gb430]? = some (.cells #[.int .i64 a2_0, .int .i64 a2_1, .int .i64 a2_2] 55 (0, 0))) ∧ Aside0 (Below w.heap.size w wc))
              case first => as_aux_lemma =>
               have H := HC58.out
               clear HC58
               replace H := Option.bind_eq_some_iff.mp H
               obtain ⟨t460, A590, H⟩ := H; (try dsimp only at H)
               have A59 := Aside0.mk A590
               clear A590
               by_cases c60 : t460 = true
               ·subst c60
                have H1 : ((acmeref01_In.f a2_1 0 10000000).bind fun t461 => (if t461 = true then ((acmeref01_In.f a2_2 0 10000000).bind fun t462 => (acmelaw01_ThreadAgrees.j4 kj44 l0 t442 t445 (!t462) a2_0 a2_1 a2_2)) else (acmelaw01_ThreadAgrees.j4 kj44 l0 t442 t445 true a2_0 a2_1 a2_2))) = some r := by rw [if_pos rfl] at H; exact H
                clear H
                have H := H1
                clear H1
                replace H := Option.bind_eq_some_iff.mp H
                obtain ⟨t461, A610, H⟩ := H; (try dsimp only at H)
                have A61 := Aside0.mk A610
                clear A610
                by_cases c62 : t461 = true
                ·subst c62
                 have H1 : ((acmeref01_In.f a2_2 0 10000000).bind fun t462 => (acmelaw01_ThreadAgrees.j4 kj44 l0 t442 t445 (!t462) a2_0 a2_1 a2_2)) = some r := by rw [if_pos rfl] at H; exact H
                 clear H
                 have H := H1
                 clear H1
                 replace H := Option.bind_eq_some_iff.mp H
                 obtain ⟨t462, A630, H⟩ := H; (try dsimp only at H)
                 have A63 := Aside0.mk A630
                 clear A630
                 have H' := Aside0.mk H
                 clear H
                 have hnb64 := NB430_429.out
                 have hnc64 := NB429_430.out
                 obtain ⟨hcz65_0, hcz65_1, hcz65_2⟩ := bc3 BK430.out
                 obtain ⟨hfz65_0, hfz65_1, hfz65_2⟩ := bf3 BK430.out
                 go_wp2_with (first | ((with_reducible refine gate_callee (f := 19) rfl ?_); refine goesL_ (some 122) rfl rfl Try.func19 (by kernel_rfl) rfl #[.int .i64 a2_0, .int .i64 0, .int .i64 10000000] rfl (by (try simp only [List.map_toArray, List.map_cons, List.map_nil]); first | done | rfl | (simp only [List.length_drop, List.length_take]; rfl)) ?_; (with_reducible refine (acmeref01_In.calls a2_0 0 10000000 true _ A59.out).mono ?_); rintro e w' ⟨rfl, ⟨nd, rfl⟩⟩; refine ⟨_, rfl, ?_⟩) | (go_at_call 19; (with_reducible refine (acmeref01_In.calls a2_1 0 10000000 true _ A61.out).mono ?_); rintro e w' ⟨rfl, ⟨nd, rfl⟩⟩) | (go_at_call 19; (with_reducible refine (acmeref01_In.calls a2_2 0 10000000 t462 _ A63.out).mono ?_); rintro e w' ⟨rfl, ⟨nd, rfl⟩⟩))
                 go_meet
                 case rel => exact ⟨_, (!t462), (by first | rfl | (simp; done) | (simp [*]; done)), H', ⟨by have := HJ3.out; have := HK2.out; have := HK3.out; have := HJ44.out; first | omega | exact Nat.le_refl _⟩, ⟨by (with_reducible repeat (first | apply Kd.R_alloc | apply Kd.R_drewN | apply Kd.R_drew)); exact HO_10.out⟩, BK429, BK430, ⟨by repeat (first | (with_reducible first | exact HB.out | apply below_alloc | apply pw_below_drewN | apply below_drew1 | refine below_set ?_ (Aside0.out (by assumption))) | exact HB.out)⟩⟩
                ·replace c62 := Bool.eq_false_iff.mpr c62
                 subst c62
                 have H1 : (acmelaw01_ThreadAgrees.j4 kj44 l0 t442 t445 true a2_0 a2_1 a2_2) = some r := by rw [if_neg (show ¬ (false = true) by decide)] at H; exact H
                 clear H
                 have H := H1
                 clear H1
                 have H' := Aside0.mk H
                 clear H
                 have hnb66 := NB430_429.out
                 have hnc66 := NB429_430.out
                 obtain ⟨hcz67_0, hcz67_1, hcz67_2⟩ := bc3 BK430.out
                 obtain ⟨hfz67_0, hfz67_1, hfz67_2⟩ := bf3 BK430.out
                 go_wp2_with (first | ((with_reducible refine gate_callee (f := 19) rfl ?_); refine goesL_ (some 122) rfl rfl Try.func19 (by kernel_rfl) rfl #[.int .i64 a2_0, .int .i64 0, .int .i64 10000000] rfl (by (try simp only [List.map_toArray, List.map_cons, List.map_nil]); first | done | rfl | (simp only [List.length_drop, List.length_take]; rfl)) ?_; (with_reducible refine (acmeref01_In.calls a2_0 0 10000000 true _ A59.out).mono ?_); rintro e w' ⟨rfl, ⟨nd, rfl⟩⟩; refine ⟨_, rfl, ?_⟩) | (go_at_call 19; (with_reducible refine (acmeref01_In.calls a2_1 0 10000000 false _ A61.out).mono ?_); rintro e w' ⟨rfl, ⟨nd, rfl⟩⟩))
                 go_meet
                 case rel => exact ⟨_, (true), (by first | rfl | (simp; done) | (simp [*]; done)), H', ⟨by have := HJ3.out; have := HK2.out; have := HK3.out; have := HJ44.out; first | omega | exact Nat.le_refl _⟩, ⟨by (with_reducible repeat (first | apply Kd.R_alloc | apply Kd.R_drewN | apply Kd.R_drew)); exact HO_10.out⟩, BK429, BK430, ⟨by repeat (first | (with_reducible first | exact HB.out | apply below_alloc | apply pw_below_drewN | apply below_drew1 | refine below_set ?_ (Aside0.out (by assumption))) | exact HB.out)⟩⟩
               ·replace c60 := Bool.eq_false_iff.mpr c60
                subst c60
                have H1 : (acmelaw01_ThreadAgrees.j4 kj44 l0 t442 t445 true a2_0 a2_1 a2_2) = some r := by rw [if_neg (show ¬ (false = true) by decide)] at H; exact H
                clear H
                have H := H1
                clear H1
                have H' := Aside0.mk H
                clear H
                have hnb68 := NB430_429.out
                have hnc68 := NB429_430.out
                obtain ⟨hcz69_0, hcz69_1, hcz69_2⟩ := bc3 BK430.out
                obtain ⟨hfz69_0, hfz69_1, hfz69_2⟩ := bf3 BK430.out
                go_wp2_with (first | ((with_reducible refine gate_callee (f := 19) rfl ?_); refine goesL_ (some 122) rfl rfl Try.func19 (by kernel_rfl) rfl #[.int .i64 a2_0, .int .i64 0, .int .i64 10000000] rfl (by (try simp only [List.map_toArray, List.map_cons, List.map_nil]); first | done | rfl | (simp only [List.length_drop, List.length_take]; rfl)) ?_; (with_reducible refine (acmeref01_In.calls a2_0 0 10000000 false _ A59.out).mono ?_); rintro e w' ⟨rfl, ⟨nd, rfl⟩⟩; refine ⟨_, rfl, ?_⟩))
                go_meet
                case rel => exact ⟨_, (true), (by first | rfl | (simp; done) | (simp [*]; done)), H', ⟨by have := HJ3.out; have := HK2.out; have := HK3.out; have := HJ44.out; first | omega | exact Nat.le_refl _⟩, ⟨by (with_reducible repeat (first | apply Kd.R_alloc | apply Kd.R_drewN | apply Kd.R_drew)); exact HO_10.out⟩, BK429, BK430, ⟨by repeat (first | (with_reducible first | exact HB.out | apply below_alloc | apply pw_below_drewN | apply below_drew1 | refine below_set ?_ (Aside0.out (by assumption))) | exact HB.out)⟩⟩
              case rest => as_aux_lemma =>
               clear HC58
               try clear c1; try clear c2; try clear p2; try clear c3; try clear c4; try clear p4; try clear q4; try clear hx4; try clear c5; try clear c6; try clear p6; try clear c7; try clear c7b0; try clear c7b1; try clear c8; try clear c8b0; try clear c8b1; try clear c9; try clear c12; try clear c18; try clear c19; try clear c24; try clear c24b0; try clear c25; try clear c25b0; try clear c26; try clear c26b0; try clear c27; try clear c27b0; try clear c30; try clear c30b0; try clear c30b1; try clear c31; try clear c32; try clear c33; try clear c34; try clear c34b0; try clear c35; try clear c35b0; try clear c37; try clear c38; try clear p44; try clear q44; try clear hx44; try clear p45; try clear q45; try clear hx45; try clear c46; try clear c49; try clear c50; try clear c50b0; try clear c50b1; try clear c52; try clear c55; try clear c55b0; try clear c55b1; try clear c56; try clear c56b0; try clear c56b1; try clear c60; try clear c62; try clear c64; try clear p64; try clear c66; try clear c68; try clear hcz19_0; try clear hcz19_1; try clear hcz19_10; try clear hcz19_11; try clear hcz19_12; try clear hcz19_13; try clear hcz19_14; try clear hcz19_2; try clear hcz19_3; try clear hcz19_4; try clear hcz19_5; try clear hcz19_6; try clear hcz19_7; try clear hcz19_8; try clear hcz19_9; try clear hcz22_0; try clear hcz22_1; try clear hcz22_2; try clear hcz47_0; try clear hcz47_1; try clear hcz47_10; try clear hcz47_11; try clear hcz47_12; try clear hcz47_13; try clear hcz47_14; try clear hcz47_2; try clear hcz47_3; try clear hcz47_4; try clear hcz47_5; try clear hcz47_6; try clear hcz47_7; try clear hcz47_8; try clear hcz47_9; try clear hcz65_0; try clear hcz65_1; try clear hcz65_2; try clear hcz67_0; try clear hcz67_1; try clear hcz67_2; try clear hcz69_0; try clear hcz69_1; try clear hcz69_2; try clear hfz19_0; try clear hfz19_1; try clear hfz19_10; try clear hfz19_11; try clear hfz19_12; try clear hfz19_13; try clear hfz19_14; try clear hfz19_2; try clear hfz19_3; try clear hfz19_4; try clear hfz19_5; try clear hfz19_6; try clear hfz19_7; try clear hfz19_8; try clear hfz19_9; try clear hfz22_0; try clear hfz22_1; try clear hfz22_2; try clear hfz47_0; try clear hfz47_1; try clear hfz47_10; try clear hfz47_11; try clear hfz47_12; try clear hfz47_13; try clear hfz47_14; try clear hfz47_2; try clear hfz47_3; try clear hfz47_4; try clear hfz47_5; try clear hfz47_6; try clear hfz47_7; try clear hfz47_8; try clear hfz47_9; try clear hfz65_0; try clear hfz65_1; try clear hfz65_2; try clear hfz67_0; try clear hfz67_1; try clear hfz67_2; try clear hfz69_0; try clear hfz69_1; try clear hfz69_2; try clear hx446_0; try clear hx446_1; try clear hx446_2; try clear hx446_3; try clear hx446_4; try clear hx446_5; try clear hx446_6; try clear hx446_7; try clear hx447_0; try clear hx447_1; try clear hx447_2; try clear hx447_3; try clear hx447_4; try clear hx447_5; try clear hx447_6; try clear hx447_7; try clear hx453_0; try clear hx453_1; try clear hx453_2; try clear hx453_3; try clear hx453_4; try clear hx453_5; try clear hx453_6; try clear hx453_7; try clear p2; try clear p4; try clear p44; try clear p446; try clear p447; try clear p45; try clear p453; try clear p6; try clear q4; try clear q44; try clear q446; try clear q447; try clear q45; try clear q453
               obtain ⟨kq, x135_57, rfl, HA, HJ57, HO_10, BK429, BK430, HB⟩ := hcut
               cases kq with
               | zero => exact absurd HA.out (by simp [acmelaw01_ThreadAgrees.j4])
               | succ kj57 =>
                have H := HA.out
                clear HA
                simp only [acmelaw01_ThreadAgrees.j4] at H
                by_cases c70 : x135_57 = true
                ·subst c70
                 have H1 : (if t445 = 3 then (if (t442.length : Int) = 0 then ((acmelaw01_known.f).bind fun t463 => (some t463)) else (none)) else (none)) = some r := by rw [if_pos rfl] at H; exact H
                 clear H
                 have H := H1
                 clear H1
                 by_cases c71 : t445 = 3
                 ·rw [if_pos c71] at H
                  have c71b0 : (t445 == 3) = true := beq_iff_eq.mpr c71
                  have c71b1 : (t445 != 3) = false := bne_eq_false_iff_eq.mpr c71
                  clear c71
                  by_cases c72 : (t442.length : Int) = 0
                  ·rw [if_pos c72] at H
                   have c72b0 : ((t442.length : Int) == 0) = true := beq_iff_eq.mpr c72
                   have c72b1 : ((t442.length : Int) != 0) = false := bne_eq_false_iff_eq.mpr c72
                   clear c72
                   replace H := Option.bind_eq_some_iff.mp H
                   obtain ⟨t463, A730, H⟩ := H; (try dsimp only at H)
                   have A73 := Aside0.mk A730
                   clear A730
                   obtain rfl := Option.some.inj H
                   obtain ⟨Ao74, co74, eo74⟩ := Kd.R_slice HO_10.out
                   subst eo74
                   go_wp2_with (first | (go_at_call 18; (with_reducible refine (acmelaw01_known.calls  t463 _ A73.out).mono ?_); rintro e w75 ⟨rfl, hb⟩; replace HO_10 := Aside0.mk (Kd.R_below (by (with_reducible repeat (first | apply Kd.R_alloc | apply Kd.R_drewN | apply Kd.R_drew)); exact HO_10.out) hb); replace BK429 := Aside0.mk (blk_below (g := gb429) (o := .cells #[.int .i64 a1_0, .int .i64 a1_1, .int .i64 a1_2, .int .i64 a1_3, .int .i64 a1_4, .int .i64 a1_5, .int .i64 a1_6, .int .i64 a1_7, .int .i64 a1_8, .int .i64 a1_9, .int .i64 a1_10, .int .i64 a1_11, .int .i64 a1_12, .int .i64 a1_13, .int .i64 a1_14] 53 (0, 0)) (by repeat (first | (with_reducible first | exact BK429.out | refine blk_drewN ?_ _ | refine blk_drew ?_ | refine blk_alloc ?_ _) | exact BK429.out)) hb); replace BK430 := Aside0.mk (blk_below (g := gb430) (o := .cells #[.int .i64 a2_0, .int .i64 a2_1, .int .i64 a2_2] 55 (0, 0)) (by repeat (first | (with_reducible first | exact BK430.out | refine blk_drewN ?_ _ | refine blk_drew ?_ | refine blk_alloc ?_ _) | exact BK430.out)) hb); replace HB := Aside0.mk (below_step (by repeat (first | (with_reducible first | exact HB.out | apply below_alloc | apply pw_below_drewN | apply below_drew1 | refine below_set ?_ (Aside0.out (by assumption))) | exact HB.out)) hb); (try clear hb); (try clear hb2); (try clear hk); (try clear hi)))
                   go_ret
                   exact ⟨by first | rfl | (simp [errW_none, errW_some] <;> rfl) | (simp [*, errW_none, errW_some] <;> rfl), by repeat (first | (with_reducible first | exact HB.out | apply below_alloc | apply pw_below_drewN | apply below_drew1 | refine below_set ?_ (Aside0.out (by assumption))) | exact HB.out)⟩
                  ·rw [if_neg c72] at H
                   exact absurd H (by simp)
                 ·rw [if_neg c71] at H
                  exact absurd H (by simp)
                ·replace c70 := Bool.eq_false_iff.mpr c70
                 subst c70
                 have H1 : (acmelaw01_ThreadAgrees.l2 kj57 l0 t442 t445 0 0 a2_0 a2_1 a2_2) = some r := by rw [if_neg (show ¬ (false = true) by decide)] at H; exact H
                 clear H
                 have H := H1
                 clear H1
                 have H' := Aside0.mk H
                 clear H
                 go_wp2
                 go_loopg [16, 17] kj57 (fun kq v16 v17 w' => ∃ (x16_6 : Int) (x17_6 : Int), v16 = .int .i64 x16_6 ∧ v17 = .int .i64 x17_6 ∧ Aside0 (acmelaw01_ThreadAgrees.l2 kq l0 t442 t445 x16_6 x17_6 a2_0 a2_1 a2_2 = some r) ∧ Aside0 (kq ≤ kj57) ∧ Aside0 (Kd.R k67 67 w' w.heap.size (fun _ => True) v443 t442) ∧ Aside0 (w'.heap[gb429]? = some (.cells #[.int .i64 a1_0, .int .i64 a1_1, .int .i64 a1_2, .int .i64 a1_3, .int .i64 a1_4, .int .i64 a1_5, .int .i64 a1_6, .int .i64 a1_7, .int .i64 a1_8, .int .i64 a1_9, .int .i64 a1_10, .int .i64 a1_11, .int .i64 a1_12, .int .i64 a1_13, .int .i64 a1_14] 53 (0, 0))) ∧ Aside0 (w'.heap[gb430]? = some (.cells #[.int .i64 a2_0, .int .i64 a2_1, .int .i64 a2_2] 55 (0, 0))) ∧ Aside0 (Below w.heap.size w w'))
                 case atStart => exact ⟨(0), (0), (by first | rfl | (simp; done) | (simp [*]; done)), (by first | rfl | (simp; done) | (simp [*]; done)), H', ⟨Nat.le_refl _⟩, ⟨by (with_reducible repeat (first | apply Kd.R_alloc | apply Kd.R_drewN | apply Kd.R_drew)); exact HO_10.out⟩, BK429, BK430, ⟨by repeat (first | (with_reducible first | exact HB.out | apply below_alloc | apply pw_below_drewN | apply below_drew1 | refine below_set ?_ (Aside0.out (by assumption))) | exact HB.out)⟩⟩
                 case round => as_aux_lemma =>
                  clear H'
                  try clear c1; try clear c2; try clear p2; try clear c3; try clear c4; try clear p4; try clear q4; try clear hx4; try clear c5; try clear c6; try clear p6; try clear c7; try clear c7b0; try clear c7b1; try clear c8; try clear c8b0; try clear c8b1; try clear c9; try clear c12; try clear c18; try clear c19; try clear c24; try clear c24b0; try clear c25; try clear c25b0; try clear c26; try clear c26b0; try clear c27; try clear c27b0; try clear c30; try clear c30b0; try clear c30b1; try clear c31; try clear c32; try clear c33; try clear c34; try clear c34b0; try clear c35; try clear c35b0; try clear c37; try clear c38; try clear p44; try clear q44; try clear hx44; try clear p45; try clear q45; try clear hx45; try clear c46; try clear c49; try clear c50; try clear c50b0; try clear c50b1; try clear c52; try clear c55; try clear c55b0; try clear c55b1; try clear c56; try clear c56b0; try clear c56b1; try clear c60; try clear c62; try clear c64; try clear p64; try clear c66; try clear c68; try clear c70; try clear c71; try clear c71b0; try clear c71b1; try clear c72; try clear c72b0; try clear c72b1; try clear hcz19_0; try clear hcz19_1; try clear hcz19_10; try clear hcz19_11; try clear hcz19_12; try clear hcz19_13; try clear hcz19_14; try clear hcz19_2; try clear hcz19_3; try clear hcz19_4; try clear hcz19_5; try clear hcz19_6; try clear hcz19_7; try clear hcz19_8; try clear hcz19_9; try clear hcz22_0; try clear hcz22_1; try clear hcz22_2; try clear hcz47_0; try clear hcz47_1; try clear hcz47_10; try clear hcz47_11; try clear hcz47_12; try clear hcz47_13; try clear hcz47_14; try clear hcz47_2; try clear hcz47_3; try clear hcz47_4; try clear hcz47_5; try clear hcz47_6; try clear hcz47_7; try clear hcz47_8; try clear hcz47_9; try clear hcz65_0; try clear hcz65_1; try clear hcz65_2; try clear hcz67_0; try clear hcz67_1; try clear hcz67_2; try clear hcz69_0; try clear hcz69_1; try clear hcz69_2; try clear hfz19_0; try clear hfz19_1; try clear hfz19_10; try clear hfz19_11; try clear hfz19_12; try clear hfz19_13; try clear hfz19_14; try clear hfz19_2; try clear hfz19_3; try clear hfz19_4; try clear hfz19_5; try clear hfz19_6; try clear hfz19_7; try clear hfz19_8; try clear hfz19_9; try clear hfz22_0; try clear hfz22_1; try clear hfz22_2; try clear hfz47_0; try clear hfz47_1; try clear hfz47_10; try clear hfz47_11; try clear hfz47_12; try clear hfz47_13; try clear hfz47_14; try clear hfz47_2; try clear hfz47_3; try clear hfz47_4; try clear hfz47_5; try clear hfz47_6; try clear hfz47_7; try clear hfz47_8; try clear hfz47_9; try clear hfz65_0; try clear hfz65_1; try clear hfz65_2; try clear hfz67_0; try clear hfz67_1; try clear hfz67_2; try clear hfz69_0; try clear hfz69_1; try clear hfz69_2; try clear hx446_0; try clear hx446_1; try clear hx446_2; try clear hx446_3; try clear hx446_4; try clear hx446_5; try clear hx446_6; try clear hx446_7; try clear hx447_0; try clear hx447_1; try clear hx447_2; try clear hx447_3; try clear hx447_4; try clear hx447_5; try clear hx447_6; try clear hx447_7; try clear hx453_0; try clear hx453_1; try clear hx453_2; try clear hx453_3; try clear hx453_4; try clear hx453_5; try clear hx453_6; try clear hx453_7; try clear p2; try clear p4; try clear p44; try clear p446; try clear p447; try clear p45; try clear p453; try clear p6; try clear p64; try clear q4; try clear q44; try clear q446; try clear q447; try clear q45; try clear q453
                  obtain ⟨x16_6, x17_6, rfl, rfl, HA, HK6, HO_10, BK429, BK430, HB⟩ := hrel
                  cases gk with
                  | zero => exact absurd HA.out (by simp [acmelaw01_ThreadAgrees.l2])
                  | succ k6 =>
                   have H := HA.out
                   clear HA
                   simp only [acmelaw01_ThreadAgrees.l2] at H
                   by_cases c76 : x17_6 < (l0.length : Int)
                   ·rw [if_pos c76] at H
                    have c76b0 : decide (x17_6 < (l0.length : Int)) = true := decide_eq_true c76
                    clear c76
                    have H' := Aside0.mk H
                    clear H
                    go_wp2
                    go_loopg [16, 18] k6 (fun kq v16 v18 w' => ∃ (x16_7 : Int) (x18_7 : Int), v16 = .int .i64 x16_7 ∧ v18 = .int .i64 x18_7 ∧ Aside0 (acmelaw01_ThreadAgrees.l3 kq l0 t442 t445 x16_7 x17_6 x18_7 a2_0 a2_1 a2_2 = some r) ∧ Aside0 (kq ≤ k6) ∧ Aside0 (Kd.R k67 67 w' w.heap.size (fun _ => True) v443 t442) ∧ Aside0 (w'.heap[gb429]? = some (.cells #[.int .i64 a1_0, .int .i64 a1_1, .int .i64 a1_2, .int .i64 a1_3, .int .i64 a1_4, .int .i64 a1_5, .int .i64 a1_6, .int .i64 a1_7, .int .i64 a1_8, .int .i64 a1_9, .int .i64 a1_10, .int .i64 a1_11, .int .i64 a1_12, .int .i64 a1_13, .int .i64 a1_14] 53 (0, 0))) ∧ Aside0 (w'.heap[gb430]? = some (.cells #[.int .i64 a2_0, .int .i64 a2_1, .int .i64 a2_2] 55 (0, 0))) ∧ Aside0 (Below w.heap.size w w'))
                    case atStart => exact ⟨(x16_6), (wrap64 (x17_6 + 1)), (by first | rfl | (simp; done) | (simp [*]; done)), (by first | rfl | (simp; done) | (simp [*]; done)), H', ⟨Nat.le_refl _⟩, ⟨by (with_reducible repeat (first | apply Kd.R_alloc | apply Kd.R_drewN | apply Kd.R_drew)); exact HO_10.out⟩, BK429, BK430, ⟨by repeat (first | (with_reducible first | exact HB.out | apply below_alloc | apply pw_below_drewN | apply below_drew1 | refine below_set ?_ (Aside0.out (by assumption))) | exact HB.out)⟩⟩
                    case round => as_aux_lemma =>
                     clear H'
                     try clear c1; try clear c2; try clear p2; try clear c3; try clear c4; try clear p4; try clear q4; try clear hx4; try clear c5; try clear c6; try clear p6; try clear c7; try clear c7b0; try clear c7b1; try clear c8; try clear c8b0; try clear c8b1; try clear c9; try clear c12; try clear c18; try clear c19; try clear c24; try clear c24b0; try clear c25; try clear c25b0; try clear c26; try clear c26b0; try clear c27; try clear c27b0; try clear c30; try clear c30b0; try clear c30b1; try clear c31; try clear c32; try clear c33; try clear c34; try clear c34b0; try clear c35; try clear c35b0; try clear c37; try clear c38; try clear p44; try clear q44; try clear hx44; try clear p45; try clear q45; try clear hx45; try clear c46; try clear c49; try clear c50; try clear c50b0; try clear c50b1; try clear c52; try clear c55; try clear c55b0; try clear c55b1; try clear c56; try clear c56b0; try clear c56b1; try clear c60; try clear c62; try clear c64; try clear p64; try clear c66; try clear c68; try clear c70; try clear c71; try clear c71b0; try clear c71b1; try clear c72; try clear c72b0; try clear c72b1; try clear c76; try clear c76b0; try clear hcz19_0; try clear hcz19_1; try clear hcz19_10; try clear hcz19_11; try clear hcz19_12; try clear hcz19_13; try clear hcz19_14; try clear hcz19_2; try clear hcz19_3; try clear hcz19_4; try clear hcz19_5; try clear hcz19_6; try clear hcz19_7; try clear hcz19_8; try clear hcz19_9; try clear hcz22_0; try clear hcz22_1; try clear hcz22_2; try clear hcz47_0; try clear hcz47_1; try clear hcz47_10; try clear hcz47_11; try clear hcz47_12; try clear hcz47_13; try clear hcz47_14; try clear hcz47_2; try clear hcz47_3; try clear hcz47_4; try clear hcz47_5; try clear hcz47_6; try clear hcz47_7; try clear hcz47_8; try clear hcz47_9; try clear hcz65_0; try clear hcz65_1; try clear hcz65_2; try clear hcz67_0; try clear hcz67_1; try clear hcz67_2; try clear hcz69_0; try clear hcz69_1; try clear hcz69_2; try clear hfz19_0; try clear hfz19_1; try clear hfz19_10; try clear hfz19_11; try clear hfz19_12; try clear hfz19_13; try clear hfz19_14; try clear hfz19_2; try clear hfz19_3; try clear hfz19_4; try clear hfz19_5; try clear hfz19_6; try clear hfz19_7; try clear hfz19_8; try clear hfz19_9; try clear hfz22_0; try clear hfz22_1; try clear hfz22_2; try clear hfz47_0; try clear hfz47_1; try clear hfz47_10; try clear hfz47_11; try clear hfz47_12; try clear hfz47_13; try clear hfz47_14; try clear hfz47_2; try clear hfz47_3; try clear hfz47_4; try clear hfz47_5; try clear hfz47_6; try clear hfz47_7; try clear hfz47_8; try clear hfz47_9; try clear hfz65_0; try clear hfz65_1; try clear hfz65_2; try clear hfz67_0; try clear hfz67_1; try clear hfz67_2; try clear hfz69_0; try clear hfz69_1; try clear hfz69_2; try clear hx446_0; try clear hx446_1; try clear hx446_2; try clear hx446_3; try clear hx446_4; try clear hx446_5; try clear hx446_6; try clear hx446_7; try clear hx447_0; try clear hx447_1; try clear hx447_2; try clear hx447_3; try clear hx447_4; try clear hx447_5; try clear hx447_6; try clear hx447_7; try clear hx453_0; try clear hx453_1; try clear hx453_2; try clear hx453_3; try clear hx453_4; try clear hx453_5; try clear hx453_6; try clear hx453_7; try clear p2; try clear p4; try clear p44; try clear p446; try clear p447; try clear p45; try clear p453; try clear p6; try clear p64; try clear q4; try clear q44; try clear q446; try clear q447; try clear q45; try clear q453
                     obtain ⟨x16_7, x18_7, rfl, rfl, HA, HK7, HO_10, BK429, BK430, HB⟩ := hrel
                     cases gk with
                     | zero => exact absurd HA.out (by simp [acmelaw01_ThreadAgrees.l3])
                     | succ k7 =>
                      have H := HA.out
                      clear HA
                      simp only [acmelaw01_ThreadAgrees.l3] at H
                      by_cases c77 : x18_7 < (l0.length : Int)
                      ·rw [if_pos c77] at H
                       have c77b0 : decide (x18_7 < (l0.length : Int)) = true := decide_eq_true c77
                       clear c77
                       by_cases c78 : 0 ≤ x17_6
                       ·rw [if_pos c78] at H
                        have c78b0 : decide (0 ≤ x17_6) = true := decide_eq_true c78
                        clear c78
                        by_cases c79 : x17_6 < (l0.length : Int)
                        ·rw [if_pos c79] at H
                         have c79b0 : decide (x17_6 < (l0.length : Int)) = true := decide_eq_true c79
                         clear c79
                         by_cases c80 : 0 ≤ x18_7
                         ·rw [if_pos c80] at H
                          have c80b0 : decide (0 ≤ x18_7) = true := decide_eq_true c80
                          clear c80
                          replace H := Option.bind_eq_some_iff.mp H
                          obtain ⟨t467, A810, H⟩ := H; (try dsimp only at H)
                          have A81 := Aside0.mk A810
                          clear A810
                          by_cases c82 : t467 = true
                          ·subst c82
                           have H1 : (if x16_7 ≥ (t442.length : Int) then (none) else (if 0 ≤ x16_7 then (if x16_7 < (t442.length : Int) then (if (!(((rd_T67 t442 x16_7).f0) == x17_6) || (!(((rd_T67 t442 x16_7).f1) == x18_7))) = true then (none) else (acmelaw01_ThreadAgrees.l3 k7 l0 t442 t445 (wrap64 (x16_7 + 1)) x17_6 (wrap64 (x18_7 + 1)) a2_0 a2_1 a2_2)) else (none)) else (none))) = some r := by rw [if_pos rfl] at H; exact H
                           clear H
                           have H := H1
                           clear H1
                           by_cases c83 : x16_7 ≥ (t442.length : Int)
                           ·rw [if_pos c83] at H
                            exact absurd H (by simp)
                           ·rw [if_neg c83] at H
                            have c83b0 : decide ((t442.length : Int) ≤ x16_7) = false := decide_eq_false c83
                            clear c83
                            by_cases c84 : 0 ≤ x16_7
                            ·rw [if_pos c84] at H
                             have c84b0 : decide (0 ≤ x16_7) = true := decide_eq_true c84
                             clear c84
                             by_cases c85 : x16_7 < (t442.length : Int)
                             ·rw [if_pos c85] at H
                              have c85b0 : decide (x16_7 < (t442.length : Int)) = true := decide_eq_true c85
                              clear c85
                              by_cases c86 : (!(((rd_T67 t442 x16_7).f0) == x17_6) || (!(((rd_T67 t442 x16_7).f1) == x18_7))) = true
                              ·rw [if_pos c86] at H
                               exact absurd H (by simp)
                              ·rw [if_neg c86] at H
                               have c86b0 : (!(((rd_T67 t442 x16_7).f0) == x17_6) || (!(((rd_T67 t442 x16_7).f1) == x18_7))) = false := by simpa using c86
                               clear c86
                               have H' := Aside0.mk H
                               clear H
                               try go_wp2
                               have n0_ := Aside0.mk (Kd.R_drew HO_10.out)
                               have n1_ := Aside0.mk (blk_drew BK429.out)
                               have n2_ := Aside0.mk (blk_drew BK430.out)
                               have n3_ := Aside0.mk (below_drew1 HB.out)
                               clear HO_10
                               clear BK429
                               clear BK430
                               clear HB
                               have HO_10 := n0_
                               have BK429 := n1_
                               have BK430 := n2_
                               have HB := n3_
                               clear n0_ n1_ n2_ n3_
                               have p465 : 0 ≤ (x17_6 : Int) := of_decide_eq_true (by first | (with_reducible assumption) | assumption)
                               have q465 : x17_6 < (l0.length : Int) := of_decide_eq_true (by first | (with_reducible assumption) | assumption)
                               obtain ⟨ad465, e465, hx465_0, hx465_1, hx465_2, hx465_3, hx465_4, hx465_5, hx465_6, hx465_7⟩ := at_T23 HR0.out x17_6 p465 q465
                               have hw465_7 := hx465_7
                               have hw465_6 := hx465_6
                               have hw465_5 := hx465_5
                               have hw465_4 := hx465_4
                               have hw465_3 := hx465_3
                               have hw465_2 := hx465_2
                               have hw465_1 := hx465_1
                               have hw465_0 := hx465_0
                               cases e465
                               replace hx465_0 := (HB.out.cell (World.block_lt_of_cell? w _ hx465_0)).trans hx465_0
                               replace hx465_1 := (HB.out.cell (World.block_lt_of_cell? w _ hx465_1)).trans hx465_1
                               replace hx465_2 := (HB.out.cell (World.block_lt_of_cell? w _ hx465_2)).trans hx465_2
                               replace hx465_3 := (HB.out.cell (World.block_lt_of_cell? w _ hx465_3)).trans hx465_3
                               replace hx465_4 := (HB.out.cell (World.block_lt_of_cell? w _ hx465_4)).trans hx465_4
                               replace hx465_5 := (HB.out.cell (World.block_lt_of_cell? w _ hx465_5)).trans hx465_5
                               replace hx465_6 := (HB.out.cell (World.block_lt_of_cell? w _ hx465_6)).trans hx465_6
                               replace hx465_7 := (HB.out.cell (World.block_lt_of_cell? w _ hx465_7)).trans hx465_7
                               replace p465 := eq_true p465
                               replace q465 := eq_true q465
                               have p466 : 0 ≤ (x18_7 : Int) := of_decide_eq_true (by first | (with_reducible assumption) | assumption)
                               have q466 : x18_7 < (l0.length : Int) := of_decide_eq_true (by first | (with_reducible assumption) | assumption)
                               obtain ⟨ad466, e466, hx466_0, hx466_1, hx466_2, hx466_3, hx466_4, hx466_5, hx466_6, hx466_7⟩ := at_T23 HR0.out x18_7 p466 q466
                               have hw466_7 := hx466_7
                               have hw466_6 := hx466_6
                               have hw466_5 := hx466_5
                               have hw466_4 := hx466_4
                               have hw466_3 := hx466_3
                               have hw466_2 := hx466_2
                               have hw466_1 := hx466_1
                               have hw466_0 := hx466_0
                               obtain rfl : ad465 = ad466 := (by injection e466)
                               replace hx466_0 := (HB.out.cell (World.block_lt_of_cell? w _ hx466_0)).trans hx466_0
                               replace hx466_1 := (HB.out.cell (World.block_lt_of_cell? w _ hx466_1)).trans hx466_1
                               replace hx466_2 := (HB.out.cell (World.block_lt_of_cell? w _ hx466_2)).trans hx466_2
                               replace hx466_3 := (HB.out.cell (World.block_lt_of_cell? w _ hx466_3)).trans hx466_3
                               replace hx466_4 := (HB.out.cell (World.block_lt_of_cell? w _ hx466_4)).trans hx466_4
                               replace hx466_5 := (HB.out.cell (World.block_lt_of_cell? w _ hx466_5)).trans hx466_5
                               replace hx466_6 := (HB.out.cell (World.block_lt_of_cell? w _ hx466_6)).trans hx466_6
                               replace hx466_7 := (HB.out.cell (World.block_lt_of_cell? w _ hx466_7)).trans hx466_7
                               replace p466 := eq_true p466
                               replace q466 := eq_true q466
                               refine start_ (n := 11) (S := fun w' => w'.cell? ⟨gb430, 0, none⟩ = some (.int .i64 a2_0) ∧ w'.cell? ⟨gb430, 1, none⟩ = some (.int .i64 a2_1) ∧ w'.cell? ⟨gb430, 2, none⟩ = some (.int .i64 a2_2) ∧ w'.cell? (ad465.add ((x17_6).toNat * 8)) = some (.int .i64 ((rd_T23 l0 x17_6).f0)) ∧ w'.cell? ⟨(ad465.add ((x17_6).toNat * 8)).block, (ad465.add ((x17_6).toNat * 8)).off + 1, none⟩ = some (.int .i64 ((rd_T23 l0 x17_6).f1)) ∧ w'.cell? ⟨(ad465.add ((x17_6).toNat * 8)).block, (ad465.add ((x17_6).toNat * 8)).off + 2, none⟩ = some (.int .i64 ((rd_T23 l0 x17_6).f2)) ∧ w'.cell? ⟨(ad465.add ((x17_6).toNat * 8)).block, (ad465.add ((x17_6).toNat * 8)).off + 3, none⟩ = some (.int .i64 ((rd_T23 l0 x17_6).f3)) ∧ w'.cell? ⟨(ad465.add ((x17_6).toNat * 8)).block, (ad465.add ((x17_6).toNat * 8)).off + 4, none⟩ = some (.int .i64 ((rd_T23 l0 x17_6).f4)) ∧ w'.cell? ⟨(ad465.add ((x17_6).toNat * 8)).block, (ad465.add ((x17_6).toNat * 8)).off + 5, none⟩ = some (.int .i64 ((rd_T23 l0 x17_6).f5)) ∧ w'.cell? ⟨(ad465.add ((x17_6).toNat * 8)).block, (ad465.add ((x17_6).toNat * 8)).off + 6, none⟩ = some (.bool ((rd_T23 l0 x17_6).f6)) ∧ w'.cell? ⟨(ad465.add ((x17_6).toNat * 8)).block, (ad465.add ((x17_6).toNat * 8)).off + 7, none⟩ = some (.int .i64 ((rd_T23 l0 x17_6).f7)) ∧ w'.cell? (ad465.add ((x18_7).toNat * 8)) = some (.int .i64 ((rd_T23 l0 x18_7).f0)) ∧ w'.cell? ⟨(ad465.add ((x18_7).toNat * 8)).block, (ad465.add ((x18_7).toNat * 8)).off + 1, none⟩ = some (.int .i64 ((rd_T23 l0 x18_7).f1)) ∧ w'.cell? ⟨(ad465.add ((x18_7).toNat * 8)).block, (ad465.add ((x18_7).toNat * 8)).off + 2, none⟩ = some (.int .i64 ((rd_T23 l0 x18_7).f2)) ∧ w'.cell? ⟨(ad465.add ((x18_7).toNat * 8)).block, (ad465.add ((x18_7).toNat * 8)).off + 3, none⟩ = some (.int .i64 ((rd_T23 l0 x18_7).f3)) ∧ w'.cell? ⟨(ad465.add ((x18_7).toNat * 8)).block, (ad465.add ((x18_7).toNat * 8)).off + 4, none⟩ = some (.int .i64 ((rd_T23 l0 x18_7).f4)) ∧ w'.cell? ⟨(ad465.add ((x18_7).toNat * 8)).block, (ad465.add ((x18_7).toNat * 8)).off + 5, none⟩ = some (.int .i64 ((rd_T23 l0 x18_7).f5)) ∧ w'.cell? ⟨(ad465.add ((x18_7).toNat * 8)).block, (ad465.add ((x18_7).toNat * 8)).off + 6, none⟩ = some (.bool ((rd_T23 l0 x18_7).f6)) ∧ w'.cell? ⟨(ad465.add ((x18_7).toNat * 8)).block, (ad465.add ((x18_7).toNat * 8)).off + 7, none⟩ = some (.int .i64 ((rd_T23 l0 x18_7).f7))) (ds := []) #[false, false, false, false, false, false, false, false, false, false, false] (by kernel_rfl) rfl rfl ⟨(blk_cell BK430.out 0).trans rfl, (blk_cell BK430.out 1).trans rfl, (blk_cell BK430.out 2).trans rfl, ((HB.out.cell (World.block_lt_of_cell? w _ hw465_0)).trans hw465_0), ((HB.out.cell (World.block_lt_of_cell? w _ hw465_1)).trans hw465_1), ((HB.out.cell (World.block_lt_of_cell? w _ hw465_2)).trans hw465_2), ((HB.out.cell (World.block_lt_of_cell? w _ hw465_3)).trans hw465_3), ((HB.out.cell (World.block_lt_of_cell? w _ hw465_4)).trans hw465_4), ((HB.out.cell (World.block_lt_of_cell? w _ hw465_5)).trans hw465_5), ((HB.out.cell (World.block_lt_of_cell? w _ hw465_6)).trans hw465_6), ((HB.out.cell (World.block_lt_of_cell? w _ hw465_7)).trans hw465_7), ((HB.out.cell (World.block_lt_of_cell? w _ hw466_0)).trans hw466_0), ((HB.out.cell (World.block_lt_of_cell? w _ hw466_1)).trans hw466_1), ((HB.out.cell (World.block_lt_of_cell? w _ hw466_2)).trans hw466_2), ((HB.out.cell (World.block_lt_of_cell? w _ hw466_3)).trans hw466_3), ((HB.out.cell (World.block_lt_of_cell? w _ hw466_4)).trans hw466_4), ((HB.out.cell (World.block_lt_of_cell? w _ hw466_5)).trans hw466_5), ((HB.out.cell (World.block_lt_of_cell? w _ hw466_6)).trans hw466_6), ((HB.out.cell (World.block_lt_of_cell? w _ hw466_7)).trans hw466_7)⟩ (fun hHeld => ?_); refine with_tabW acmelaw01_ThreadAgrees.tab34 acmelaw01_ThreadAgrees.bits34 (fun HT_ HW_ => ?_)
                               generalize wr.drew = w87 at HO_10 BK429 BK430 HB hx465_0 hx465_1 hx465_2 hx465_3 hx465_4 hx465_5 hx465_6 hx465_7 hx466_0 hx466_1 hx466_2 hx466_3 hx466_4 hx466_5 hx466_6 hx466_7 hHeld ⊢
                               refine pure_ (i := 0) (N := some 160) (v := ?_) (a' := ?_) #[true, false, false, false, false, false, false, false, false, false, false] rfl rfl (any_of HT_.out (by kernel_rfl)) (fun _ _ _ h => h) (Or.inl ⟨by rfl, ?_⟩) ?_ ?_
                               rotate_left
                               ·intro w'
                                go_simp
                                with_reducible rfl
                               rotate_left
                               ·simp only [Act.put, List.setIfInBounds_toArray, List.set_cons_zero, List.set_cons_succ, i64_w, i32_w]
                                rfl
                               refine pure_ (i := 1) (N := some 161) (v := ?_) (a' := ?_) #[true, true, false, false, false, false, false, false, false, false, false] rfl rfl (any_of HT_.out (by kernel_rfl)) (fun _ _ _ h => h) (Or.inl ⟨by rfl, ?_⟩) ?_ ?_
                               rotate_left
                               ·intro w'
                                go_simp
                                with_reducible rfl
                               rotate_left
                               ·simp only [Act.put, List.setIfInBounds_toArray, List.set_cons_zero, List.set_cons_succ, i64_w, i32_w]
                                rfl
                               refine pure_ (i := 2) (N := some 162) (v := ?_) (a' := ?_) #[true, true, true, false, false, false, false, false, false, false, false] rfl rfl (any_of HT_.out (by kernel_rfl)) (fun _ _ _ h => h) (Or.inl ⟨by rfl, ?_⟩) ?_ ?_
                               rotate_left
                               ·intro w'
                                go_simp
                                with_reducible rfl
                               rotate_left
                               ·simp only [Act.put, List.setIfInBounds_toArray, List.set_cons_zero, List.set_cons_succ, i64_w, i32_w]
                                rfl
                               refine pure_ (i := 4) (N := some 164) (v := ?_) (a' := ?_) #[true, true, true, false, true, false, false, false, false, false, false] rfl rfl (any_of HT_.out (by kernel_rfl)) (fun _ _ _ h => h) (Or.inl ⟨by rfl, ?_⟩) ?_ ?_
                               rotate_left
                               ·intro w'
                                go_simp
                                with_reducible rfl
                               rotate_left
                               ·simp only [Act.put, List.setIfInBounds_toArray, List.set_cons_zero, List.set_cons_succ, i64_w, i32_w]
                                rfl
                               refine pure_ (i := 5) (N := some 165) (v := ?_) (a' := ?_) #[true, true, true, false, true, true, false, false, false, false, false] rfl rfl (any_of HT_.out (by kernel_rfl)) (fun _ _ _ h => h) (Or.inl ⟨by rfl, ?_⟩) ?_ ?_
                               rotate_left
                               ·intro w'
                                go_simp
                                with_reducible rfl
                               rotate_left
                               ·simp only [Act.put, List.setIfInBounds_toArray, List.set_cons_zero, List.set_cons_succ, i64_w, i32_w]
                                rfl
                               refine pure_ (i := 6) (N := some 166) (v := ?_) (a' := ?_) #[true, true, true, false, true, true, true, false, false, false, false] rfl rfl (any_of HT_.out (by kernel_rfl)) (fun _ _ _ h => h) (Or.inl ⟨by rfl, ?_⟩) ?_ ?_
                               rotate_left
                               ·intro w'
                                go_simp
                                with_reducible rfl
                               rotate_left
                               ·simp only [Act.put, List.setIfInBounds_toArray, List.set_cons_zero, List.set_cons_succ, i64_w, i32_w]
                                rfl
                               refine take_ (i := 3) (N := some 163) (v := ?_) (a' := ?_) #[true, true, true, true, true, true, true, false, false, false, false] rfl rfl (take_ofW HT_.out HW_.out (by kernel_rfl)) (fun _ _ _ h => h) (Or.inl ⟨by rfl, ?_⟩) hHeld ?_ ?_
                               rotate_left
                               ·rintro w' ⟨s0, s1, s2, s3, s4, s5, s6, s7, s8, s9, s10, s11, s12, s13, s14, s15, s16, s17, s18⟩
                                go_simp
                                with_reducible rfl
                               rotate_left
                               ·simp only [Act.put, List.setIfInBounds_toArray, List.set_cons_zero, List.set_cons_succ, i64_w, i32_w]
                                rfl
                               refine take_ (i := 7) (N := some 167) (v := ?_) (a' := ?_) #[true, true, true, true, true, true, true, true, false, false, false] rfl rfl (take_ofW HT_.out HW_.out (by kernel_rfl)) (fun _ _ _ h => h) (Or.inl ⟨by rfl, ?_⟩) hHeld ?_ ?_
                               rotate_left
                               ·rintro w' ⟨s0, s1, s2, s3, s4, s5, s6, s7, s8, s9, s10, s11, s12, s13, s14, s15, s16, s17, s18⟩
                                go_simp
                                with_reducible rfl
                               rotate_left
                               ·simp only [Act.put, List.setIfInBounds_toArray, List.set_cons_zero, List.set_cons_succ, i64_w, i32_w]
                                rfl
                               refine take_ (i := 8) (N := some 168) (v := ?_) (a' := ?_) #[true, true, true, true, true, true, true, true, true, false, false] rfl rfl (take_ofW HT_.out HW_.out (by kernel_rfl)) (fun _ _ _ h => h) (Or.inl ⟨by rfl, ?_⟩) hHeld ?_ ?_
                               rotate_left
                               ·rintro w' ⟨s0, s1, s2, s3, s4, s5, s6, s7, s8, s9, s10, s11, s12, s13, s14, s15, s16, s17, s18⟩
                                go_simp
                                with_reducible rfl
                               rotate_left
                               ·simp only [Act.put, List.setIfInBounds_toArray, List.set_cons_zero, List.set_cons_succ, i64_w, i32_w]
                                rfl
                               refine one_ (i := 9) (N := some 169) #[true, true, true, true, true, true, true, true, true, true, false] rfl rfl (one_of HT_.out (by kernel_rfl)) (by decide) (fun K hK => ?_)
                               refine goes_ Try.func36 (by kernel_rfl) rfl #[.agg #[.int .i64 ((rd_T23 l0 x17_6).f0), .int .i64 ((rd_T23 l0 x17_6).f1), .int .i64 ((rd_T23 l0 x17_6).f2), .int .i64 ((rd_T23 l0 x17_6).f3), .int .i64 ((rd_T23 l0 x17_6).f4), .int .i64 ((rd_T23 l0 x17_6).f5), .bool ((rd_T23 l0 x17_6).f6), .int .i64 ((rd_T23 l0 x17_6).f7)], .agg #[.int .i64 ((rd_T23 l0 x18_7).f0), .int .i64 ((rd_T23 l0 x18_7).f1), .int .i64 ((rd_T23 l0 x18_7).f2), .int .i64 ((rd_T23 l0 x18_7).f3), .int .i64 ((rd_T23 l0 x18_7).f4), .int .i64 ((rd_T23 l0 x18_7).f5), .bool ((rd_T23 l0 x18_7).f6), .int .i64 ((rd_T23 l0 x18_7).f7)], .agg #[.int .i64 a2_0, .int .i64 a2_1, .int .i64 a2_2]] (by rfl) rfl rfl (by (try simp only [List.map_toArray, List.map_cons, List.map_nil]); first | done | rfl | (simp only [List.length_drop, List.length_take]; rfl)) ?_
                               with_reducible refine (acmeref01_Alike.calls k7 ((rd_T23 l0 x17_6).f0) ((rd_T23 l0 x17_6).f1) ((rd_T23 l0 x17_6).f2) ((rd_T23 l0 x17_6).f3) ((rd_T23 l0 x17_6).f4) ((rd_T23 l0 x17_6).f5) ((rd_T23 l0 x17_6).f6) ((rd_T23 l0 x17_6).f7) ((rd_T23 l0 x18_7).f0) ((rd_T23 l0 x18_7).f1) ((rd_T23 l0 x18_7).f2) ((rd_T23 l0 x18_7).f3) ((rd_T23 l0 x18_7).f4) ((rd_T23 l0 x18_7).f5) ((rd_T23 l0 x18_7).f6) ((rd_T23 l0 x18_7).f7) a2_0 a2_1 a2_2 true _ A81.out).mono ?_
                               rintro e w88 ⟨rfl, hb⟩
                               refine ⟨_, rfl, ?_⟩
                               have n0_ := Aside0.mk (Kd.R_below (by (with_reducible repeat (first | apply Kd.R_alloc | apply Kd.R_drewN | apply Kd.R_drew)); exact HO_10.out) hb)
                               have n1_ := Aside0.mk (blk_below (g := gb429) (o := .cells #[.int .i64 a1_0, .int .i64 a1_1, .int .i64 a1_2, .int .i64 a1_3, .int .i64 a1_4, .int .i64 a1_5, .int .i64 a1_6, .int .i64 a1_7, .int .i64 a1_8, .int .i64 a1_9, .int .i64 a1_10, .int .i64 a1_11, .int .i64 a1_12, .int .i64 a1_13, .int .i64 a1_14] 53 (0, 0)) (by repeat (first | (with_reducible first | exact BK429.out | refine blk_drewN ?_ _ | refine blk_drew ?_ | refine blk_alloc ?_ _) | exact BK429.out)) hb)
                               have n2_ := Aside0.mk (blk_below (g := gb430) (o := .cells #[.int .i64 a2_0, .int .i64 a2_1, .int .i64 a2_2] 55 (0, 0)) (by repeat (first | (with_reducible first | exact BK430.out | refine blk_drewN ?_ _ | refine blk_drew ?_ | refine blk_alloc ?_ _) | exact BK430.out)) hb)
                               have n3_ := Aside0.mk (below_step (by repeat (first | (with_reducible first | exact HB.out | apply below_alloc | apply pw_below_drewN | apply below_drew1 | refine below_set ?_ (Aside0.out (by assumption))) | exact HB.out)) hb)
                               clear HO_10
                               clear BK429
                               clear BK430
                               clear HB
                               have HO_10 := n0_
                               have BK429 := n1_
                               have BK430 := n2_
                               have HB := n3_
                               clear n0_ n1_ n2_ n3_
                               (try clear hb)
                               (try clear hb2)
                               (try clear hk)
                               (try clear hi)
                               refine hK.out _ _ ⟨(blk_cell BK430.out 0).trans rfl, (blk_cell BK430.out 1).trans rfl, (blk_cell BK430.out 2).trans rfl, ((HB.out.cell (World.block_lt_of_cell? w _ hw465_0)).trans hw465_0), ((HB.out.cell (World.block_lt_of_cell? w _ hw465_1)).trans hw465_1), ((HB.out.cell (World.block_lt_of_cell? w _ hw465_2)).trans hw465_2), ((HB.out.cell (World.block_lt_of_cell? w _ hw465_3)).trans hw465_3), ((HB.out.cell (World.block_lt_of_cell? w _ hw465_4)).trans hw465_4), ((HB.out.cell (World.block_lt_of_cell? w _ hw465_5)).trans hw465_5), ((HB.out.cell (World.block_lt_of_cell? w _ hw465_6)).trans hw465_6), ((HB.out.cell (World.block_lt_of_cell? w _ hw465_7)).trans hw465_7), ((HB.out.cell (World.block_lt_of_cell? w _ hw466_0)).trans hw466_0), ((HB.out.cell (World.block_lt_of_cell? w _ hw466_1)).trans hw466_1), ((HB.out.cell (World.block_lt_of_cell? w _ hw466_2)).trans hw466_2), ((HB.out.cell (World.block_lt_of_cell? w _ hw466_3)).trans hw466_3), ((HB.out.cell (World.block_lt_of_cell? w _ hw466_4)).trans hw466_4), ((HB.out.cell (World.block_lt_of_cell? w _ hw466_5)).trans hw466_5), ((HB.out.cell (World.block_lt_of_cell? w _ hw466_6)).trans hw466_6), ((HB.out.cell (World.block_lt_of_cell? w _ hw466_7)).trans hw466_7)⟩ (fun hHeld => ?_)
                               clear hK K
                               refine norm_ (a' := ?_) ?_ ?_
                               rotate_left
                               ·show Act.put _ (some 169) _ = _
                                simp only [Act.put, List.setIfInBounds_toArray, List.set_cons_zero, List.set_cons_succ, i64_w, i32_w]
                                rfl
                               refine pure_ (i := 10) (N := some 170) (v := ?_) (a' := ?_) #[true, true, true, true, true, true, true, true, true, true, true] rfl rfl (any_of HT_.out (by kernel_rfl)) (fun _ _ _ h => h) (Or.inl ⟨by rfl, ?_⟩) ?_ ?_
                               rotate_left
                               ·intro w'
                                go_simp
                                with_reducible rfl
                               rotate_left
                               ·simp only [Act.put, List.setIfInBounds_toArray, List.set_cons_zero, List.set_cons_succ, i64_w, i32_w]
                                rfl
                               refine done_ (done_of HT_.out (by kernel_rfl)) ?_
                               obtain ⟨Ao89, co89, eo89⟩ := Kd.R_slice HO_10.out
                               subst eo89
                               have p468 : 0 ≤ (x16_7 : Int) := of_decide_eq_true (by first | (with_reducible assumption) | assumption)
                               have q468 : x16_7 < (t442.length : Int) := of_decide_eq_true (by first | (with_reducible assumption) | assumption)
                               obtain ⟨ad468, e468, hx468_0, hx468_1⟩ := at_T67 (Kd.R_reads' HO_10.out).2.2 x16_7 p468 q468
                               cases e468
                               replace p468 := eq_true p468
                               replace q468 := eq_true q468
                               try go_wp2
                               go_roundg k7
                               case measure => have := HJ3.out; have := HK2.out; have := HK3.out; have := HJ44.out; have := HJ57.out; have := HK6.out; have := HK7.out; omega
                               case rel => exact ⟨(wrap64 (x16_7 + 1)), (wrap64 (x18_7 + 1)), (by first | rfl | (simp; done) | (simp [*]; done)), (by first | rfl | (simp; done) | (simp [*]; done)), H', ⟨by have := HJ3.out; have := HK2.out; have := HK3.out; have := HJ44.out; have := HJ57.out; have := HK6.out; have := HK7.out; omega⟩, ⟨by (with_reducible repeat (first | apply Kd.R_alloc | apply Kd.R_drewN | apply Kd.R_drew)); exact HO_10.out⟩, BK429, BK430, ⟨by repeat (first | (with_reducible first | exact HB.out | apply below_alloc | apply pw_below_drewN | apply below_drew1 | refine below_set ?_ (Aside0.out (by assumption))) | exact HB.out)⟩⟩
                             ·rw [if_neg c85] at H
                              exact absurd H (by simp)
                            ·rw [if_neg c84] at H
                             exact absurd H (by simp)
                          ·replace c82 := Bool.eq_false_iff.mpr c82
                           subst c82
                           have H1 : (acmelaw01_ThreadAgrees.l3 k7 l0 t442 t445 x16_7 x17_6 (wrap64 (x18_7 + 1)) a2_0 a2_1 a2_2) = some r := by rw [if_neg (show ¬ (false = true) by decide)] at H; exact H
                           clear H
                           have H := H1
                           clear H1
                           have H' := Aside0.mk H
                           clear H
                           try go_wp2
                           have n0_ := Aside0.mk (Kd.R_drew HO_10.out)
                           have n1_ := Aside0.mk (blk_drew BK429.out)
                           have n2_ := Aside0.mk (blk_drew BK430.out)
                           have n3_ := Aside0.mk (below_drew1 HB.out)
                           clear HO_10
                           clear BK429
                           clear BK430
                           clear HB
                           have HO_10 := n0_
                           have BK429 := n1_
                           have BK430 := n2_
                           have HB := n3_
                           clear n0_ n1_ n2_ n3_
                           have p465 : 0 ≤ (x17_6 : Int) := of_decide_eq_true (by first | (with_reducible assumption) | assumption)
                           have q465 : x17_6 < (l0.length : Int) := of_decide_eq_true (by first | (with_reducible assumption) | assumption)
                           obtain ⟨ad465, e465, hx465_0, hx465_1, hx465_2, hx465_3, hx465_4, hx465_5, hx465_6, hx465_7⟩ := at_T23 HR0.out x17_6 p465 q465
                           have hw465_7 := hx465_7
                           have hw465_6 := hx465_6
                           have hw465_5 := hx465_5
                           have hw465_4 := hx465_4
                           have hw465_3 := hx465_3
                           have hw465_2 := hx465_2
                           have hw465_1 := hx465_1
                           have hw465_0 := hx465_0
                           cases e465
                           replace hx465_0 := (HB.out.cell (World.block_lt_of_cell? w _ hx465_0)).trans hx465_0
                           replace hx465_1 := (HB.out.cell (World.block_lt_of_cell? w _ hx465_1)).trans hx465_1
                           replace hx465_2 := (HB.out.cell (World.block_lt_of_cell? w _ hx465_2)).trans hx465_2
                           replace hx465_3 := (HB.out.cell (World.block_lt_of_cell? w _ hx465_3)).trans hx465_3
                           replace hx465_4 := (HB.out.cell (World.block_lt_of_cell? w _ hx465_4)).trans hx465_4
                           replace hx465_5 := (HB.out.cell (World.block_lt_of_cell? w _ hx465_5)).trans hx465_5
                           replace hx465_6 := (HB.out.cell (World.block_lt_of_cell? w _ hx465_6)).trans hx465_6
                           replace hx465_7 := (HB.out.cell (World.block_lt_of_cell? w _ hx465_7)).trans hx465_7
                           replace p465 := eq_true p465
                           replace q465 := eq_true q465
                           have p466 : 0 ≤ (x18_7 : Int) := of_decide_eq_true (by first | (with_reducible assumption) | assumption)
                           have q466 : x18_7 < (l0.length : Int) := of_decide_eq_true (by first | (with_reducible assumption) | assumption)
                           obtain ⟨ad466, e466, hx466_0, hx466_1, hx466_2, hx466_3, hx466_4, hx466_5, hx466_6, hx466_7⟩ := at_T23 HR0.out x18_7 p466 q466
                           have hw466_7 := hx466_7
                           have hw466_6 := hx466_6
                           have hw466_5 := hx466_5
                           have hw466_4 := hx466_4
                           have hw466_3 := hx466_3
                           have hw466_2 := hx466_2
                           have hw466_1 := hx466_1
                           have hw466_0 := hx466_0
                           obtain rfl : ad465 = ad466 := (by injection e466)
                           replace hx466_0 := (HB.out.cell (World.block_lt_of_cell? w _ hx466_0)).trans hx466_0
                           replace hx466_1 := (HB.out.cell (World.block_lt_of_cell? w _ hx466_1)).trans hx466_1
                           replace hx466_2 := (HB.out.cell (World.block_lt_of_cell? w _ hx466_2)).trans hx466_2
                           replace hx466_3 := (HB.out.cell (World.block_lt_of_cell? w _ hx466_3)).trans hx466_3
                           replace hx466_4 := (HB.out.cell (World.block_lt_of_cell? w _ hx466_4)).trans hx466_4
                           replace hx466_5 := (HB.out.cell (World.block_lt_of_cell? w _ hx466_5)).trans hx466_5
                           replace hx466_6 := (HB.out.cell (World.block_lt_of_cell? w _ hx466_6)).trans hx466_6
                           replace hx466_7 := (HB.out.cell (World.block_lt_of_cell? w _ hx466_7)).trans hx466_7
                           replace p466 := eq_true p466
                           replace q466 := eq_true q466
                           refine start_ (n := 11) (S := fun w' => w'.cell? ⟨gb430, 0, none⟩ = some (.int .i64 a2_0) ∧ w'.cell? ⟨gb430, 1, none⟩ = some (.int .i64 a2_1) ∧ w'.cell? ⟨gb430, 2, none⟩ = some (.int .i64 a2_2) ∧ w'.cell? (ad465.add ((x17_6).toNat * 8)) = some (.int .i64 ((rd_T23 l0 x17_6).f0)) ∧ w'.cell? ⟨(ad465.add ((x17_6).toNat * 8)).block, (ad465.add ((x17_6).toNat * 8)).off + 1, none⟩ = some (.int .i64 ((rd_T23 l0 x17_6).f1)) ∧ w'.cell? ⟨(ad465.add ((x17_6).toNat * 8)).block, (ad465.add ((x17_6).toNat * 8)).off + 2, none⟩ = some (.int .i64 ((rd_T23 l0 x17_6).f2)) ∧ w'.cell? ⟨(ad465.add ((x17_6).toNat * 8)).block, (ad465.add ((x17_6).toNat * 8)).off + 3, none⟩ = some (.int .i64 ((rd_T23 l0 x17_6).f3)) ∧ w'.cell? ⟨(ad465.add ((x17_6).toNat * 8)).block, (ad465.add ((x17_6).toNat * 8)).off + 4, none⟩ = some (.int .i64 ((rd_T23 l0 x17_6).f4)) ∧ w'.cell? ⟨(ad465.add ((x17_6).toNat * 8)).block, (ad465.add ((x17_6).toNat * 8)).off + 5, none⟩ = some (.int .i64 ((rd_T23 l0 x17_6).f5)) ∧ w'.cell? ⟨(ad465.add ((x17_6).toNat * 8)).block, (ad465.add ((x17_6).toNat * 8)).off + 6, none⟩ = some (.bool ((rd_T23 l0 x17_6).f6)) ∧ w'.cell? ⟨(ad465.add ((x17_6).toNat * 8)).block, (ad465.add ((x17_6).toNat * 8)).off + 7, none⟩ = some (.int .i64 ((rd_T23 l0 x17_6).f7)) ∧ w'.cell? (ad465.add ((x18_7).toNat * 8)) = some (.int .i64 ((rd_T23 l0 x18_7).f0)) ∧ w'.cell? ⟨(ad465.add ((x18_7).toNat * 8)).block, (ad465.add ((x18_7).toNat * 8)).off + 1, none⟩ = some (.int .i64 ((rd_T23 l0 x18_7).f1)) ∧ w'.cell? ⟨(ad465.add ((x18_7).toNat * 8)).block, (ad465.add ((x18_7).toNat * 8)).off + 2, none⟩ = some (.int .i64 ((rd_T23 l0 x18_7).f2)) ∧ w'.cell? ⟨(ad465.add ((x18_7).toNat * 8)).block, (ad465.add ((x18_7).toNat * 8)).off + 3, none⟩ = some (.int .i64 ((rd_T23 l0 x18_7).f3)) ∧ w'.cell? ⟨(ad465.add ((x18_7).toNat * 8)).block, (ad465.add ((x18_7).toNat * 8)).off + 4, none⟩ = some (.int .i64 ((rd_T23 l0 x18_7).f4)) ∧ w'.cell? ⟨(ad465.add ((x18_7).toNat * 8)).block, (ad465.add ((x18_7).toNat * 8)).off + 5, none⟩ = some (.int .i64 ((rd_T23 l0 x18_7).f5)) ∧ w'.cell? ⟨(ad465.add ((x18_7).toNat * 8)).block, (ad465.add ((x18_7).toNat * 8)).off + 6, none⟩ = some (.bool ((rd_T23 l0 x18_7).f6)) ∧ w'.cell? ⟨(ad465.add ((x18_7).toNat * 8)).block, (ad465.add ((x18_7).toNat * 8)).off + 7, none⟩ = some (.int .i64 ((rd_T23 l0 x18_7).f7))) (ds := []) #[false, false, false, false, false, false, false, false, false, false, false] (by kernel_rfl) rfl rfl ⟨(blk_cell BK430.out 0).trans rfl, (blk_cell BK430.out 1).trans rfl, (blk_cell BK430.out 2).trans rfl, ((HB.out.cell (World.block_lt_of_cell? w _ hw465_0)).trans hw465_0), ((HB.out.cell (World.block_lt_of_cell? w _ hw465_1)).trans hw465_1), ((HB.out.cell (World.block_lt_of_cell? w _ hw465_2)).trans hw465_2), ((HB.out.cell (World.block_lt_of_cell? w _ hw465_3)).trans hw465_3), ((HB.out.cell (World.block_lt_of_cell? w _ hw465_4)).trans hw465_4), ((HB.out.cell (World.block_lt_of_cell? w _ hw465_5)).trans hw465_5), ((HB.out.cell (World.block_lt_of_cell? w _ hw465_6)).trans hw465_6), ((HB.out.cell (World.block_lt_of_cell? w _ hw465_7)).trans hw465_7), ((HB.out.cell (World.block_lt_of_cell? w _ hw466_0)).trans hw466_0), ((HB.out.cell (World.block_lt_of_cell? w _ hw466_1)).trans hw466_1), ((HB.out.cell (World.block_lt_of_cell? w _ hw466_2)).trans hw466_2), ((HB.out.cell (World.block_lt_of_cell? w _ hw466_3)).trans hw466_3), ((HB.out.cell (World.block_lt_of_cell? w _ hw466_4)).trans hw466_4), ((HB.out.cell (World.block_lt_of_cell? w _ hw466_5)).trans hw466_5), ((HB.out.cell (World.block_lt_of_cell? w _ hw466_6)).trans hw466_6), ((HB.out.cell (World.block_lt_of_cell? w _ hw466_7)).trans hw466_7)⟩ (fun hHeld => ?_); refine with_tabW acmelaw01_ThreadAgrees.tab34 acmelaw01_ThreadAgrees.bits34 (fun HT_ HW_ => ?_)
                           generalize wr.drew = w90 at HO_10 BK429 BK430 HB hx465_0 hx465_1 hx465_2 hx465_3 hx465_4 hx465_5 hx465_6 hx465_7 hx466_0 hx466_1 hx466_2 hx466_3 hx466_4 hx466_5 hx466_6 hx466_7 hHeld ⊢
                           refine pure_ (i := 0) (N := some 160) (v := ?_) (a' := ?_) #[true, false, false, false, false, false, false, false, false, false, false] rfl rfl (any_of HT_.out (by kernel_rfl)) (fun _ _ _ h => h) (Or.inl ⟨by rfl, ?_⟩) ?_ ?_
                           rotate_left
                           ·intro w'
                            go_simp
                            with_reducible rfl
                           rotate_left
                           ·simp only [Act.put, List.setIfInBounds_toArray, List.set_cons_zero, List.set_cons_succ, i64_w, i32_w]
                            rfl
                           refine pure_ (i := 1) (N := some 161) (v := ?_) (a' := ?_) #[true, true, false, false, false, false, false, false, false, false, false] rfl rfl (any_of HT_.out (by kernel_rfl)) (fun _ _ _ h => h) (Or.inl ⟨by rfl, ?_⟩) ?_ ?_
                           rotate_left
                           ·intro w'
                            go_simp
                            with_reducible rfl
                           rotate_left
                           ·simp only [Act.put, List.setIfInBounds_toArray, List.set_cons_zero, List.set_cons_succ, i64_w, i32_w]
                            rfl
                           refine pure_ (i := 2) (N := some 162) (v := ?_) (a' := ?_) #[true, true, true, false, false, false, false, false, false, false, false] rfl rfl (any_of HT_.out (by kernel_rfl)) (fun _ _ _ h => h) (Or.inl ⟨by rfl, ?_⟩) ?_ ?_
                           rotate_left
                           ·intro w'
                            go_simp
                            with_reducible rfl
                           rotate_left
                           ·simp only [Act.put, List.setIfInBounds_toArray, List.set_cons_zero, List.set_cons_succ, i64_w, i32_w]
                            rfl
                           refine pure_ (i := 4) (N := some 164) (v := ?_) (a' := ?_) #[true, true, true, false, true, false, false, false, false, false, false] rfl rfl (any_of HT_.out (by kernel_rfl)) (fun _ _ _ h => h) (Or.inl ⟨by rfl, ?_⟩) ?_ ?_
                           rotate_left
                           ·intro w'
                            go_simp
                            with_reducible rfl
                           rotate_left
                           ·simp only [Act.put, List.setIfInBounds_toArray, List.set_cons_zero, List.set_cons_succ, i64_w, i32_w]
                            rfl
                           refine pure_ (i := 5) (N := some 165) (v := ?_) (a' := ?_) #[true, true, true, false, true, true, false, false, false, false, false] rfl rfl (any_of HT_.out (by kernel_rfl)) (fun _ _ _ h => h) (Or.inl ⟨by rfl, ?_⟩) ?_ ?_
                           rotate_left
                           ·intro w'
                            go_simp
                            with_reducible rfl
                           rotate_left
                           ·simp only [Act.put, List.setIfInBounds_toArray, List.set_cons_zero, List.set_cons_succ, i64_w, i32_w]
                            rfl
                           refine pure_ (i := 6) (N := some 166) (v := ?_) (a' := ?_) #[true, true, true, false, true, true, true, false, false, false, false] rfl rfl (any_of HT_.out (by kernel_rfl)) (fun _ _ _ h => h) (Or.inl ⟨by rfl, ?_⟩) ?_ ?_
                           rotate_left
                           ·intro w'
                            go_simp
                            with_reducible rfl
                           rotate_left
                           ·simp only [Act.put, List.setIfInBounds_toArray, List.set_cons_zero, List.set_cons_succ, i64_w, i32_w]
                            rfl
                           refine take_ (i := 3) (N := some 163) (v := ?_) (a' := ?_) #[true, true, true, true, true, true, true, false, false, false, false] rfl rfl (take_ofW HT_.out HW_.out (by kernel_rfl)) (fun _ _ _ h => h) (Or.inl ⟨by rfl, ?_⟩) hHeld ?_ ?_
                           rotate_left
                           ·rintro w' ⟨s0, s1, s2, s3, s4, s5, s6, s7, s8, s9, s10, s11, s12, s13, s14, s15, s16, s17, s18⟩
                            go_simp
                            with_reducible rfl
                           rotate_left
                           ·simp only [Act.put, List.setIfInBounds_toArray, List.set_cons_zero, List.set_cons_succ, i64_w, i32_w]
                            rfl
                           refine take_ (i := 7) (N := some 167) (v := ?_) (a' := ?_) #[true, true, true, true, true, true, true, true, false, false, false] rfl rfl (take_ofW HT_.out HW_.out (by kernel_rfl)) (fun _ _ _ h => h) (Or.inl ⟨by rfl, ?_⟩) hHeld ?_ ?_
                           rotate_left
                           ·rintro w' ⟨s0, s1, s2, s3, s4, s5, s6, s7, s8, s9, s10, s11, s12, s13, s14, s15, s16, s17, s18⟩
                            go_simp
                            with_reducible rfl
                           rotate_left
                           ·simp only [Act.put, List.setIfInBounds_toArray, List.set_cons_zero, List.set_cons_succ, i64_w, i32_w]
                            rfl
                           refine take_ (i := 8) (N := some 168) (v := ?_) (a' := ?_) #[true, true, true, true, true, true, true, true, true, false, false] rfl rfl (take_ofW HT_.out HW_.out (by kernel_rfl)) (fun _ _ _ h => h) (Or.inl ⟨by rfl, ?_⟩) hHeld ?_ ?_
                           rotate_left
                           ·rintro w' ⟨s0, s1, s2, s3, s4, s5, s6, s7, s8, s9, s10, s11, s12, s13, s14, s15, s16, s17, s18⟩
                            go_simp
                            with_reducible rfl
                           rotate_left
                           ·simp only [Act.put, List.setIfInBounds_toArray, List.set_cons_zero, List.set_cons_succ, i64_w, i32_w]
                            rfl
                           refine one_ (i := 9) (N := some 169) #[true, true, true, true, true, true, true, true, true, true, false] rfl rfl (one_of HT_.out (by kernel_rfl)) (by decide) (fun K hK => ?_)
                           refine goes_ Try.func36 (by kernel_rfl) rfl #[.agg #[.int .i64 ((rd_T23 l0 x17_6).f0), .int .i64 ((rd_T23 l0 x17_6).f1), .int .i64 ((rd_T23 l0 x17_6).f2), .int .i64 ((rd_T23 l0 x17_6).f3), .int .i64 ((rd_T23 l0 x17_6).f4), .int .i64 ((rd_T23 l0 x17_6).f5), .bool ((rd_T23 l0 x17_6).f6), .int .i64 ((rd_T23 l0 x17_6).f7)], .agg #[.int .i64 ((rd_T23 l0 x18_7).f0), .int .i64 ((rd_T23 l0 x18_7).f1), .int .i64 ((rd_T23 l0 x18_7).f2), .int .i64 ((rd_T23 l0 x18_7).f3), .int .i64 ((rd_T23 l0 x18_7).f4), .int .i64 ((rd_T23 l0 x18_7).f5), .bool ((rd_T23 l0 x18_7).f6), .int .i64 ((rd_T23 l0 x18_7).f7)], .agg #[.int .i64 a2_0, .int .i64 a2_1, .int .i64 a2_2]] (by rfl) rfl rfl (by (try simp only [List.map_toArray, List.map_cons, List.map_nil]); first | done | rfl | (simp only [List.length_drop, List.length_take]; rfl)) ?_
                           with_reducible refine (acmeref01_Alike.calls k7 ((rd_T23 l0 x17_6).f0) ((rd_T23 l0 x17_6).f1) ((rd_T23 l0 x17_6).f2) ((rd_T23 l0 x17_6).f3) ((rd_T23 l0 x17_6).f4) ((rd_T23 l0 x17_6).f5) ((rd_T23 l0 x17_6).f6) ((rd_T23 l0 x17_6).f7) ((rd_T23 l0 x18_7).f0) ((rd_T23 l0 x18_7).f1) ((rd_T23 l0 x18_7).f2) ((rd_T23 l0 x18_7).f3) ((rd_T23 l0 x18_7).f4) ((rd_T23 l0 x18_7).f5) ((rd_T23 l0 x18_7).f6) ((rd_T23 l0 x18_7).f7) a2_0 a2_1 a2_2 false _ A81.out).mono ?_
                           rintro e w91 ⟨rfl, hb⟩
                           refine ⟨_, rfl, ?_⟩
                           have n0_ := Aside0.mk (Kd.R_below (by (with_reducible repeat (first | apply Kd.R_alloc | apply Kd.R_drewN | apply Kd.R_drew)); exact HO_10.out) hb)
                           have n1_ := Aside0.mk (blk_below (g := gb429) (o := .cells #[.int .i64 a1_0, .int .i64 a1_1, .int .i64 a1_2, .int .i64 a1_3, .int .i64 a1_4, .int .i64 a1_5, .int .i64 a1_6, .int .i64 a1_7, .int .i64 a1_8, .int .i64 a1_9, .int .i64 a1_10, .int .i64 a1_11, .int .i64 a1_12, .int .i64 a1_13, .int .i64 a1_14] 53 (0, 0)) (by repeat (first | (with_reducible first | exact BK429.out | refine blk_drewN ?_ _ | refine blk_drew ?_ | refine blk_alloc ?_ _) | exact BK429.out)) hb)
                           have n2_ := Aside0.mk (blk_below (g := gb430) (o := .cells #[.int .i64 a2_0, .int .i64 a2_1, .int .i64 a2_2] 55 (0, 0)) (by repeat (first | (with_reducible first | exact BK430.out | refine blk_drewN ?_ _ | refine blk_drew ?_ | refine blk_alloc ?_ _) | exact BK430.out)) hb)
                           have n3_ := Aside0.mk (below_step (by repeat (first | (with_reducible first | exact HB.out | apply below_alloc | apply pw_below_drewN | apply below_drew1 | refine below_set ?_ (Aside0.out (by assumption))) | exact HB.out)) hb)
                           clear HO_10
                           clear BK429
                           clear BK430
                           clear HB
                           have HO_10 := n0_
                           have BK429 := n1_
                           have BK430 := n2_
                           have HB := n3_
                           clear n0_ n1_ n2_ n3_
                           (try clear hb)
                           (try clear hb2)
                           (try clear hk)
                           (try clear hi)
                           refine hK.out _ _ ⟨(blk_cell BK430.out 0).trans rfl, (blk_cell BK430.out 1).trans rfl, (blk_cell BK430.out 2).trans rfl, ((HB.out.cell (World.block_lt_of_cell? w _ hw465_0)).trans hw465_0), ((HB.out.cell (World.block_lt_of_cell? w _ hw465_1)).trans hw465_1), ((HB.out.cell (World.block_lt_of_cell? w _ hw465_2)).trans hw465_2), ((HB.out.cell (World.block_lt_of_cell? w _ hw465_3)).trans hw465_3), ((HB.out.cell (World.block_lt_of_cell? w _ hw465_4)).trans hw465_4), ((HB.out.cell (World.block_lt_of_cell? w _ hw465_5)).trans hw465_5), ((HB.out.cell (World.block_lt_of_cell? w _ hw465_6)).trans hw465_6), ((HB.out.cell (World.block_lt_of_cell? w _ hw465_7)).trans hw465_7), ((HB.out.cell (World.block_lt_of_cell? w _ hw466_0)).trans hw466_0), ((HB.out.cell (World.block_lt_of_cell? w _ hw466_1)).trans hw466_1), ((HB.out.cell (World.block_lt_of_cell? w _ hw466_2)).trans hw466_2), ((HB.out.cell (World.block_lt_of_cell? w _ hw466_3)).trans hw466_3), ((HB.out.cell (World.block_lt_of_cell? w _ hw466_4)).trans hw466_4), ((HB.out.cell (World.block_lt_of_cell? w _ hw466_5)).trans hw466_5), ((HB.out.cell (World.block_lt_of_cell? w _ hw466_6)).trans hw466_6), ((HB.out.cell (World.block_lt_of_cell? w _ hw466_7)).trans hw466_7)⟩ (fun hHeld => ?_)
                           clear hK K
                           refine norm_ (a' := ?_) ?_ ?_
                           rotate_left
                           ·show Act.put _ (some 169) _ = _
                            simp only [Act.put, List.setIfInBounds_toArray, List.set_cons_zero, List.set_cons_succ, i64_w, i32_w]
                            rfl
                           refine pure_ (i := 10) (N := some 170) (v := ?_) (a' := ?_) #[true, true, true, true, true, true, true, true, true, true, true] rfl rfl (any_of HT_.out (by kernel_rfl)) (fun _ _ _ h => h) (Or.inl ⟨by rfl, ?_⟩) ?_ ?_
                           rotate_left
                           ·intro w'
                            go_simp
                            with_reducible rfl
                           rotate_left
                           ·simp only [Act.put, List.setIfInBounds_toArray, List.set_cons_zero, List.set_cons_succ, i64_w, i32_w]
                            rfl
                           refine done_ (done_of HT_.out (by kernel_rfl)) ?_
                           try go_wp2
                           go_roundg k7
                           case measure => have := HJ3.out; have := HK2.out; have := HK3.out; have := HJ44.out; have := HJ57.out; have := HK6.out; have := HK7.out; omega
                           case rel => exact ⟨(x16_7), (wrap64 (x18_7 + 1)), (by first | rfl | (simp; done) | (simp [*]; done)), (by first | rfl | (simp; done) | (simp [*]; done)), H', ⟨by have := HJ3.out; have := HK2.out; have := HK3.out; have := HJ44.out; have := HJ57.out; have := HK6.out; have := HK7.out; omega⟩, ⟨by (with_reducible repeat (first | apply Kd.R_alloc | apply Kd.R_drewN | apply Kd.R_drew)); exact HO_10.out⟩, BK429, BK430, ⟨by repeat (first | (with_reducible first | exact HB.out | apply below_alloc | apply pw_below_drewN | apply below_drew1 | refine below_set ?_ (Aside0.out (by assumption))) | exact HB.out)⟩⟩
                         ·rw [if_neg c80] at H
                          exact absurd H (by simp)
                        ·rw [if_neg c79] at H
                         exact absurd H (by simp)
                       ·rw [if_neg c78] at H
                        exact absurd H (by simp)
                      ·rw [if_neg c77] at H
                       have c77b0 : decide (x18_7 < (l0.length : Int)) = false := decide_eq_false c77
                       clear c77
                       have H' := Aside0.mk H
                       clear H
                       go_wp2
                       go_roundg k7
                       case measure => have := HJ3.out; have := HK2.out; have := HK3.out; have := HJ44.out; have := HJ57.out; have := HK6.out; have := HK7.out; omega
                       case rel => exact ⟨(x16_7), (wrap64 (x17_6 + 1)), (by first | rfl | (simp; done) | (simp [*]; done)), (by first | rfl | (simp; done) | (simp [*]; done)), H', ⟨by have := HJ3.out; have := HK2.out; have := HK3.out; have := HJ44.out; have := HJ57.out; have := HK6.out; have := HK7.out; omega⟩, ⟨by (with_reducible repeat (first | apply Kd.R_alloc | apply Kd.R_drewN | apply Kd.R_drew)); exact HO_10.out⟩, BK429, BK430, ⟨by repeat (first | (with_reducible first | exact HB.out | apply below_alloc | apply pw_below_drewN | apply below_drew1 | refine below_set ?_ (Aside0.out (by assumption))) | exact HB.out)⟩⟩
                   ·rw [if_neg c76] at H
                    have c76b0 : decide (x17_6 < (l0.length : Int)) = false := decide_eq_false c76
                    clear c76
                    by_cases c92 : t445 = 0
                    ·rw [if_pos c92] at H
                     have c92b0 : (t445 == 0) = true := beq_iff_eq.mpr c92
                     have c92b1 : (t445 != 0) = false := bne_eq_false_iff_eq.mpr c92
                     clear c92
                     by_cases c93 : x16_6 = (t442.length : Int)
                     ·rw [if_pos c93] at H
                      have c93b0 : (x16_6 == (t442.length : Int)) = true := beq_iff_eq.mpr c93
                      have c93b1 : (x16_6 != (t442.length : Int)) = false := bne_eq_false_iff_eq.mpr c93
                      clear c93
                      replace H := Option.bind_eq_some_iff.mp H
                      obtain ⟨t464, A940, H⟩ := H; (try dsimp only at H)
                      have A94 := Aside0.mk A940
                      clear A940
                      obtain rfl := Option.some.inj H
                      obtain ⟨Ao95, co95, eo95⟩ := Kd.R_slice HO_10.out
                      subst eo95
                      go_wp2_with (first | (go_at_call 18; (with_reducible refine (acmelaw01_known.calls  t464 _ A94.out).mono ?_); rintro e w96 ⟨rfl, hb⟩; replace HO_10 := Aside0.mk (Kd.R_below (by (with_reducible repeat (first | apply Kd.R_alloc | apply Kd.R_drewN | apply Kd.R_drew)); exact HO_10.out) hb); replace BK429 := Aside0.mk (blk_below (g := gb429) (o := .cells #[.int .i64 a1_0, .int .i64 a1_1, .int .i64 a1_2, .int .i64 a1_3, .int .i64 a1_4, .int .i64 a1_5, .int .i64 a1_6, .int .i64 a1_7, .int .i64 a1_8, .int .i64 a1_9, .int .i64 a1_10, .int .i64 a1_11, .int .i64 a1_12, .int .i64 a1_13, .int .i64 a1_14] 53 (0, 0)) (by repeat (first | (with_reducible first | exact BK429.out | refine blk_drewN ?_ _ | refine blk_drew ?_ | refine blk_alloc ?_ _) | exact BK429.out)) hb); replace BK430 := Aside0.mk (blk_below (g := gb430) (o := .cells #[.int .i64 a2_0, .int .i64 a2_1, .int .i64 a2_2] 55 (0, 0)) (by repeat (first | (with_reducible first | exact BK430.out | refine blk_drewN ?_ _ | refine blk_drew ?_ | refine blk_alloc ?_ _) | exact BK430.out)) hb); replace HB := Aside0.mk (below_step (by repeat (first | (with_reducible first | exact HB.out | apply below_alloc | apply pw_below_drewN | apply below_drew1 | refine below_set ?_ (Aside0.out (by assumption))) | exact HB.out)) hb); (try clear hb); (try clear hb2); (try clear hk); (try clear hi)))
                      go_ret
                      exact ⟨by first | rfl | (simp [errW_none, errW_some] <;> rfl) | (simp [*, errW_none, errW_some] <;> rfl), by repeat (first | (with_reducible first | exact HB.out | apply below_alloc | apply pw_below_drewN | apply below_drew1 | refine below_set ?_ (Aside0.out (by assumption))) | exact HB.out)⟩
                     ·rw [if_neg c93] at H
                      exact absurd H (by simp)
                    ·rw [if_neg c92] at H
                     exact absurd H (by simp)
        ·rw [if_neg c30] at H
         have c30b0 : (t448 == 0) = false := beq_eq_false_iff_ne.mpr c30
         have c30b1 : (t448 != 0) = true := bne_iff_ne.mpr c30
         by_cases c97 : t441 = t448
         ·rw [if_pos c97] at H
          have c97b0 : (t441 == t448) = true := beq_iff_eq.mpr c97
          have c97b1 : (t441 != t448) = false := bne_eq_false_iff_eq.mpr c97
          clear c97
          by_cases c98 : t445 = t448
          ·rw [if_pos c98] at H
           have c98b0 : (t445 == t448) = true := beq_iff_eq.mpr c98
           have c98b1 : (t445 != t448) = false := bne_eq_false_iff_eq.mpr c98
           clear c98
           by_cases c99 : (wrap64 ((t438.length : Int) + (t442.length : Int))) = 0
           ·rw [if_pos c99] at H
            have c99b0 : ((wrap64 ((t438.length : Int) + (t442.length : Int))) == 0) = true := beq_iff_eq.mpr c99
            have c99b1 : ((wrap64 ((t438.length : Int) + (t442.length : Int))) != 0) = false := bne_eq_false_iff_eq.mpr c99
            clear c99
            replace H := Option.bind_eq_some_iff.mp H
            obtain ⟨t449, A1000, H⟩ := H; (try dsimp only at H)
            have A100 := Aside0.mk A1000
            clear A1000
            obtain rfl := Option.some.inj H
            go_wp2_with (first | ((with_reducible refine gate_callee (f := 32) rfl ?_); refine goesL_ (some 64) rfl rfl Try.func32 (by kernel_rfl) rfl #[.slice A0 l0.length c0] rfl (by (try simp only [List.map_toArray, List.map_cons, List.map_nil]); first | done | rfl | (simp only [List.length_drop, List.length_take]; rfl)) ?_; (with_reducible refine (acmeref01_Table.calls k2 _ _ l0 t448 _ ?side1 ?side2 A29.out).mono ?_); (case side1 => repeat (first | exact (Kd.C_below HR0.out HB.out) | (with_reducible refine Kd.C_alloc ?_ _) | (with_reducible refine Kd.C_drewN ?_ _) | (with_reducible refine Kd.C_drew ?_))); (case side2 => exact HC0.out); rintro e w101 ⟨rfl, hb⟩; refine ⟨_, rfl, ?_⟩; replace HO_7 := Aside0.mk (Kd.R_below (by (with_reducible repeat (first | apply Kd.R_alloc | apply Kd.R_drewN | apply Kd.R_drew)); exact HO_7.out) hb); replace HO_8 := Aside0.mk (Kd.R_below (by (with_reducible repeat (first | apply Kd.R_alloc | apply Kd.R_drewN | apply Kd.R_drew)); exact HO_8.out) hb); replace HO_10 := Aside0.mk (Kd.R_below (by (with_reducible repeat (first | apply Kd.R_alloc | apply Kd.R_drewN | apply Kd.R_drew)); exact HO_10.out) hb); replace BK429 := Aside0.mk (blk_below (g := gb429) (o := .cells #[.int .i64 a1_0, .int .i64 a1_1, .int .i64 a1_2, .int .i64 a1_3, .int .i64 a1_4, .int .i64 a1_5, .int .i64 a1_6, .int .i64 a1_7, .int .i64 a1_8, .int .i64 a1_9, .int .i64 a1_10, .int .i64 a1_11, .int .i64 a1_12, .int .i64 a1_13, .int .i64 a1_14] 53 (0, 0)) (by repeat (first | (with_reducible first | exact BK429.out | refine blk_drewN ?_ _ | refine blk_drew ?_ | refine blk_alloc ?_ _) | exact BK429.out)) hb); replace BK430 := Aside0.mk (blk_below (g := gb430) (o := .cells #[.int .i64 a2_0, .int .i64 a2_1, .int .i64 a2_2] 55 (0, 0)) (by repeat (first | (with_reducible first | exact BK430.out | refine blk_drewN ?_ _ | refine blk_drew ?_ | refine blk_alloc ?_ _) | exact BK430.out)) hb); replace HB := Aside0.mk (below_step (by repeat (first | (with_reducible first | exact HB.out | apply below_alloc | apply pw_below_drewN | apply below_drew1 | refine below_set ?_ (Aside0.out (by assumption))) | exact HB.out)) hb); (try clear hb); (try clear hb2); (try clear hk); (try clear hi); obtain ⟨Ao102, co102, eo102⟩ := Kd.R_slice HO_8.out; subst eo102; obtain ⟨Ao103, co103, eo103⟩ := Kd.R_slice HO_10.out; subst eo103) | (go_at_call 18; (with_reducible refine (acmelaw01_known.calls  t449 _ A100.out).mono ?_); rintro e w104 ⟨rfl, hb⟩; replace HO_7 := Aside0.mk (Kd.R_below (by (with_reducible repeat (first | apply Kd.R_alloc | apply Kd.R_drewN | apply Kd.R_drew)); exact HO_7.out) hb); replace HO_8 := Aside0.mk (Kd.R_below (by (with_reducible repeat (first | apply Kd.R_alloc | apply Kd.R_drewN | apply Kd.R_drew)); exact HO_8.out) hb); replace HO_10 := Aside0.mk (Kd.R_below (by (with_reducible repeat (first | apply Kd.R_alloc | apply Kd.R_drewN | apply Kd.R_drew)); exact HO_10.out) hb); replace BK429 := Aside0.mk (blk_below (g := gb429) (o := .cells #[.int .i64 a1_0, .int .i64 a1_1, .int .i64 a1_2, .int .i64 a1_3, .int .i64 a1_4, .int .i64 a1_5, .int .i64 a1_6, .int .i64 a1_7, .int .i64 a1_8, .int .i64 a1_9, .int .i64 a1_10, .int .i64 a1_11, .int .i64 a1_12, .int .i64 a1_13, .int .i64 a1_14] 53 (0, 0)) (by repeat (first | (with_reducible first | exact BK429.out | refine blk_drewN ?_ _ | refine blk_drew ?_ | refine blk_alloc ?_ _) | exact BK429.out)) hb); replace BK430 := Aside0.mk (blk_below (g := gb430) (o := .cells #[.int .i64 a2_0, .int .i64 a2_1, .int .i64 a2_2] 55 (0, 0)) (by repeat (first | (with_reducible first | exact BK430.out | refine blk_drewN ?_ _ | refine blk_drew ?_ | refine blk_alloc ?_ _) | exact BK430.out)) hb); replace HB := Aside0.mk (below_step (by repeat (first | (with_reducible first | exact HB.out | apply below_alloc | apply pw_below_drewN | apply below_drew1 | refine below_set ?_ (Aside0.out (by assumption))) | exact HB.out)) hb); (try clear hb); (try clear hb2); (try clear hk); (try clear hi)))
            go_ret
            exact ⟨by first | rfl | (simp [errW_none, errW_some] <;> rfl) | (simp [*, errW_none, errW_some] <;> rfl), by repeat (first | (with_reducible first | exact HB.out | apply below_alloc | apply pw_below_drewN | apply below_drew1 | refine below_set ?_ (Aside0.out (by assumption))) | exact HB.out)⟩
           ·rw [if_neg c99] at H
            exact absurd H (by simp)
          ·rw [if_neg c98] at H
           exact absurd H (by simp)
         ·rw [if_neg c97] at H
          exact absurd H (by simp)
    ·rw [if_neg c12] at H
     exact absurd H (by simp)

end Go.Proofs.Yticbhgjenidjlaa.T
