-- cut down, squeezed and laid together by pack.py (a program of this repository) out of this seat's texts
import Derived.RangeFuncNested
import Derived.RangeFuncBound
import Derived.RangeFuncCalls
import Derived.RangeFuncLeaves
import Derived.Shelf.Abstract
import Derived.Shelf.RegionOpen
import Derived.WalkKit
import Derived.OwnWalkIn
import Derived.TacticsInMore
import Derived.LoopNIn
import Derived.LoopIn
import Derived.Deep.RegionWith
import Derived.StillTailTactics
import Derived.Deep.RegionHeld3
import Derived.Test.YticbhgjenidjlaaZG9
import Derived.Test.YticbhgjenidjlaaZG10
import Derived.Test.YticbhgjenidjlaaZG2
import Derived.Test.YticbhgjenidjlaaZG8
import Derived.Test.YticbhgjenidjlaaZG5
import Derived.Test.YticbhgjenidjlaaZG4
import Derived.Test.YticbhgjenidjlaaZG7
import Derived.Test.YticbhgjenidjlaaZG3
import Derived.Test.YticbhgjenidjlaaZG6
import Derived.Test.YticbhgjenidjlaaZG1
namespace Go.Proofs.Yticbhgjenidjlaa.T
open Go.RowKit Go.Shelf Go.Proofs.YticbhgjenidjlaaW.PrintWords Go.Proofs.YticbhgjenidjlaaW.PrintLast Go.Proofs.YticbhgjenidjlaaW.PrintMore
set_option linter.unusedVariables false
set_option linter.unusedSimpArgs false
attribute [local go_sem] Oper.semAt_some

abbrev Val3 := Int × Int × Int
def enc3 (x : Val3) : Array Value := #[.agg #[.int .i64 x.1, .int .i64 x.2.1, .int .i64 x.2.2]]
set_option maxRecDepth 100000 in
set_option maxHeartbeats 4000000 in
theorem values_1_in (F : Fence) (n : Nat) (h80 : F.fn 80) (hro : F.round = none) (hn : 1 ≤ n) (l b1 b2 : Nat) (f0 f1 f2 f3 f4 f5 : Int) (f6 : Bool) (f7 : Int) (s0 s1 s2 s3 s4 s5 s6 s7 s8 s9 s10 s11 s12 s13 s14 : Int) (J Jx : List Val3 → World → Prop)
  (W : World) (hJ : AbidesFrom W.heap.size J)
  (hY : ∀ pre x W, J pre W → pre.length < 7 → YieldAt F (n - 1) Try.prog l (enc3 x) W fun e W' =>
   (e = .returned (.bool true) ∧ J (pre ++ [x]) W' ∧ True) ∨ (e = .returned (.bool false) ∧ Jx (pre ++ [x]) W'))
  (hb1 : W.heap[b1]? = some (.cells #[.int .i64 f0, .int .i64 f1, .int .i64 f2, .int .i64 f3, .int .i64 f4, .int .i64 f5, .bool f6, .int .i64 f7] 96 (0, 0)))
  (hb2 : W.heap[b2]? = some (.cells #[.int .i64 s0, .int .i64 s1, .int .i64 s2, .int .i64 s3, .int .i64 s4, .int .i64 s5, .int .i64 s6, .int .i64 s7, .int .i64 s8, .int .i64 s9, .int .i64 s10, .int .i64 s11, .int .i64 s12, .int .i64 s13, .int .i64 s14] 53 (0, 0)))
  (h0 : J [] W) :
  CallsIn F n Try.prog 80 #[.func (.yield l) #[] #[], .pointer (some ⟨b1, 0, none⟩), .pointer (some ⟨b2, 0, none⟩)] W fun e W' => (∃ v, e = .returned v) ∧
   ((∃ ys, ys = [(f0, s0, s1), (f1, s2, s3), (f2, s4, s5), (f3, s6, s7), (f4, s8, s9), (f5, s10, s11), (f7, s12, s13)] ∧ J ys W') ∨
    (∃ pre, pre <+: [(f0, s0, s1), (f1, s2, s3), (f2, s4, s5), (f3, s6, s7), (f4, s8, s9), (f5, s10, s11), (f7, s12, s13)] ∧ Jx pre W')) := by
 have hc0 : W.cell? ⟨b1, 0, none⟩ = some (.int .i64 f0) := (blk_cell hb1 0).trans rfl
 have hc1 : W.cell? ⟨b1, 1, none⟩ = some (.int .i64 f1) := (blk_cell hb1 1).trans rfl
 have hc2 : W.cell? ⟨b1, 2, none⟩ = some (.int .i64 f2) := (blk_cell hb1 2).trans rfl
 have hc3 : W.cell? ⟨b1, 3, none⟩ = some (.int .i64 f3) := (blk_cell hb1 3).trans rfl
 have hc4 : W.cell? ⟨b1, 4, none⟩ = some (.int .i64 f4) := (blk_cell hb1 4).trans rfl
 have hc5 : W.cell? ⟨b1, 5, none⟩ = some (.int .i64 f5) := (blk_cell hb1 5).trans rfl
 have hc7 : W.cell? ⟨b1, 7, none⟩ = some (.int .i64 f7) := (blk_cell hb1 7).trans rfl
 have hd0 : W.cell? ⟨b2, 0, none⟩ = some (.int .i64 s0) := (blk_cell hb2 0).trans rfl
 have hd1 : W.cell? ⟨b2, 1, none⟩ = some (.int .i64 s1) := (blk_cell hb2 1).trans rfl
 have hd2 : W.cell? ⟨b2, 2, none⟩ = some (.int .i64 s2) := (blk_cell hb2 2).trans rfl
 have hd3 : W.cell? ⟨b2, 3, none⟩ = some (.int .i64 s3) := (blk_cell hb2 3).trans rfl
 have hd4 : W.cell? ⟨b2, 4, none⟩ = some (.int .i64 s4) := (blk_cell hb2 4).trans rfl
 have hd5 : W.cell? ⟨b2, 5, none⟩ = some (.int .i64 s5) := (blk_cell hb2 5).trans rfl
 have hd6 : W.cell? ⟨b2, 6, none⟩ = some (.int .i64 s6) := (blk_cell hb2 6).trans rfl
 have hd7 : W.cell? ⟨b2, 7, none⟩ = some (.int .i64 s7) := (blk_cell hb2 7).trans rfl
 have hd8 : W.cell? ⟨b2, 8, none⟩ = some (.int .i64 s8) := (blk_cell hb2 8).trans rfl
 have hd9 : W.cell? ⟨b2, 9, none⟩ = some (.int .i64 s9) := (blk_cell hb2 9).trans rfl
 have hd10 : W.cell? ⟨b2, 10, none⟩ = some (.int .i64 s10) := (blk_cell hb2 10).trans rfl
 have hd11 : W.cell? ⟨b2, 11, none⟩ = some (.int .i64 s11) := (blk_cell hb2 11).trans rfl
 have hd12 : W.cell? ⟨b2, 12, none⟩ = some (.int .i64 s12) := (blk_cell hb2 12).trans rfl
 have hd13 : W.cell? ⟨b2, 13, none⟩ = some (.int .i64 s13) := (blk_cell hb2 13).trans rfl
 clear hb1 hb2
 have hu53 := Try.underlying53
 have hu96 := Try.underlying96
 have hu43 := Try.underlying43
 have hu23 := Try.underlying23
 have hu123 := Try.underlying123
 have hu131 := Try.underlying131
 refine callsIn_of_wp Try.func80 rfl h80 ?_ hro
 simp only [Try.ntmps80, List.size_toArray, List.length_cons, List.length_nil, Nat.reduceAdd, Nat.reduceSub, Array.replicate_succ, Array.replicate_zero, List.push_toArray, List.append_toArray, List.nil_append, List.cons_append]
 gi_wp2
 clear hc0 hc1 hc2 hc3 hc4 hc5 hc7 hd0 hd1 hd2 hd3 hd4 hd5 hd6 hd7 hd8 hd9 hd10 hd11 hd12 hd13
 obtain ⟨L, hL⟩ : ∃ L : List Val3, [(f0, s0, s1), (f1, s2, s3), (f2, s4, s5), (f3, s6, s7), (f4, s8, s9), (f5, s10, s11), (f7, s12, s13)] = L := ⟨_, rfl⟩
 have hlen : L.length = 7 := by rw [← hL]; rfl
 have hidx : ∀ k : Nat, k < 7 → ∃ x : Val3, L[k]? = some x ∧ ∀ w, (Instr.index 131 (.agg #[.int .i64 f0, .int .i64 s0, .int .i64 s1, .int .i64 f1, .int .i64 s2, .int .i64 s3, .int .i64 f2, .int .i64 s4, .int .i64 s5, .int .i64 f3, .int .i64 s6, .int .i64 s7, .int .i64 f4, .int .i64 s8, .int .i64 s9, .int .i64 f5, .int .i64 s10, .int .i64 s11, .int .i64 f7, .int .i64 s12, .int .i64 s13]) (.int .i64 (k : Int))).run Try.prog w = .ok (.agg #[.int .i64 x.1, .int .i64 x.2.1, .int .i64 x.2.2]) w := by
  intro k hk
  rw [← hL]
  obtain rfl | rfl | rfl | rfl | rfl | rfl | rfl : k = 0 ∨ k = 1 ∨ k = 2 ∨ k = 3 ∨ k = 4 ∨ k = 5 ∨ k = 6 := by omega
  all_goals exact ⟨_, rfl, fun w => by kernel_rfl⟩
 have HL := hid hlen
 have HI := hid hidx
 have HJ := hid hJ
 have HY := hid hY
 have H0 := hid h0
 have HE := hid hL
 clear hL hlen hidx hJ hY h0
 gi_loopw [49] (fun i wr => ∃ k : Nat, k ≤ 7 ∧ i = .int .i64 (k : Int) ∧ Hid (J (L.take k) wr) ∧ True) (fun i _ => 7 - (intOf i).toNat)
 case atStart => exact ⟨0, by omega, rfl, H0, trivial⟩
 case round =>
  obtain ⟨k, hk, rfl, HJk, _⟩ := hrel
  by_cases hlt : k < 7
  ·obtain ⟨x, hx, hix⟩ := HI.out k hlt
   have htake : L.take k ++ [x] = L.take (k + 1) := by
    have hk' : k < L.length := by have := HL.out; omega
    rw [List.take_succ_eq_append_getElem hk']; congr 2
    rw [List.getElem?_eq_getElem hk'] at hx; exact (Option.some.inj hx).symm
   have HX := hid htake
   clear hx htake
   have hJ2 := HJ.out _ _ (wr.alloc (.cells #[.int .i64 x.1, .int .i64 x.2.1, .int .i64 x.2.2] 123)) none HJk.out (World.grownBy_alloc _ _ none) (fun r e => by cases e)
   obtain ⟨fn, tmps, assign, body, hy, hR⟩ := HY.out (L.take k) x _ hJ2 (by rw [List.length_take]; omega)
   have HRR := hid hR
   clear hR hJ2 HJk
   dsimp only [enc3] at hy
   gi_wp2
   refine HRR.out.mono ?_
   rintro e W3 (⟨rfl, hJ3, _⟩ | ⟨rfl, hJx3⟩)
   ·have HJ3 := hid hJ3
    clear hJ3
    gi_wp2
    go_roundw
    case rel => exact ⟨k + 1, by omega, by go_num, by rw [← HX.out]; exact HJ3.out, trivial⟩
    case measure => simp [intOf]; omega
   ·have HJ3 := hid hJx3
    clear hJx3
    gi_wp2
    refine bodyPost_ret (results_none rfl _ _ _) rfl ?_
    exact ⟨⟨_, rfl⟩, .inr ⟨_, by rw [HE.out, HX.out]; exact List.take_prefix _ _, HJ3.out⟩⟩
  ·gi_wp2
   go_end0
   refine ⟨⟨_, rfl⟩, .inl ⟨L, HE.out.symm, ?_⟩⟩
   have := HJk.out
   rwa [List.take_of_length_le (by have := HL.out; omega)] at this
end Go.Proofs.Yticbhgjenidjlaa.T
namespace Go.Proofs.Yticbhgjenidjlaa.T
open Go.RowKit Go.Shelf Go.Proofs.YticbhgjenidjlaaW.PrintWords Go.Proofs.YticbhgjenidjlaaW.PrintLast Go.Proofs.YticbhgjenidjlaaW.PrintMore
set_option linter.unusedVariables false
set_option linter.unusedSimpArgs false
attribute [local go_sem] Oper.semAt_some

theorem blk_far2 {w : World} {D : Nat} {o : List Deferred} (h : w.heap[D]? = some (.deferred (some o))) (p : Addr) (v : Value) : (w.setCell p v).heap[D]? = some (.deferred (some o)) :=
 (KeepsOthers.setCell w p v).same D _ h rfl
theorem values_calls (f0 f1 f2 f3 f4 f5 : Int) (f6 : Bool) (f7 : Int) (s0 s1 s2 s3 s4 s5 s6 s7 s8 s9 s10 s11 s12 s13 s14 : Int) (w : World) :
  Calls Try.prog 72 #[.agg #[.int .i64 f0, .int .i64 f1, .int .i64 f2, .int .i64 f3, .int .i64 f4, .int .i64 f5, .bool f6, .int .i64 f7], .agg #[.int .i64 s0, .int .i64 s1, .int .i64 s2, .int .i64 s3, .int .i64 s4, .int .i64 s5, .int .i64 s6, .int .i64 s7, .int .i64 s8, .int .i64 s9, .int .i64 s10, .int .i64 s11, .int .i64 s12, .int .i64 s13, .int .i64 s14]] w fun e w' => e = .returned (.func (.func 80) #[] #[.pointer (some ⟨w.heap.size, 0, none⟩), .pointer (some ⟨w.heap.size + 1, 0, none⟩)]) ∧
   (w.alloc (.cells #[.int .i64 f0, .int .i64 f1, .int .i64 f2, .int .i64 f3, .int .i64 f4, .int .i64 f5, .bool f6, .int .i64 f7] 96)).alloc (.cells #[.int .i64 s0, .int .i64 s1, .int .i64 s2, .int .i64 s3, .int .i64 s4, .int .i64 s5, .int .i64 s6, .int .i64 s7, .int .i64 s8, .int .i64 s9, .int .i64 s10, .int .i64 s11, .int .i64 s12, .int .i64 s13, .int .i64 s14] 53) = w' := by
 go_enter Try.func72, Try.ntmps72
 go_wp2
 go_ret
 exact ⟨rfl, rfl⟩

theorem values_stops (n : Nat) (hn : 1 ≤ n) (b1 b2 : Nat) (f0 f1 f2 f3 f4 f5 : Int) (f6 : Bool) (f7 : Int) (s0 s1 s2 s3 s4 s5 s6 s7 s8 s9 s10 s11 s12 s13 s14 : Int) (w : World)
  (hb1 : w.heap[b1]? = some (.cells #[.int .i64 f0, .int .i64 f1, .int .i64 f2, .int .i64 f3, .int .i64 f4, .int .i64 f5, .bool f6, .int .i64 f7] 96 (0, 0))) (hb2 : w.heap[b2]? = some (.cells #[.int .i64 s0, .int .i64 s1, .int .i64 s2, .int .i64 s3, .int .i64 s4, .int .i64 s5, .int .i64 s6, .int .i64 s7, .int .i64 s8, .int .i64 s9, .int .i64 s10, .int .i64 s11, .int .i64 s12, .int .i64 s13, .int .i64 s14] 53 (0, 0))) :
  SeqStopsK Fence.wide n Try.prog 80 #[.pointer (some ⟨b1, 0, none⟩), .pointer (some ⟨b2, 0, none⟩)] enc3 (fun _ _ => True) (fun ys => ys = [(f0, s0, s1), (f1, s2, s3), (f2, s4, s5), (f3, s6, s7), (f4, s8, s9), (f5, s10, s11), (f7, s12, s13)]) (fun pre => pre <+: [(f0, s0, s1), (f1, s2, s3), (f2, s4, s5), (f3, s6, s7), (f4, s8, s9), (f5, s10, s11), (f7, s12, s13)]) 7 w :=
 fun l J Jx W hW hJ _ hY h0 => values_1_in Fence.wide n trivial rfl hn l b1 b2 f0 f1 f2 f3 f4 f5 f6 f7 s0 s1 s2 s3 s4 s5 s6 s7 s8 s9 s10 s11 s12 s13 s14 J Jx W hJ hY (blk_below hb1 hW) (blk_below hb2 hW) h0

def okV (x : Val3) : Bool := !(outside x.2.1 x.2.2 x.1)
def thread_form_agrees.f (a0_0 a0_1 a0_2 a0_3 a0_4 a0_5 : Int) (a0_6 : Bool) (a0_7 : Int) (s0 s1 s2 s3 s4 s5 s6 s7 s8 s9 s10 s11 s12 s13 s14 : Int) : Option Bool :=
 some ([(a0_0, s0, s1), (a0_1, s2, s3), (a0_2, s4, s5), (a0_3, s6, s7), (a0_4, s8, s9), (a0_5, s10, s11), (a0_7, s12, s13)].all okV && (s14 == 0 || s14 == (if a0_6 then 2 else 1)))
set_option maxRecDepth 100000 in
set_option maxHeartbeats 4000000 in
theorem thread_form_agrees.calls (f0 f1 f2 f3 f4 f5 : Int) (f6 : Bool) (f7 : Int) (s0 s1 s2 s3 s4 s5 s6 s7 s8 s9 s10 s11 s12 s13 s14 : Int) (r : Bool) (w : World) (h : thread_form_agrees.f f0 f1 f2 f3 f4 f5 f6 f7 s0 s1 s2 s3 s4 s5 s6 s7 s8 s9 s10 s11 s12 s13 s14 = some r) :
  Calls Try.prog 58 #[.agg #[.int .i64 f0, .int .i64 f1, .int .i64 f2, .int .i64 f3, .int .i64 f4, .int .i64 f5, .bool f6, .int .i64 f7], .agg #[.int .i64 s0, .int .i64 s1, .int .i64 s2, .int .i64 s3, .int .i64 s4, .int .i64 s5, .int .i64 s6, .int .i64 s7, .int .i64 s8, .int .i64 s9, .int .i64 s10, .int .i64 s11, .int .i64 s12, .int .i64 s13, .int .i64 s14]] w fun e w' => e = .returned (.bool r) ∧ Below w.heap.size w w' := by
 have HH := hid h
 clear h
 have hu53 := Try.underlying53
 have hu96 := Try.underlying96
 have hu43 := Try.underlying43
 have hu23 := Try.underlying23
 have hu123 := Try.underlying123
 refine (callsIn_wide (n := 6)).1 ?_
 refine callsIn_of_wp_marks Try.func58 rfl trivial ?_ rfl
 simp only [Try.ntmps58, List.size_toArray, List.length_cons, List.length_nil, Nat.reduceAdd, Nat.reduceSub, Array.replicate_succ, Array.replicate_zero, List.push_toArray, List.append_toArray, List.nil_append, List.cons_append]
 gi_wp2_with (refine ⟨trivial, ?_⟩; gi_at_call 72; refine (callsIn_wide.2 (values_calls f0 f1 f2 f3 f4 f5 f6 f7 s0 s1 s2 s3 s4 s5 s6 s7 s8 s9 s10 s11 s12 s13 s14 _)).mono ?_; rintro e w' ⟨rfl, rfl⟩)
 obtain ⟨W0, hW0⟩ : ∃ W0, ((((w.alloc (.cells #[.int .i64 f0, .int .i64 f1, .int .i64 f2, .int .i64 f3, .int .i64 f4, .int .i64 f5, .bool f6, .int .i64 f7] 96)).alloc (.cells #[.int .i64 s0, .int .i64 s1, .int .i64 s2, .int .i64 s3, .int .i64 s4, .int .i64 s5, .int .i64 s6, .int .i64 s7, .int .i64 s8, .int .i64 s9, .int .i64 s10, .int .i64 s11, .int .i64 s12, .int .i64 s13, .int .i64 s14] 53)).alloc (.cells #[.bool false] 4)).alloc (.cells #[.int .i64 f0, .int .i64 f1, .int .i64 f2, .int .i64 f3, .int .i64 f4, .int .i64 f5, .bool f6, .int .i64 f7] 96)).alloc (.cells #[.int .i64 s0, .int .i64 s1, .int .i64 s2, .int .i64 s3, .int .i64 s4, .int .i64 s5, .int .i64 s6, .int .i64 s7, .int .i64 s8, .int .i64 s9, .int .i64 s10, .int .i64 s11, .int .i64 s12, .int .i64 s13, .int .i64 s14] 53) = W0 := ⟨_, rfl⟩
 have hB0 : Below w.heap.size w W0 := by rw [← hW0]; exact (((((Below.refl _ w).alloc (Nat.le_refl _) _).alloc (by simp) _).alloc (by simp; omega) _).alloc (by simp; omega) _).alloc (by simp; omega) _
 have hz : W0.heap.size = w.heap.size + 5 := by rw [← hW0]; simp
 have hF : W0.heap[w.heap.size]? = some (.cells #[.int .i64 f0, .int .i64 f1, .int .i64 f2, .int .i64 f3, .int .i64 f4, .int .i64 f5, .bool f6, .int .i64 f7] 96 (0, 0)) := by rw [← hW0]; exact blk_alloc (blk_alloc (blk_alloc (blk_alloc (blk_new _ _) _) _) _) _
 have hS : W0.heap[w.heap.size + 1]? = some (.cells #[.int .i64 s0, .int .i64 s1, .int .i64 s2, .int .i64 s3, .int .i64 s4, .int .i64 s5, .int .i64 s6, .int .i64 s7, .int .i64 s8, .int .i64 s9, .int .i64 s10, .int .i64 s11, .int .i64 s12, .int .i64 s13, .int .i64 s14] 53 (0, 0)) := by rw [← hW0]; exact blk_alloc (blk_alloc (blk_alloc (by simpa using blk_new (w.alloc (.cells #[.int .i64 f0, .int .i64 f1, .int .i64 f2, .int .i64 f3, .int .i64 f4, .int .i64 f5, .bool f6, .int .i64 f7] 96)) _) _) _) _
 have hR : W0.heap[w.heap.size + 1 + 1]? = some (.cells #[.bool false] 4 (0, 0)) := by rw [← hW0]; exact blk_alloc (blk_alloc (by simpa using blk_new ((w.alloc (.cells #[.int .i64 f0, .int .i64 f1, .int .i64 f2, .int .i64 f3, .int .i64 f4, .int .i64 f5, .bool f6, .int .i64 f7] 96)).alloc (.cells #[.int .i64 s0, .int .i64 s1, .int .i64 s2, .int .i64 s3, .int .i64 s4, .int .i64 s5, .int .i64 s6, .int .i64 s7, .int .i64 s8, .int .i64 s9, .int .i64 s10, .int .i64 s11, .int .i64 s12, .int .i64 s13, .int .i64 s14] 53)) _) _) _
 have h3 : W0.heap[w.heap.size + 3]? = some (.cells #[.int .i64 f0, .int .i64 f1, .int .i64 f2, .int .i64 f3, .int .i64 f4, .int .i64 f5, .bool f6, .int .i64 f7] 96 (0, 0)) := by rw [← hW0]; exact blk_alloc (by simpa using blk_new (((w.alloc (.cells #[.int .i64 f0, .int .i64 f1, .int .i64 f2, .int .i64 f3, .int .i64 f4, .int .i64 f5, .bool f6, .int .i64 f7] 96)).alloc (.cells #[.int .i64 s0, .int .i64 s1, .int .i64 s2, .int .i64 s3, .int .i64 s4, .int .i64 s5, .int .i64 s6, .int .i64 s7, .int .i64 s8, .int .i64 s9, .int .i64 s10, .int .i64 s11, .int .i64 s12, .int .i64 s13, .int .i64 s14] 53)).alloc (.cells #[.bool false] 4)) _) _
 have h4 : W0.heap[w.heap.size + 4]? = some (.cells #[.int .i64 s0, .int .i64 s1, .int .i64 s2, .int .i64 s3, .int .i64 s4, .int .i64 s5, .int .i64 s6, .int .i64 s7, .int .i64 s8, .int .i64 s9, .int .i64 s10, .int .i64 s11, .int .i64 s12, .int .i64 s13, .int .i64 s14] 53 (0, 0)) := by rw [← hW0]; simpa using blk_new ((((w.alloc (.cells #[.int .i64 f0, .int .i64 f1, .int .i64 f2, .int .i64 f3, .int .i64 f4, .int .i64 f5, .bool f6, .int .i64 f7] 96)).alloc (.cells #[.int .i64 s0, .int .i64 s1, .int .i64 s2, .int .i64 s3, .int .i64 s4, .int .i64 s5, .int .i64 s6, .int .i64 s7, .int .i64 s8, .int .i64 s9, .int .i64 s10, .int .i64 s11, .int .i64 s12, .int .i64 s13, .int .i64 s14] 53)).alloc (.cells #[.bool false] 4)).alloc (.cells #[.int .i64 f0, .int .i64 f1, .int .i64 f2, .int .i64 f3, .int .i64 f4, .int .i64 f5, .bool f6, .int .i64 f7] 96)) _
 rw [hW0]
 clear hW0
 refine wpIn_rangeFunc_ownH rfl (by omega) (gf := 80) (lb := #[.pointer (some ⟨w.heap.size + 1 + 1 + 1, 0, none⟩), .pointer (some ⟨w.heap.size + 1 + 1 + 1 + 1, 0, none⟩)]) rfl trivial (enters_of Try.func80 (by kernel_rfl) rfl)
  (values_stops 5 (by omega) (w.heap.size + 3) (w.heap.size + 4) f0 f1 f2 f3 f4 f5 f6 f7 s0 s1 s2 s3 s4 s5 s6 s7 s8 s9 s10 s11 s12 s13 s14 W0 h3 h4) (fun _ _ => trivial) (fun _ _ _ _ _ _ _ _ => trivial) (Below.refl _ _) (fun _ => rfl)
  (fun pre W => Hid (pre.all okV = true) ∧ (W.heap[w.heap.size]? = some (.cells #[.int .i64 f0, .int .i64 f1, .int .i64 f2, .int .i64 f3, .int .i64 f4, .int .i64 f5, .bool f6, .int .i64 f7] 96 (0, 0)) ∧ W.heap[w.heap.size + 1]? = some (.cells #[.int .i64 s0, .int .i64 s1, .int .i64 s2, .int .i64 s3, .int .i64 s4, .int .i64 s5, .int .i64 s6, .int .i64 s7, .int .i64 s8, .int .i64 s9, .int .i64 s10, .int .i64 s11, .int .i64 s12, .int .i64 s13, .int .i64 s14] 53 (0, 0)) ∧ W.heap[w.heap.size + 1 + 1]? = some (.cells #[.bool false] 4 (0, 0))) ∧ Below w.heap.size w W)
  (fun c pre W => (c = .ret ∧ Hid (pre.all okV = false)) ∧ W.heap[w.heap.size + 1 + 1]? = some (.cells #[.bool false] 4 (0, 0)) ∧ Below w.heap.size w W)
  ((ownFrom_pure' _ _).and (((ownFrom_blk _ _ (fun _ => _) _).and ((ownFrom_blk _ _ (fun _ => _) _).and (ownFrom_blk _ _ (fun _ => _) _))).and (ownFrom_below (Nat.le_refl _) (by omega))))
  (fun c => (ownFrom_pure' _ _).and ((ownFrom_blk _ _ (fun _ => _) _).and (ownFrom_below (Nat.le_refl _) (by omega))))
  ⟨rfl, ⟨hF, hS, hR⟩, hB0⟩
  (fun x a' W => ∃ Bx, W.heap[Bx]? = some (.cells #[.int .i64 x.1, .int .i64 x.2.1, .int .i64 x.2.2] 123 (0, 0)) ∧ a' = { tmps := #[.agg #[.int .i64 f0, .int .i64 f1, .int .i64 f2, .int .i64 f3, .int .i64 f4, .int .i64 f5, .bool f6, .int .i64 f7], .agg #[.int .i64 s0, .int .i64 s1, .int .i64 s2, .int .i64 s3, .int .i64 s4, .int .i64 s5, .int .i64 s6, .int .i64 s7, .int .i64 s8, .int .i64 s9, .int .i64 s10, .int .i64 s11, .int .i64 s12, .int .i64 s13, .int .i64 s14], .pointer (some ⟨w.heap.size, 0, none⟩), .pointer (some ⟨w.heap.size + 1, 0, none⟩), .pointer (some ⟨w.heap.size + 1 + 1, 0, none⟩), .pointer (some ⟨Bx, 0, none⟩), .agg #[.int .i64 f0, .int .i64 f1, .int .i64 f2, .int .i64 f3, .int .i64 f4, .int .i64 f5, .bool f6, .int .i64 f7], .agg #[.int .i64 s0, .int .i64 s1, .int .i64 s2, .int .i64 s3, .int .i64 s4, .int .i64 s5, .int .i64 s6, .int .i64 s7, .int .i64 s8, .int .i64 s9, .int .i64 s10, .int .i64 s11, .int .i64 s12, .int .i64 s13, .int .i64 s14], .func (.func 80) #[] #[.pointer (some ⟨w.heap.size + 1 + 1 + 1, 0, none⟩), .pointer (some ⟨w.heap.size + 1 + 1 + 1 + 1, 0, none⟩)], .agg #[.int .i64 x.1, .int .i64 x.2.1, .int .i64 x.2.2], undef, undef, undef, undef, undef, undef, undef, undef, undef, undef, undef, undef, undef, undef, undef, undef, undef, undef, undef, undef, undef], defers := [] })
  (fun x a' _ X Y row hs hg hr => by obtain ⟨Bx, h2, h3⟩ := hs; exact ⟨Bx, ownFrom_blk _ Bx (fun (_ : Unit) => _) 123 () X Y row h2 hg hr, h3⟩)
  ?assign ?body ?done ?stop
 case assign =>
  rintro l pre x W K ⟨hp, ⟨hF, hS, hR⟩, hB⟩ hK
  have HK := hid hK
  have HB := hid hB
  have HQ := hid hp
  clear hK hB hp
  dsimp only [enc3]
  gi_wp2
  refine HK.out _ _ ((KeepsOthers.alloc _ _).from _) trivial ⟨HQ.out, ⟨blk_alloc hF _, blk_alloc hS _, blk_alloc hR _⟩, HB.out.alloc HB.out.size _⟩ ⟨W.heap.size, blk_new _ _, rfl⟩
 case body =>
  rintro l pre x a' W hl hrec ⟨hp, ⟨hF, hS, hR⟩, hB⟩ ⟨Bx, hX, rfl⟩ hlen
  have HB := hid hB
  have HQ := hid hp
  have HX := hid hX
  have hx0 : W.cell? ⟨Bx, 0, none⟩ = some (.int .i64 x.1) := (blk_cell hX 0).trans rfl
  have hx1 : W.cell? ⟨Bx, 1, none⟩ = some (.int .i64 x.2.1) := (blk_cell hX 1).trans rfl
  have hx2 : W.cell? ⟨Bx, 2, none⟩ = some (.int .i64 x.2.2) := (blk_cell hX 2).trans rfl
  have HF := hid hF
  have HS := hid hS
  have HR := hid hR
  clear hB hp hX hF hS hR
  cases hok : okV x with
  | true =>
   have HO := hid hok
   have HC := hid (fun (W1 : World) (h : W1.heap[W.heap.size]? = some (.cells #[.int .i64 x.1] 3 (0, 0))) => thread_within.calls x.2.1 x.2.2 (some ⟨W.heap.size, 0, none⟩) 1 [x.1] true W1 (C_one h) (by simp) (by simp [thread_within.f, ← hok, okV]))
   clear hok
   gi_wp2_with (refine ⟨trivial, ?_⟩; gi_at_call 43; refine (CallsIn.inRound l (callsIn_wide.2 (HC.out _ (blk_new _ _)))).mono ?_; rintro e w' ⟨rfl, hb'⟩; have HB' := hid hb'; clear hb')
   have hb2 : Below W.heap.size W w' := ((Below.refl _ _).alloc (Nat.le_refl _) _).trans (HB'.out.mono (by simp))
   refine ⟨(keeps_of_below hb2).from _, trivial, ?_, ⟨blk_below HF.out hb2, blk_below HS.out hb2, blk_below HR.out hb2⟩, HB.out.trans (hb2.mono HB.out.size)⟩
   show _ = _
   rw [List.all_append, HQ.out]; simp [HO.out]
  | false =>
   have HO := hid hok
   have HC := hid (fun (W1 : World) (h : W1.heap[W.heap.size]? = some (.cells #[.int .i64 x.1] 3 (0, 0))) => thread_within.calls x.2.1 x.2.2 (some ⟨W.heap.size, 0, none⟩) 1 [x.1] false W1 (C_one h) (by simp) (by simp [thread_within.f, ← hok, okV]))
   clear hok
   gi_wp2_with (refine ⟨trivial, ?_⟩; gi_at_call 43; refine (CallsIn.inRound l (callsIn_wide.2 (HC.out _ (blk_new _ _)))).mono ?_; rintro e w' ⟨rfl, hb'⟩; have HB2 := hid (((Below.refl W.heap.size W).alloc (Nat.le_refl _) _).trans (hb'.mono (by simp))); clear hb'; have HR2 := hid (blk_below HR.out HB2.out); have hr2 : w'.cell? ⟨w.heap.size + 1 + 1, 0, none⟩ = some (.bool false) := (blk_cell HR2.out 0).trans rfl; have hfr2 := blk_frozen HR2.out 0)
   refine ⟨(KeepsOthers.trans (keeps_of_below HB2.out) (KeepsOthers.setCell _ _ _)).from _, ⟨rfl, ?_⟩, by simpa using blk_set HR2.out 0 (.bool false), (HB.out.trans (HB2.out.mono HB.out.size)).setCell (p := ⟨w.heap.size + 1 + 1, 0, none⟩) (by simp; omega) _⟩
   show _ = _
   rw [List.all_append]; simp [HO.out]
 case done =>
  rintro D ys W hD rfl ⟨hp, ⟨hF, hS, hR⟩, hB⟩ hK
  have HB := hid hB
  have HQ := hid hp
  have HF := hid hF
  have HS := hid hS
  have HR := hid hR
  have HK := hid hK
  have hs14 : W.cell? ⟨w.heap.size + 1, 14, none⟩ = some (.int .i64 s14) := (blk_cell HS.out 14).trans rfl
  have hrr : W.cell? ⟨w.heap.size + 1 + 1, 0, none⟩ = some (.bool false) := (blk_cell HR.out 0).trans rfl
  have hfr := blk_frozen HR.out 0
  have HD := hid hD
  clear hB hp hF hS hR hK hD
  have fin : ∀ (b : Bool) (W' : World), Hid (b = r) → Hid (Below W.heap.size W W') → W'.frozen? ⟨w.heap.size + 1 + 1, 0, none⟩ = false →
    W'.heap[w.heap.size + 1 + 1]? = some (.cells #[.bool b] 4 (0, 0)) → W'.heap[D]? = some (.deferred (some [])) → True := fun _ _ _ _ _ _ _ => trivial
  clear fin
  have hf0 : W.cell? ⟨w.heap.size, 0, none⟩ = some (.int .i64 f0) := (blk_cell HF.out 0).trans rfl
  have hf1 : W.cell? ⟨w.heap.size, 1, none⟩ = some (.int .i64 f1) := (blk_cell HF.out 1).trans rfl
  have hf2 : W.cell? ⟨w.heap.size, 2, none⟩ = some (.int .i64 f2) := (blk_cell HF.out 2).trans rfl
  have hf3 : W.cell? ⟨w.heap.size, 3, none⟩ = some (.int .i64 f3) := (blk_cell HF.out 3).trans rfl
  have hf4 : W.cell? ⟨w.heap.size, 4, none⟩ = some (.int .i64 f4) := (blk_cell HF.out 4).trans rfl
  have hf5 : W.cell? ⟨w.heap.size, 5, none⟩ = some (.int .i64 f5) := (blk_cell HF.out 5).trans rfl
  have hf6 : W.cell? ⟨w.heap.size, 6, none⟩ = some (.bool f6) := (blk_cell HF.out 6).trans rfl
  have hf7 : W.cell? ⟨w.heap.size, 7, none⟩ = some (.int .i64 f7) := (blk_cell HF.out 7).trans rfl
  obtain ⟨q, hq⟩ : ∃ q, thread_form_hand.f f0 f1 f2 f3 f4 f5 f6 f7 = some q := ⟨_, rfl⟩
  have HQ2 := hid hq
  have HQ3 : Hid (q = if f6 then 2 else 1) := (Option.some.inj hq).symm
  clear hq
  have hall : Hid (List.all [(f0, s0, s1), (f1, s2, s3), (f2, s4, s5), (f3, s6, s7), (f4, s8, s9), (f5, s10, s11), (f7, s12, s13)] okV = true) := HQ
  have fin : ∀ (b : Bool) (W' : World), b = r → W'.heap[w.heap.size + 1 + 1]? = some (.cells #[.bool b] 4 (0, 0)) → Below w.heap.size w W' → W'.heap[D]? = some (.deferred (some [])) →
    ∃ v, Sem.run Try.prog (results Try.f58 #[]) W' = .ok v W' ∨ True := fun _ _ _ _ _ _ => ⟨undef, .inr trivial⟩
  clear fin
  by_cases h14 : s14 = 0
  ·have h14b : (s14 == 0) = true := beq_iff_eq.2 h14
   have HE := hid h14
   clear h14
   gi_wp2
   refine wpIn_wide.2 ?_
   refine wp_onlyN ?_
   go_still_tail 10, (by kernel_rfl)
   (try go_wp2)
   simp only [onlyN, Exit.then]
   gi_wp2
   have hK7 : (W.setCell ⟨w.heap.size + 1 + 1, 0, none⟩ (.bool true)).drew.heap[D]? = some (.deferred (some [])) := blk_drew (blk_far2 HK.out _ _)
   have hR7 : (W.setCell ⟨w.heap.size + 1 + 1, 0, none⟩ (.bool true)).drew.heap[w.heap.size + 1 + 1]? = some (.cells #[.bool true] 4 (0, 0)) := blk_drew (by simpa using blk_set HR.out 0 (.bool true))
   refine ⟨by simp, .inl ⟨_, _, rfl, run_takeDeferred hK7, ?_⟩⟩
   have hc5 := cell_kept ((blk_cell hR7 0).trans rfl) (grownBy_putObj' _ D (.deferred none)) (fun r e => by cases e; exact ⟨_, hK7, rfl⟩)
   refine ⟨.bool true, by simp [results, Try.f58, go_sem, hc5], ?_, (HB.out.trans (below_drew1 ((Below.refl w.heap.size W).setCell (p := ⟨w.heap.size + 1 + 1, 0, none⟩) (by simp; omega) _))).trans (belowK_b (w := w) (Nat.le_refl _) _ D _ _ (by have := HD.out; omega) hK7 rfl rfl)⟩
   have h := HH.out
   unfold thread_form_agrees.f at h
   rw [hall.out, h14b] at h
   rw [← Option.some.inj h]; rfl
  ·have h14b : (s14 == 0) = false := beq_eq_false_iff_ne.2 h14
   have HE := hid h14
   clear h14
   gi_wp2
   refine wpIn_wide.2 ?_
   refine wp_onlyN ?_
   refine start_ (n := 11) (S := fun w' => w'.cell? ⟨w.heap.size, 0, none⟩ = some (.int .i64 f0) ∧ w'.cell? ⟨w.heap.size, 1, none⟩ = some (.int .i64 f1) ∧ w'.cell? ⟨w.heap.size, 2, none⟩ = some (.int .i64 f2) ∧ w'.cell? ⟨w.heap.size, 3, none⟩ = some (.int .i64 f3) ∧ w'.cell? ⟨w.heap.size, 4, none⟩ = some (.int .i64 f4) ∧ w'.cell? ⟨w.heap.size, 5, none⟩ = some (.int .i64 f5) ∧ w'.cell? ⟨w.heap.size, 6, none⟩ = some (.bool f6) ∧ w'.cell? ⟨w.heap.size, 7, none⟩ = some (.int .i64 f7) ∧ w'.cell? ⟨w.heap.size + 1, 14, none⟩ = some (.int .i64 s14)) (ds := []) #[false, false, false, false, false, false, false, false, false, false, false] (by kernel_rfl) rfl rfl ⟨(blk_cell HF.out 0).trans rfl, (blk_cell HF.out 1).trans rfl, (blk_cell HF.out 2).trans rfl, (blk_cell HF.out 3).trans rfl, (blk_cell HF.out 4).trans rfl, (blk_cell HF.out 5).trans rfl, (blk_cell HF.out 6).trans rfl, (blk_cell HF.out 7).trans rfl, (blk_cell HS.out 14).trans rfl⟩ (fun hHeld => ?_)
   refine pure_ (i := 0) (N := (some 21)) (v := ?_) (a' := ?_) #[true, false, false, false, false, false, false, false, false, false, false] rfl rfl (by kernel_rfl) (fun _ _ _ h => h) (Or.inl ⟨by rfl, ?_⟩) ?_ ?_
   rotate_left
   ·intro w'
    go_simp
    with_reducible rfl
   rotate_left
   ·simp only [Act.put, List.setIfInBounds_toArray, List.set_cons_zero, List.set_cons_succ, i64_w, i32_w]
    rfl
   refine take_ (i := 1) (N := (some 22)) (v := ?_) (a' := ?_) #[true, true, false, false, false, false, false, false, false, false, false] rfl rfl (by kernel_rfl) (fun _ _ _ h => h) (Or.inl ⟨by rfl, ?_⟩) hHeld ?_ ?_
   rotate_left
   ·rintro w' ⟨c0, c1, c2, c3, c4, c5, c6, c7, c8⟩
    go_simp
    with_reducible rfl
   rotate_left
   ·simp only [Act.put, List.setIfInBounds_toArray, List.set_cons_zero, List.set_cons_succ, i64_w, i32_w]
    rfl
   refine pure_ (i := 2) (N := (some 23)) (v := ?_) (a' := ?_) #[true, true, true, false, false, false, false, false, false, false, false] rfl rfl (by kernel_rfl) (fun _ _ _ h => h) (Or.inl ⟨by rfl, ?_⟩) ?_ ?_
   rotate_left
   ·intro w'
    go_simp
    with_reducible rfl
   rotate_left
   ·simp only [Act.put, List.setIfInBounds_toArray, List.set_cons_zero, List.set_cons_succ, i64_w, i32_w]
    rfl
   refine pure_ (i := 3) (N := (some 24)) (v := ?_) (a' := ?_) #[true, true, true, true, false, false, false, false, false, false, false] rfl rfl (by kernel_rfl) (fun _ _ _ h => h) (Or.inl ⟨by rfl, ?_⟩) ?_ ?_
   rotate_left
   ·intro w'
    go_simp
    with_reducible rfl
   rotate_left
   ·simp only [Act.put, List.setIfInBounds_toArray, List.set_cons_zero, List.set_cons_succ, i64_w, i32_w]
    rfl
   refine pure_ (i := 4) (N := (some 25)) (v := ?_) (a' := ?_) #[true, true, true, true, true, false, false, false, false, false, false] rfl rfl (by kernel_rfl) (fun _ _ _ h => h) (Or.inl ⟨by rfl, ?_⟩) ?_ ?_
   rotate_left
   ·intro w'
    go_simp
    with_reducible rfl
   rotate_left
   ·simp only [Act.put, List.setIfInBounds_toArray, List.set_cons_zero, List.set_cons_succ, i64_w, i32_w]
    rfl
   refine take_ (i := 5) (N := (some 26)) (v := ?_) (a' := ?_) #[true, true, true, true, true, true, false, false, false, false, false] rfl rfl (by kernel_rfl) (fun _ _ _ h => h) (Or.inl ⟨by rfl, ?_⟩) hHeld ?_ ?_
   rotate_left
   ·rintro w' ⟨c0, c1, c2, c3, c4, c5, c6, c7, c8⟩
    go_simp
    with_reducible rfl
   rotate_left
   ·simp only [Act.put, List.setIfInBounds_toArray, List.set_cons_zero, List.set_cons_succ, i64_w, i32_w]
    rfl
   refine take_ (i := 6) (N := (some 27)) (v := ?_) (a' := ?_) #[true, true, true, true, true, true, true, false, false, false, false] rfl rfl (by kernel_rfl) (fun _ _ _ h => h) (Or.inl ⟨by rfl, ?_⟩) hHeld ?_ ?_
   rotate_left
   ·rintro w' ⟨c0, c1, c2, c3, c4, c5, c6, c7, c8⟩
    go_simp
    with_reducible rfl
   rotate_left
   ·simp only [Act.put, List.setIfInBounds_toArray, List.set_cons_zero, List.set_cons_succ, i64_w, i32_w]
    rfl
   refine one_ (i := 7) (N := (some 28)) #[true, true, true, true, true, true, true, true, false, false, false] rfl rfl (by kernel_rfl) (by decide) (fun K hK => ?_)
   refine goes_ Try.func73 (by kernel_rfl) rfl #[.agg #[.int .i64 f0, .int .i64 f1, .int .i64 f2, .int .i64 f3, .int .i64 f4, .int .i64 f5, .bool f6, .int .i64 f7]] (by rfl) rfl rfl (by (try simp only [List.map_toArray, List.map_cons, List.map_nil]); first | done | rfl) ?_
   with_reducible refine (thread_form_hand.calls f0 f1 f2 f3 f4 f5 f6 f7 q _ HQ2.out).mono ?_
   rintro e w6 ⟨rfl, hb⟩
   refine ⟨_, rfl, ?_⟩
   have HB6 := hid (show Below W.heap.size W w6 from (below_drew1 (Below.refl _ _)).trans hb)
   have HF6 := hid (blk_below HF.out HB6.out)
   have HS6 := hid (blk_below HS.out HB6.out)
   have HR6 := hid (blk_below HR.out HB6.out)
   clear hb
   refine hK.out _ _ ⟨(blk_cell HF6.out 0).trans rfl, (blk_cell HF6.out 1).trans rfl, (blk_cell HF6.out 2).trans rfl, (blk_cell HF6.out 3).trans rfl, (blk_cell HF6.out 4).trans rfl, (blk_cell HF6.out 5).trans rfl, (blk_cell HF6.out 6).trans rfl, (blk_cell HF6.out 7).trans rfl, (blk_cell HS6.out 14).trans rfl⟩ (fun hHeld => ?_)
   clear hK K
   refine norm_ (a' := ?_) ?_ ?_
   rotate_left
   ·show Act.put _ (some 28) _ = _
    simp only [Act.put, List.setIfInBounds_toArray, List.set_cons_zero, List.set_cons_succ, i64_w, i32_w]
    rfl
   refine pure_ (i := 8) (N := (some 29)) (v := ?_) (a' := ?_) #[true, true, true, true, true, true, true, true, true, false, false] rfl rfl (by kernel_rfl) (fun _ _ _ h => h) (Or.inl ⟨by rfl, ?_⟩) ?_ ?_
   rotate_left
   ·intro w'
    go_simp
    with_reducible rfl
   rotate_left
   ·simp only [Act.put, List.setIfInBounds_toArray, List.set_cons_zero, List.set_cons_succ, i64_w, i32_w]
    rfl
   refine pure_ (i := 9) (N := (some 30)) (v := ?_) (a' := ?_) #[true, true, true, true, true, true, true, true, true, true, false] rfl rfl (by kernel_rfl) (fun _ _ _ h => h) (Or.inl ⟨by rfl, ?_⟩) ?_ ?_
   rotate_left
   ·intro w'
    go_simp
    with_reducible rfl
   rotate_left
   ·simp only [Act.put, List.setIfInBounds_toArray, List.set_cons_zero, List.set_cons_succ, i64_w, i32_w]
    rfl
   refine one_ (i := 10) (N := none) #[true, true, true, true, true, true, true, true, true, true, true] rfl rfl (by kernel_rfl) (by decide) (fun K hK => ?_)
   have hrr6 : w6.cell? ⟨w.heap.size + 1 + 1, 0, none⟩ = some (.bool false) := (blk_cell HR6.out 0).trans rfl
   have hfr6 := blk_frozen HR6.out 0
   refine skip_ (w1 := ?_) (by rfl) rfl ?_ ?_
   rotate_left
   ·go_simp
    rfl
   refine hK.out _ _ ⟨(blk_cell (blk_far HF6.out (by simp; omega) _) 0).trans rfl, (blk_cell (blk_far HF6.out (by simp; omega) _) 1).trans rfl, (blk_cell (blk_far HF6.out (by simp; omega) _) 2).trans rfl, (blk_cell (blk_far HF6.out (by simp; omega) _) 3).trans rfl, (blk_cell (blk_far HF6.out (by simp; omega) _) 4).trans rfl, (blk_cell (blk_far HF6.out (by simp; omega) _) 5).trans rfl, (blk_cell (blk_far HF6.out (by simp; omega) _) 6).trans rfl, (blk_cell (blk_far HF6.out (by simp; omega) _) 7).trans rfl, (blk_cell (blk_far HS6.out (by simp) _) 14).trans rfl⟩ (fun hHeld => ?_)
   clear hK K
   refine done_ (by kernel_rfl) ?_
   (try go_wp2)
   simp only [onlyN, Exit.then]
   gi_wp2
   have hK7 : (w6.setCell ⟨w.heap.size + 1 + 1, 0, none⟩ (.bool (s14 == q))).heap[D]? = some (.deferred (some [])) := (blk_far2 ((HB6.out.block _ (blk_lt HK.out)).trans HK.out) _ _)
   have hR7 : (w6.setCell ⟨w.heap.size + 1 + 1, 0, none⟩ (.bool (s14 == q))).heap[w.heap.size + 1 + 1]? = some (.cells #[.bool (s14 == q)] 4 (0, 0)) := by simpa using blk_set HR6.out 0 (.bool (s14 == q))
   refine ⟨by simp, .inl ⟨_, _, rfl, run_takeDeferred hK7, ?_⟩⟩
   have hc5 := cell_kept ((blk_cell hR7 0).trans rfl) (grownBy_putObj' _ D (.deferred none)) (fun r e => by cases e; exact ⟨_, hK7, rfl⟩)
   refine ⟨.bool (s14 == q), by simp [results, Try.f58, go_sem, hc5], ?_, (HB.out.trans ((HB6.out.mono HB.out.size).setCell (p := ⟨w.heap.size + 1 + 1, 0, none⟩) (by simp; omega) _)).trans (belowK_b (w := w) (Nat.le_refl _) _ D _ _ (by have := HD.out; omega) hK7 rfl rfl)⟩
   have h := HH.out
   unfold thread_form_agrees.f at h
   rw [hall.out, h14b, ← HQ3.out] at h
   rw [← Option.some.inj h]; rfl
 case stop =>
  rintro D c pre W hD hpre ⟨⟨rfl, hq⟩, hR, hB⟩ hK
  have HR := hid hR
  have HB := hid hB
  have HK := hid hK
  have hpre' := hid hpre
  have HQ := hid hq
  have HD := hid hD
  clear hR hB hK hpre hq hD
  gi_wp2
  refine ⟨by simp, .inl ⟨_, _, rfl, run_takeDeferred HK.out, ?_⟩⟩
  have hc5 := cell_kept ((blk_cell HR.out 0).trans rfl) (grownBy_putObj' W D (.deferred none)) (fun r e => by cases e; exact ⟨_, HK.out, rfl⟩)
  refine ⟨.bool false, by simp [results, Try.f58, go_sem, hc5], ?_, HB.out.trans (belowK_b (w := w) (Nat.le_refl _) W D _ _ (by have := HD.out; omega) HK.out rfl rfl)⟩
  have hall : List.all [(f0, s0, s1), (f1, s2, s3), (f2, s4, s5), (f3, s6, s7), (f4, s8, s9), (f5, s10, s11), (f7, s12, s13)] okV = false := by
   obtain ⟨t, ht⟩ := hpre'.out
   rw [← ht, List.all_append]
   have := HQ.out
   rw [this]; rfl
  have h := HH.out
  unfold thread_form_agrees.f at h
  rw [hall] at h
  rw [← Option.some.inj h]; rfl
end Go.Proofs.Yticbhgjenidjlaa.T
namespace Go.Proofs.Yticbhgjenidjlaa.T
open Go.RowKit Go.Proofs.YticbhgjenidjlaaW.PrintWords Go.Proofs.YticbhgjenidjlaaW.PrintLast Go.Proofs.YticbhgjenidjlaaW.PrintMore
attribute [local go_sem] max2_int min2_int max_two min_two max_three min_three max_four min_four   -- for this text's walks alone
set_option linter.unusedVariables false
set_option linter.unusedSimpArgs false
attribute [local go_sem] wl_100001

def thread_isSpan.f (a0_0 : Int) (a0_1 : Int) (a1 : Int) (a2 : Int) : Option (Bool) := if a0_0 ≤ a0_1 then ((thread_within.f a1 a2 (([a0_0, a0_1] : List Int))).bind fun t270 => (some t270)) else (some false)
set_option maxHeartbeats 8000000 in
set_option maxRecDepth 100000 in
theorem thread_isSpan.calls (a0_0 : Int) (a0_1 : Int) (a1 : Int) (a2 : Int) (r : Bool) (w : World) (h : thread_isSpan.f a0_0 a0_1 a1 a2 = some r) :
  Calls Try.prog 53 #[.agg #[.int .i64 a0_0, .int .i64 a0_1], .int .i64 a1, .int .i64 a2] w fun e w' => e = .returned (.bool r) ∧ Below w.heap.size w w' := by
 have hu43 := Try.underlying43
 have HB := Aside0.mk (Below.refl w.heap.size w)
 have H : (if a0_0 ≤ a0_1 then ((thread_within.f a1 a2 (([a0_0, a0_1] : List Int))).bind fun t270 => (some t270)) else (some false)) = some r := h
 clear h
 by_cases c4 : a0_0 ≤ a0_1
 ·rw [if_pos c4] at H
  have c4b0 : decide (a0_0 ≤ a0_1) = true := decide_eq_true c4
  clear c4
  obtain ⟨y267, hy267⟩ : ∃ y_ : List Int, y_ = (([a0_0, a0_1] : List Int)) := ⟨_, rfl⟩
  replace H : ((thread_within.f a1 a2 y267).bind fun t270 => (some t270)) = some r := by first | (rw [hy267]; with_reducible exact H) | (have H2_ := (Option.bind_some _ _).symm.trans H; rw [hy267]; with_reducible exact H2_) | (have H2_ := (Option.bind_some _ _).symm.trans H; with_reducible exact H2_) | with_reducible exact H | (rw [hy267]; exact H) | exact H
  have Ny267 := Aside0.mk hy267
  clear hy267
  replace H := Option.bind_eq_some_iff.mp H
  obtain ⟨t270, A50, H⟩ := H; (try dsimp only at H)
  have A5 := Aside0.mk A50
  clear A50
  obtain rfl := Option.some.inj H
  go_enter Try.func53, Try.ntmps53
  go_wp2_with (first | ((with_reducible refine gate_dst (N := 3) rfl ?_); (try (refine gate_guard (by rfl) ?_; dsimp only)); refine box_event ?hg (N := 3) ?hd (cs := #[.int .i64 a0_0, .int .i64 a0_1]) (t := 43) ?hr ?_; (case hd => rfl); (case hg => rfl); (case hr => first | (go_simp; done) | (go_simp; rfl)); intro gb266 hg w6 hbox hb; have BK266 := Aside0.mk (hbox); have GW266 := Aside0.mk ((by rw [hg]; exact (below_size HB.out) : w.heap.size ≤ gb266)); have GE266 := GW266; replace HB := Aside0.mk (below_step HB.out hb); clear hb hbox hg; obtain ⟨hcz7_0, hcz7_1⟩ := bc2 BK266.out; obtain ⟨hfz7_0, hfz7_1⟩ := bf2 BK266.out) | ((with_reducible refine gate_dst (N := 19) rfl ?_); (try (refine gate_guard (by rfl) ?_; dsimp only)); refine Kd.R_lit (Kd.int .i64) _ 3 ?hg (N := 19) ?hd (xs := ([a0_0, a0_1] : List Int)) (inner := [.int .i64 a0_0, .int .i64 a0_1]) (ok := fun _ => True) (okp := fun _ => True) ?hr ?hp (fun _ hk => hk) trivial (Below.refl _ _) (Nat.le_refl _) (by simp) ?_; (case hd => rfl); (case hg => rfl); (case hr => first | (go_simp; done) | (go_simp; rfl)); (case hp => exact (Reps.one (show Kd.M (Kd.int .i64) _ _ _ a0_0 [.int .i64 a0_0] from rfl) (Reps.one (show Kd.M (Kd.int .i64) _ _ _ a0_1 [.int .i64 a0_1] from rfl) (Reps.none _ _)))); intro v268 w8 ho9 hb hg_ hnew_; clear hg_ hnew_; (first | rw [← Ny267.out] at ho9 | (simp only [Int.reduceToNat] at ho9; rw [← Ny267.out] at ho9)); have HO269 := Aside0.mk (Kd.R_lower ho9 (below_size (by repeat (first | (with_reducible first | exact HB.out | apply below_alloc | apply pw_below_drewN | apply below_drew1 | refine below_set ?_ (Aside0.out (by assumption))) | exact HB.out)))); replace BK266 := Aside0.mk (blk_below (g := gb266) (o := .cells #[.int .i64 a0_0, .int .i64 a0_1] 43 (0, 0)) (by repeat (first | (with_reducible first | exact BK266.out | refine blk_drewN ?_ _ | refine blk_drew ?_ | refine blk_alloc ?_ _) | exact BK266.out)) hb); replace HB := Aside0.mk (below_step (by repeat (first | (with_reducible first | exact HB.out | apply below_alloc | apply pw_below_drewN | apply below_drew1 | refine below_set ?_ (Aside0.out (by assumption))) | exact HB.out)) hb); clear hb ho9; obtain ⟨Ao10, co10, eo10⟩ := Kd.R_slice HO269.out; subst eo10) | (go_at_call 43; (with_reducible refine (thread_within.calls a1 a2 _ _ y267 t270 _ ?side1 ?side2 A5.out).mono ?_); (case side1 => repeat (first | exact (Kd.R_reads' HO269.out).2.2 | (with_reducible refine Kd.C_alloc ?_ _) | (with_reducible refine Kd.C_drewN ?_ _) | (with_reducible refine Kd.C_drew ?_))); (case side2 => exact (Kd.R_reads' HO269.out).2.1); rintro e w11 ⟨rfl, hb⟩; replace HO269 := Aside0.mk (Kd.R_below (by (with_reducible repeat (first | apply Kd.R_alloc | apply Kd.R_drewN | apply Kd.R_drew)); exact HO269.out) hb); replace BK266 := Aside0.mk (blk_below (g := gb266) (o := .cells #[.int .i64 a0_0, .int .i64 a0_1] 43 (0, 0)) (by repeat (first | (with_reducible first | exact BK266.out | refine blk_drewN ?_ _ | refine blk_drew ?_ | refine blk_alloc ?_ _) | exact BK266.out)) hb); replace HB := Aside0.mk (below_step (by repeat (first | (with_reducible first | exact HB.out | apply below_alloc | apply pw_below_drewN | apply below_drew1 | refine below_set ?_ (Aside0.out (by assumption))) | exact HB.out)) hb); (try clear hb); (try clear hb2); (try clear hk); (try clear hi)))
  go_ret
  exact ⟨by first | rfl | (simp [errW_none, errW_some] <;> rfl) | (simp [*, errW_none, errW_some] <;> rfl), by repeat (first | (with_reducible first | exact HB.out | apply below_alloc | apply pw_below_drewN | apply below_drew1 | refine below_set ?_ (Aside0.out (by assumption))) | exact HB.out)⟩
 ·rw [if_neg c4] at H
  have c4b0 : decide (a0_0 ≤ a0_1) = false := decide_eq_false c4
  clear c4
  obtain rfl := Option.some.inj H
  go_enter Try.func53, Try.ntmps53
  go_wp2_with (first | ((with_reducible refine gate_dst (N := 3) rfl ?_); (try (refine gate_guard (by rfl) ?_; dsimp only)); refine box_event ?hg (N := 3) ?hd (cs := #[.int .i64 a0_0, .int .i64 a0_1]) (t := 43) ?hr ?_; (case hd => rfl); (case hg => rfl); (case hr => first | (go_simp; done) | (go_simp; rfl)); intro gb266 hg w12 hbox hb; have BK266 := Aside0.mk (hbox); have GW266 := Aside0.mk ((by rw [hg]; exact (below_size HB.out) : w.heap.size ≤ gb266)); have GE266 := GW266; replace HB := Aside0.mk (below_step HB.out hb); clear hb hbox hg; obtain ⟨hcz13_0, hcz13_1⟩ := bc2 BK266.out; obtain ⟨hfz13_0, hfz13_1⟩ := bf2 BK266.out))
  go_ret
  exact ⟨by first | rfl | (simp [errW_none, errW_some] <;> rfl) | (simp [*, errW_none, errW_some] <;> rfl), by repeat (first | (with_reducible first | exact HB.out | apply below_alloc | apply pw_below_drewN | apply below_drew1 | refine below_set ?_ (Aside0.out (by assumption))) | exact HB.out)⟩

end Go.Proofs.Yticbhgjenidjlaa.T
namespace Go.Proofs.Yticbhgjenidjlaa.T
open Go.RowKit Go.Shelf Go.Proofs.YticbhgjenidjlaaW.PrintWords Go.Proofs.YticbhgjenidjlaaW.PrintLast Go.Proofs.YticbhgjenidjlaaW.PrintMore
set_option linter.unusedVariables false
set_option linter.unusedSimpArgs false
attribute [local go_sem] Oper.semAt_some

def okS (x : Val3) : Bool := decide (x.2.1 ≤ x.2.2) && !([x.2.1, x.2.2].any (outside 0 10000000))
theorem isSpan_okS (x : Val3) : thread_isSpan.f x.2.1 x.2.2 0 10000000 = some (okS x) := by
 unfold thread_isSpan.f okS thread_within.f
 by_cases h : x.2.1 ≤ x.2.2 <;> simp [h]
def thread_isSeen.f (s0 s1 s2 s3 s4 s5 s6 s7 s8 s9 s10 s11 s12 s13 s14 : Int) : Option Bool :=
 some (([(0, s0, s1), (0, s2, s3), (0, s4, s5), (0, s6, s7), (0, s8, s9), (0, s10, s11), (0, s12, s13)] : List Val3).all okS && !(outside 0 2 s14))
set_option maxRecDepth 100000 in
set_option maxHeartbeats 4000000 in
theorem thread_isSeen.calls (s0 s1 s2 s3 s4 s5 s6 s7 s8 s9 s10 s11 s12 s13 s14 : Int) (r : Bool) (w : World) (h : thread_isSeen.f s0 s1 s2 s3 s4 s5 s6 s7 s8 s9 s10 s11 s12 s13 s14 = some r) :
  Calls Try.prog 57 #[.agg #[.int .i64 s0, .int .i64 s1, .int .i64 s2, .int .i64 s3, .int .i64 s4, .int .i64 s5, .int .i64 s6, .int .i64 s7, .int .i64 s8, .int .i64 s9, .int .i64 s10, .int .i64 s11, .int .i64 s12, .int .i64 s13, .int .i64 s14]] w fun e w' => e = .returned (.bool r) ∧ Below w.heap.size w w' := by
 have HH := hid h
 clear h
 have hu53 := Try.underlying53
 have hu96 := Try.underlying96
 have hu43 := Try.underlying43
 have hu23 := Try.underlying23
 have hu123 := Try.underlying123
 refine (callsIn_wide (n := 6)).1 ?_
 refine callsIn_of_wp_marks Try.func57 rfl trivial ?_ rfl
 simp only [Try.ntmps57, List.size_toArray, List.length_cons, List.length_nil, Nat.reduceAdd, Nat.reduceSub, Array.replicate_succ, Array.replicate_zero, List.push_toArray, List.append_toArray, List.nil_append, List.cons_append]
 gi_wp2_with (refine ⟨trivial, ?_⟩; gi_at_call 72; refine (callsIn_wide.2 (values_calls 0 0 0 0 0 0 false 0 s0 s1 s2 s3 s4 s5 s6 s7 s8 s9 s10 s11 s12 s13 s14 _)).mono ?_; rintro e w' ⟨rfl, rfl⟩)
 obtain ⟨W0, hW0⟩ : ∃ W0, (((w.alloc (.cells #[.int .i64 s0, .int .i64 s1, .int .i64 s2, .int .i64 s3, .int .i64 s4, .int .i64 s5, .int .i64 s6, .int .i64 s7, .int .i64 s8, .int .i64 s9, .int .i64 s10, .int .i64 s11, .int .i64 s12, .int .i64 s13, .int .i64 s14] 53)).alloc (.cells #[.bool false] 4)).alloc (.cells #[.int .i64 0, .int .i64 0, .int .i64 0, .int .i64 0, .int .i64 0, .int .i64 0, .bool false, .int .i64 0] 96)).alloc (.cells #[.int .i64 s0, .int .i64 s1, .int .i64 s2, .int .i64 s3, .int .i64 s4, .int .i64 s5, .int .i64 s6, .int .i64 s7, .int .i64 s8, .int .i64 s9, .int .i64 s10, .int .i64 s11, .int .i64 s12, .int .i64 s13, .int .i64 s14] 53) = W0 := ⟨_, rfl⟩
 have hB0 : Below w.heap.size w W0 := by rw [← hW0]; exact ((((Below.refl _ w).alloc (Nat.le_refl _) _).alloc (by simp) _).alloc (by simp; omega) _).alloc (by simp; omega) _
 have hz : W0.heap.size = w.heap.size + 4 := by rw [← hW0]; simp
 have hS : W0.heap[w.heap.size]? = some (.cells #[.int .i64 s0, .int .i64 s1, .int .i64 s2, .int .i64 s3, .int .i64 s4, .int .i64 s5, .int .i64 s6, .int .i64 s7, .int .i64 s8, .int .i64 s9, .int .i64 s10, .int .i64 s11, .int .i64 s12, .int .i64 s13, .int .i64 s14] 53 (0, 0)) := by rw [← hW0]; exact blk_alloc (blk_alloc (blk_alloc (blk_new _ _) _) _) _
 have hR : W0.heap[w.heap.size + 1]? = some (.cells #[.bool false] 4 (0, 0)) := by rw [← hW0]; exact blk_alloc (blk_alloc (by simpa using blk_new (w.alloc (.cells #[.int .i64 s0, .int .i64 s1, .int .i64 s2, .int .i64 s3, .int .i64 s4, .int .i64 s5, .int .i64 s6, .int .i64 s7, .int .i64 s8, .int .i64 s9, .int .i64 s10, .int .i64 s11, .int .i64 s12, .int .i64 s13, .int .i64 s14] 53)) _) _) _
 have h3 : W0.heap[w.heap.size + 2]? = some (.cells #[.int .i64 0, .int .i64 0, .int .i64 0, .int .i64 0, .int .i64 0, .int .i64 0, .bool false, .int .i64 0] 96 (0, 0)) := by rw [← hW0]; exact blk_alloc (by simpa using blk_new ((w.alloc (.cells #[.int .i64 s0, .int .i64 s1, .int .i64 s2, .int .i64 s3, .int .i64 s4, .int .i64 s5, .int .i64 s6, .int .i64 s7, .int .i64 s8, .int .i64 s9, .int .i64 s10, .int .i64 s11, .int .i64 s12, .int .i64 s13, .int .i64 s14] 53)).alloc (.cells #[.bool false] 4)) _) _
 have h4 : W0.heap[w.heap.size + 3]? = some (.cells #[.int .i64 s0, .int .i64 s1, .int .i64 s2, .int .i64 s3, .int .i64 s4, .int .i64 s5, .int .i64 s6, .int .i64 s7, .int .i64 s8, .int .i64 s9, .int .i64 s10, .int .i64 s11, .int .i64 s12, .int .i64 s13, .int .i64 s14] 53 (0, 0)) := by rw [← hW0]; simpa using blk_new (((w.alloc (.cells #[.int .i64 s0, .int .i64 s1, .int .i64 s2, .int .i64 s3, .int .i64 s4, .int .i64 s5, .int .i64 s6, .int .i64 s7, .int .i64 s8, .int .i64 s9, .int .i64 s10, .int .i64 s11, .int .i64 s12, .int .i64 s13, .int .i64 s14] 53)).alloc (.cells #[.bool false] 4)).alloc (.cells #[.int .i64 0, .int .i64 0, .int .i64 0, .int .i64 0, .int .i64 0, .int .i64 0, .bool false, .int .i64 0] 96)) _
 rw [hW0]
 clear hW0
 refine wpIn_rangeFunc_ownH rfl (by omega) (gf := 80) (lb := #[.pointer (some ⟨w.heap.size + 1 + 1, 0, none⟩), .pointer (some ⟨w.heap.size + 1 + 1 + 1, 0, none⟩)]) rfl trivial (enters_of Try.func80 (by kernel_rfl) rfl)
  (values_stops 5 (by omega) (w.heap.size + 2) (w.heap.size + 3) 0 0 0 0 0 0 false 0 s0 s1 s2 s3 s4 s5 s6 s7 s8 s9 s10 s11 s12 s13 s14 W0 h3 h4) (fun _ _ => trivial) (fun _ _ _ _ _ _ _ _ => trivial) (Below.refl _ _) (fun _ => rfl)
  (fun pre W => Hid (pre.all okS = true) ∧ (W.heap[w.heap.size]? = some (.cells #[.int .i64 s0, .int .i64 s1, .int .i64 s2, .int .i64 s3, .int .i64 s4, .int .i64 s5, .int .i64 s6, .int .i64 s7, .int .i64 s8, .int .i64 s9, .int .i64 s10, .int .i64 s11, .int .i64 s12, .int .i64 s13, .int .i64 s14] 53 (0, 0)) ∧ W.heap[w.heap.size + 1]? = some (.cells #[.bool false] 4 (0, 0))) ∧ Below w.heap.size w W)
  (fun c pre W => (c = .ret ∧ Hid (pre.all okS = false)) ∧ W.heap[w.heap.size + 1]? = some (.cells #[.bool false] 4 (0, 0)) ∧ Below w.heap.size w W)
  ((ownFrom_pure' _ _).and (((ownFrom_blk _ _ (fun _ => _) _).and (ownFrom_blk _ _ (fun _ => _) _)).and (ownFrom_below (Nat.le_refl _) (by omega))))
  (fun c => (ownFrom_pure' _ _).and ((ownFrom_blk _ _ (fun _ => _) _).and (ownFrom_below (Nat.le_refl _) (by omega))))
  ⟨rfl, ⟨hS, hR⟩, hB0⟩
  (fun x a' W => ∃ Bx, W.heap[Bx]? = some (.cells #[.int .i64 x.1, .int .i64 x.2.1, .int .i64 x.2.2] 123 (0, 0)) ∧ a' = { tmps := #[.agg #[.int .i64 s0, .int .i64 s1, .int .i64 s2, .int .i64 s3, .int .i64 s4, .int .i64 s5, .int .i64 s6, .int .i64 s7, .int .i64 s8, .int .i64 s9, .int .i64 s10, .int .i64 s11, .int .i64 s12, .int .i64 s13, .int .i64 s14], .pointer (some ⟨w.heap.size, 0, none⟩), .pointer (some ⟨w.heap.size + 1, 0, none⟩), .pointer (some ⟨Bx, 0, none⟩), .agg #[.int .i64 0, .int .i64 0, .int .i64 0, .int .i64 0, .int .i64 0, .int .i64 0, .bool false, .int .i64 0], .agg #[.int .i64 s0, .int .i64 s1, .int .i64 s2, .int .i64 s3, .int .i64 s4, .int .i64 s5, .int .i64 s6, .int .i64 s7, .int .i64 s8, .int .i64 s9, .int .i64 s10, .int .i64 s11, .int .i64 s12, .int .i64 s13, .int .i64 s14], .func (.func 80) #[] #[.pointer (some ⟨w.heap.size + 1 + 1, 0, none⟩), .pointer (some ⟨w.heap.size + 1 + 1 + 1, 0, none⟩)], .agg #[.int .i64 x.1, .int .i64 x.2.1, .int .i64 x.2.2], undef, undef, undef, undef, undef, undef, undef, undef], defers := [] })
  (fun x a' _ X Y row hs hg hr => by obtain ⟨Bx, h2, h3⟩ := hs; exact ⟨Bx, ownFrom_blk _ Bx (fun (_ : Unit) => _) 123 () X Y row h2 hg hr, h3⟩)
  ?assign ?body ?done ?stop
 case assign =>
  rintro l pre x W K ⟨hp, ⟨hS, hR⟩, hB⟩ hK
  have HK := hid hK
  have HB := hid hB
  have HQ := hid hp
  clear hK hB hp
  dsimp only [enc3]
  gi_wp2
  refine HK.out _ _ ((KeepsOthers.alloc _ _).from _) trivial ⟨HQ.out, ⟨blk_alloc hS _, blk_alloc hR _⟩, HB.out.alloc HB.out.size _⟩ ⟨W.heap.size, blk_new _ _, rfl⟩
 case body =>
  rintro l pre x a' W hl hrec ⟨hp, ⟨hS, hR⟩, hB⟩ ⟨Bx, hX, rfl⟩ hlen
  have HB := hid hB
  have HQ := hid hp
  have HX := hid hX
  have hx0 : W.cell? ⟨Bx, 0, none⟩ = some (.int .i64 x.1) := (blk_cell hX 0).trans rfl
  have hx1 : W.cell? ⟨Bx, 1, none⟩ = some (.int .i64 x.2.1) := (blk_cell hX 1).trans rfl
  have hx2 : W.cell? ⟨Bx, 2, none⟩ = some (.int .i64 x.2.2) := (blk_cell hX 2).trans rfl
  have HS := hid hS
  have HR := hid hR
  clear hB hp hX hS hR
  cases hok : okS x with
  | true =>
   have HO := hid hok
   have HC := hid (fun (W1 : World) => thread_isSpan.calls x.2.1 x.2.2 0 10000000 true W1 (by rw [isSpan_okS, hok]))
   clear hok
   gi_wp2_with (refine ⟨trivial, ?_⟩; gi_at_call 53; refine (CallsIn.inRound l (callsIn_wide.2 (HC.out _))).mono ?_; rintro e w' ⟨rfl, hb'⟩; have HB' := hid hb'; clear hb')
   refine ⟨(keeps_of_below HB'.out).from _, trivial, ?_, ⟨blk_below HS.out HB'.out, blk_below HR.out HB'.out⟩, HB.out.trans (HB'.out.mono HB.out.size)⟩
   show _ = _
   rw [List.all_append, HQ.out]; simp [HO.out]
  | false =>
   have HO := hid hok
   have HC := hid (fun (W1 : World) => thread_isSpan.calls x.2.1 x.2.2 0 10000000 false W1 (by rw [isSpan_okS, hok]))
   clear hok
   gi_wp2_with (refine ⟨trivial, ?_⟩; gi_at_call 53; refine (CallsIn.inRound l (callsIn_wide.2 (HC.out _))).mono ?_; rintro e w' ⟨rfl, hb'⟩; have HB2 := hid hb'; clear hb'; have HR2 := hid (blk_below HR.out HB2.out); have hr2 : w'.cell? ⟨w.heap.size + 1, 0, none⟩ = some (.bool false) := (blk_cell HR2.out 0).trans rfl; have hfr2 := blk_frozen HR2.out 0)
   refine ⟨(KeepsOthers.trans (keeps_of_below HB2.out) (KeepsOthers.setCell _ _ _)).from _, ⟨rfl, ?_⟩, by simpa using blk_set HR2.out 0 (.bool false), (HB.out.trans (HB2.out.mono HB.out.size)).setCell (p := ⟨w.heap.size + 1, 0, none⟩) (by simp) _⟩
   show _ = _
   rw [List.all_append]; simp [HO.out]
 case done =>
  rintro D ys W hD rfl ⟨hp, ⟨hS, hR⟩, hB⟩ hK
  have HB := hid hB
  have HQ := hid hp
  have HS := hid hS
  have HR := hid hR
  have HK := hid hK
  have hs14 : W.cell? ⟨w.heap.size, 14, none⟩ = some (.int .i64 s14) := (blk_cell HS.out 14).trans rfl
  have HD := hid hD
  have HC := hid (fun (W1 : World) (h : W1.heap[W.heap.size]? = some (.cells #[.int .i64 s14] 3 (0, 0))) => thread_within.calls 0 2 (some ⟨W.heap.size, 0, none⟩) 1 [s14] (!(outside 0 2 s14)) W1 (C_one h) (by simp) (by simp [thread_within.f]))
  clear hB hp hS hR hK hD
  gi_wp2_with (refine ⟨trivial, ?_⟩; gi_at_call 43; refine (callsIn_wide.2 (HC.out _ (blk_new _ _))).mono ?_; rintro e w6 ⟨rfl, hb'⟩; have HB6 := hid (((Below.refl W.heap.size W).alloc (Nat.le_refl _) _).trans (hb'.mono (by simp))); clear hb'; have HR6 := hid (blk_below HR.out HB6.out); have hr6 : w6.cell? ⟨w.heap.size + 1, 0, none⟩ = some (.bool false) := (blk_cell HR6.out 0).trans rfl; have hfr6 := blk_frozen HR6.out 0)
  have hK7 : (w6.setCell ⟨w.heap.size + 1, 0, none⟩ (.bool (!(outside 0 2 s14)))).heap[D]? = some (.deferred (some [])) := blk_far2 ((HB6.out.block _ (blk_lt HK.out)).trans HK.out) _ _
  have hR7 : (w6.setCell ⟨w.heap.size + 1, 0, none⟩ (.bool (!(outside 0 2 s14)))).heap[w.heap.size + 1]? = some (.cells #[.bool (!(outside 0 2 s14))] 4 (0, 0)) := by simpa using blk_set HR6.out 0 (.bool (!(outside 0 2 s14)))
  refine ⟨by simp, .inl ⟨_, _, rfl, run_takeDeferred hK7, ?_⟩⟩
  have hc5 := cell_kept ((blk_cell hR7 0).trans rfl) (grownBy_putObj' _ D (.deferred none)) (fun r e => by cases e; exact ⟨_, hK7, rfl⟩)
  refine ⟨.bool (!(outside 0 2 s14)), by simp [results, Try.f57, go_sem, hc5], ?_, (HB.out.trans ((HB6.out.mono HB.out.size).setCell (p := ⟨w.heap.size + 1, 0, none⟩) (by simp) _)).trans (belowK_b (w := w) (Nat.le_refl _) _ D _ _ (by have := HD.out; omega) hK7 rfl rfl)⟩
  have h := HH.out
  unfold thread_isSeen.f at h
  rw [HQ.out] at h
  rw [← Option.some.inj h]; rfl
 case stop =>
  rintro D c pre W hD hpre ⟨⟨rfl, hq⟩, hR, hB⟩ hK
  have HR := hid hR
  have HB := hid hB
  have HK := hid hK
  have hpre' := hid hpre
  have HQ := hid hq
  have HD := hid hD
  clear hR hB hK hpre hq hD
  gi_wp2
  refine ⟨by simp, .inl ⟨_, _, rfl, run_takeDeferred HK.out, ?_⟩⟩
  have hc5 := cell_kept ((blk_cell HR.out 0).trans rfl) (grownBy_putObj' W D (.deferred none)) (fun r e => by cases e; exact ⟨_, HK.out, rfl⟩)
  refine ⟨.bool false, by simp [results, Try.f57, go_sem, hc5], ?_, HB.out.trans (belowK_b (w := w) (Nat.le_refl _) W D _ _ (by have := HD.out; omega) HK.out rfl rfl)⟩
  have hall : List.all [(0, s0, s1), (0, s2, s3), (0, s4, s5), (0, s6, s7), (0, s8, s9), (0, s10, s11), (0, s12, s13)] okS = false := by
   obtain ⟨t, ht⟩ := hpre'.out
   rw [← ht, List.all_append]
   have := HQ.out
   rw [this]; rfl
  have h := HH.out
  unfold thread_isSeen.f at h
  rw [hall] at h
  rw [← Option.some.inj h]; rfl
end Go.Proofs.Yticbhgjenidjlaa.T
namespace Go.Proofs.Yticbhgjenidjlaa.T
open Go.RowKit Go.Proofs.YticbhgjenidjlaaW.PrintWords Go.Proofs.YticbhgjenidjlaaW.PrintLast Go.Proofs.YticbhgjenidjlaaW.PrintMore
attribute [local go_sem] max2_int min2_int max_two min_two max_three min_three max_four min_four   -- for this text's walks alone
set_option linter.unusedVariables false
set_option linter.unusedSimpArgs false
attribute [local go_sem] wl_100001

def thread_Agree.l0 : Nat → List Int → List (S23) → Int → Int → Int → Int → Int → Int → Int → Int → Int → Int → Int → Int → Int → Int → Int → Int → Int → Option (List Int × Int)
 | 0, _, _, _, _, _, _, _, _, _, _, _, _, _, _, _, _, _, _, _ => none
 | k + 1, x4, x19, x20, x21, x294000, x294001, x294002, x294003, x294004, x294005, x294006, x294007, x294008, x294009, x294010, x294011, x294012, x294013, x294014 => if x21 < x20 then (if 0 ≤ x21 then (if x21 < (x19.length : Int) then ((thread_form_agrees.f ((rd_T23 x19 x21).f0) ((rd_T23 x19 x21).f1) ((rd_T23 x19 x21).f2) ((rd_T23 x19 x21).f3) ((rd_T23 x19 x21).f4) ((rd_T23 x19 x21).f5) ((rd_T23 x19 x21).f6) ((rd_T23 x19 x21).f7) x294000 x294001 x294002 x294003 x294004 x294005 x294006 x294007 x294008 x294009 x294010 x294011 x294012 x294013 x294014).bind fun t298 => (if t298 = true then (if x4.length < 17592186044416 then (thread_Agree.l0 k (x4 ++ [x21]) x19 x20 (wrap64 (x21 + 1)) x294000 x294001 x294002 x294003 x294004 x294005 x294006 x294007 x294008 x294009 x294010 x294011 x294012 x294013 x294014) else (none)) else (thread_Agree.l0 k x4 x19 x20 (wrap64 (x21 + 1)) x294000 x294001 x294002 x294003 x294004 x294005 x294006 x294007 x294008 x294009 x294010 x294011 x294012 x294013 x294014))) else (none)) else (none)) else (some (x4, 0))
def thread_Agree.f (k : Nat) (l0 : List (S23)) (a1_0 : Int) (a1_1 : Int) (a1_2 : Int) (a1_3 : Int) (a1_4 : Int) (a1_5 : Int) (a1_6 : Int) (a1_7 : Int) (a1_8 : Int) (a1_9 : Int) (a1_10 : Int) (a1_11 : Int) (a1_12 : Int) (a1_13 : Int) (a1_14 : Int) : Option (List Int × Int) := (thread_checkTable.f k l0).bind fun t294 => (if t294 = 0 then ((thread_isSeen.f a1_0 a1_1 a1_2 a1_3 a1_4 a1_5 a1_6 a1_7 a1_8 a1_9 a1_10 a1_11 a1_12 a1_13 a1_14).bind fun t295 => (if t295 = true then (thread_Agree.l0 k ([] : List Int) l0 (l0.length : Int) 0 a1_0 a1_1 a1_2 a1_3 a1_4 a1_5 a1_6 a1_7 a1_8 a1_9 a1_10 a1_11 a1_12 a1_13 a1_14) else (some (([] : List Int), 3)))) else (some (([] : List Int), t294)))
set_option maxHeartbeats 8000000 in
set_option maxRecDepth 100000 in
theorem thread_Agree.calls (k : Nat) (A0 : Option Addr) (c0 : Nat) (l0 : List (S23)) (a1_0 : Int) (a1_1 : Int) (a1_2 : Int) (a1_3 : Int) (a1_4 : Int) (a1_5 : Int) (a1_6 : Int) (a1_7 : Int) (a1_8 : Int) (a1_9 : Int) (a1_10 : Int) (a1_11 : Int) (a1_12 : Int) (a1_13 : Int) (a1_14 : Int) (r1 : List Int) (r2 : Int) (w : World) (hr0 : Kd.C k23 w A0 l0.length l0) (hc0 : l0.length ≤ c0) (h : thread_Agree.f k l0 a1_0 a1_1 a1_2 a1_3 a1_4 a1_5 a1_6 a1_7 a1_8 a1_9 a1_10 a1_11 a1_12 a1_13 a1_14 = some (r1, r2)) :
  Calls Try.prog 30 #[.slice A0 l0.length c0, .agg #[.int .i64 a1_0, .int .i64 a1_1, .int .i64 a1_2, .int .i64 a1_3, .int .i64 a1_4, .int .i64 a1_5, .int .i64 a1_6, .int .i64 a1_7, .int .i64 a1_8, .int .i64 a1_9, .int .i64 a1_10, .int .i64 a1_11, .int .i64 a1_12, .int .i64 a1_13, .int .i64 a1_14]] w fun e w' => ∃ v0_ : Value, e = .returned (.tuple #[v0_, .int .i64 r2]) ∧ Kd.R (Kd.int .i64) 3 w' w.heap.size (fun _ => True) v0_ r1 ∧ Below w.heap.size w w' := by
 have hu53 := Try.underlying53
 have hu23 := Try.underlying23
 have hu96 := Try.underlying96
 have HR0 := Aside0.mk hr0
 have HC0 := Aside0.mk hc0
 clear hr0 hc0
 have HB := Aside0.mk (Below.refl w.heap.size w)
 have H : ((thread_checkTable.f k l0).bind fun t294 => (if t294 = 0 then ((thread_isSeen.f a1_0 a1_1 a1_2 a1_3 a1_4 a1_5 a1_6 a1_7 a1_8 a1_9 a1_10 a1_11 a1_12 a1_13 a1_14).bind fun t295 => (if t295 = true then (thread_Agree.l0 k ([] : List Int) l0 (l0.length : Int) 0 a1_0 a1_1 a1_2 a1_3 a1_4 a1_5 a1_6 a1_7 a1_8 a1_9 a1_10 a1_11 a1_12 a1_13 a1_14) else (some (([] : List Int), 3)))) else (some (([] : List Int), t294)))) = some (r1, r2) := h
 clear h
 replace H := Option.bind_eq_some_iff.mp H
 obtain ⟨t294, A30, H⟩ := H; (try dsimp only at H)
 have A3 := Aside0.mk A30
 clear A30
 by_cases c4 : t294 = 0
 ·rw [if_pos c4] at H
  have c4b0 : (t294 == 0) = true := beq_iff_eq.mpr c4
  have c4b1 : (t294 != 0) = false := bne_eq_false_iff_eq.mpr c4
  clear c4
  replace H := Option.bind_eq_some_iff.mp H
  obtain ⟨t295, A50, H⟩ := H; (try dsimp only at H)
  have A5 := Aside0.mk A50
  clear A50
  by_cases c6 : t295 = true
  ·subst c6
   have H1 : (thread_Agree.l0 k ([] : List Int) l0 (l0.length : Int) 0 a1_0 a1_1 a1_2 a1_3 a1_4 a1_5 a1_6 a1_7 a1_8 a1_9 a1_10 a1_11 a1_12 a1_13 a1_14) = some (r1, r2) := by rw [if_pos rfl] at H; exact H
   clear H
   have H := H1
   clear H1
   have H' := Aside0.mk H
   clear H
   go_enter Try.func30, Try.ntmps30
   go_wp2_with (first | ((with_reducible refine gate_dst (N := 3) rfl ?_); refine box_event ?hg (N := 3) ?hd (cs := #[.int .i64 a1_0, .int .i64 a1_1, .int .i64 a1_2, .int .i64 a1_3, .int .i64 a1_4, .int .i64 a1_5, .int .i64 a1_6, .int .i64 a1_7, .int .i64 a1_8, .int .i64 a1_9, .int .i64 a1_10, .int .i64 a1_11, .int .i64 a1_12, .int .i64 a1_13, .int .i64 a1_14]) (t := 53) ?hr ?_; (case hd => rfl); (case hg => rfl); (case hr => first | (go_simp; done) | (go_simp; rfl)); intro gb293 hg w7 hbox hb; have BK293 := Aside0.mk (hbox); have GW293 := Aside0.mk ((by rw [hg]; exact (below_size HB.out) : w.heap.size ≤ gb293)); have GE293 := GW293; replace HB := Aside0.mk (below_step HB.out hb); clear hb hbox hg) | ((with_reducible refine gate_callee (f := 56) rfl ?_); refine goesL_ (some 10) rfl rfl Try.func56 (by kernel_rfl) rfl #[.slice A0 l0.length c0] rfl (by (try simp only [List.map_toArray, List.map_cons, List.map_nil]); first | done | rfl | (simp only [List.length_drop, List.length_take]; rfl)) ?_; (with_reducible refine (thread_checkTable.calls k _ _ l0 t294 _ ?side1 ?side2 A3.out).mono ?_); (case side1 => repeat (first | exact (Kd.C_below HR0.out HB.out) | (with_reducible refine Kd.C_alloc ?_ _) | (with_reducible refine Kd.C_drewN ?_ _) | (with_reducible refine Kd.C_drew ?_))); (case side2 => exact HC0.out); rintro e w8 ⟨rfl, hb⟩; refine ⟨_, rfl, ?_⟩; replace BK293 := Aside0.mk (blk_below (g := gb293) (o := .cells #[.int .i64 a1_0, .int .i64 a1_1, .int .i64 a1_2, .int .i64 a1_3, .int .i64 a1_4, .int .i64 a1_5, .int .i64 a1_6, .int .i64 a1_7, .int .i64 a1_8, .int .i64 a1_9, .int .i64 a1_10, .int .i64 a1_11, .int .i64 a1_12, .int .i64 a1_13, .int .i64 a1_14] 53 (0, 0)) (by repeat (first | (with_reducible first | exact BK293.out | refine blk_drewN ?_ _ | refine blk_drew ?_ | refine blk_alloc ?_ _) | exact BK293.out)) hb); replace HB := Aside0.mk (below_step (by repeat (first | (with_reducible first | exact HB.out | apply below_alloc | apply pw_below_drewN | apply below_drew1 | refine below_set ?_ (Aside0.out (by assumption))) | exact HB.out)) hb); (try clear hb); (try clear hb2); (try clear hk); (try clear hi); obtain ⟨hcz9_0, hcz9_1, hcz9_2, hcz9_3, hcz9_4, hcz9_5, hcz9_6, hcz9_7, hcz9_8, hcz9_9, hcz9_10, hcz9_11, hcz9_12, hcz9_13, hcz9_14⟩ := bc15 BK293.out; obtain ⟨hfz9_0, hfz9_1, hfz9_2, hfz9_3, hfz9_4, hfz9_5, hfz9_6, hfz9_7, hfz9_8, hfz9_9, hfz9_10, hfz9_11, hfz9_12, hfz9_13, hfz9_14⟩ := bf15 BK293.out) | ((with_reducible refine gate_callee (f := 57) rfl ?_); refine goesL_ (some 17) rfl rfl Try.func57 (by kernel_rfl) rfl #[.agg #[.int .i64 a1_0, .int .i64 a1_1, .int .i64 a1_2, .int .i64 a1_3, .int .i64 a1_4, .int .i64 a1_5, .int .i64 a1_6, .int .i64 a1_7, .int .i64 a1_8, .int .i64 a1_9, .int .i64 a1_10, .int .i64 a1_11, .int .i64 a1_12, .int .i64 a1_13, .int .i64 a1_14]] rfl (by (try simp only [List.map_toArray, List.map_cons, List.map_nil]); first | done | rfl | (simp only [List.length_drop, List.length_take]; rfl)) ?_; (with_reducible refine (thread_isSeen.calls a1_0 a1_1 a1_2 a1_3 a1_4 a1_5 a1_6 a1_7 a1_8 a1_9 a1_10 a1_11 a1_12 a1_13 a1_14 true _ A5.out).mono ?_); rintro e w10 ⟨rfl, hb⟩; refine ⟨_, rfl, ?_⟩; replace BK293 := Aside0.mk (blk_below (g := gb293) (o := .cells #[.int .i64 a1_0, .int .i64 a1_1, .int .i64 a1_2, .int .i64 a1_3, .int .i64 a1_4, .int .i64 a1_5, .int .i64 a1_6, .int .i64 a1_7, .int .i64 a1_8, .int .i64 a1_9, .int .i64 a1_10, .int .i64 a1_11, .int .i64 a1_12, .int .i64 a1_13, .int .i64 a1_14] 53 (0, 0)) (by repeat (first | (with_reducible first | exact BK293.out | refine blk_drewN ?_ _ | refine blk_drew ?_ | refine blk_alloc ?_ _) | exact BK293.out)) hb); replace HB := Aside0.mk (below_step (by repeat (first | (with_reducible first | exact HB.out | apply below_alloc | apply pw_below_drewN | apply below_drew1 | refine below_set ?_ (Aside0.out (by assumption))) | exact HB.out)) hb); (try clear hb); (try clear hb2); (try clear hk); (try clear hi)))
   go_loopg [4, 21] k (fun kq v4 v21 w' => ∃ (x4_1 : List Int) (x21_1 : Int), v21 = .int .i64 x21_1 ∧ Aside0 (thread_Agree.l0 kq x4_1 l0 (l0.length : Int) x21_1 a1_0 a1_1 a1_2 a1_3 a1_4 a1_5 a1_6 a1_7 a1_8 a1_9 a1_10 a1_11 a1_12 a1_13 a1_14 = some (r1, r2)) ∧ Aside0 (kq ≤ k) ∧ Aside0 (Kd.R (Kd.int .i64) 3 w' w.heap.size (fun _ => True) v4 x4_1) ∧ Aside0 (w'.heap[gb293]? = some (.cells #[.int .i64 a1_0, .int .i64 a1_1, .int .i64 a1_2, .int .i64 a1_3, .int .i64 a1_4, .int .i64 a1_5, .int .i64 a1_6, .int .i64 a1_7, .int .i64 a1_8, .int .i64 a1_9, .int .i64 a1_10, .int .i64 a1_11, .int .i64 a1_12, .int .i64 a1_13, .int .i64 a1_14] 53 (0, 0))) ∧ Aside0 (Below w.heap.size w w'))
   case atStart => exact ⟨(([] : List Int)), (0), (by first | rfl | (simp; done) | (simp [*]; done)), H', ⟨Nat.le_refl _⟩, ⟨by first | exact Kd.R_nil _ _ _ _ _ | exact Kd.N_nil _ _ _ _ _ | exact Kd.V_nil _ _ _ _ _ | exact Kd.Q_nil _ _ _ _ _ | exact Kd.S_nil _ _ _ _ _⟩, BK293, ⟨by repeat (first | (with_reducible first | exact HB.out | apply below_alloc | apply pw_below_drewN | apply below_drew1 | refine below_set ?_ (Aside0.out (by assumption))) | exact HB.out)⟩⟩
   case round =>
    clear H'
    try clear p2; try clear c3; try clear c4; try clear c4b0; try clear c4b1; try clear c5; try clear c6; try clear hcz9_0; try clear hcz9_1; try clear hcz9_10; try clear hcz9_11; try clear hcz9_12; try clear hcz9_13; try clear hcz9_14; try clear hcz9_2; try clear hcz9_3; try clear hcz9_4; try clear hcz9_5; try clear hcz9_6; try clear hcz9_7; try clear hcz9_8; try clear hcz9_9; try clear hfz9_0; try clear hfz9_1; try clear hfz9_10; try clear hfz9_11; try clear hfz9_12; try clear hfz9_13; try clear hfz9_14; try clear hfz9_2; try clear hfz9_3; try clear hfz9_4; try clear hfz9_5; try clear hfz9_6; try clear hfz9_7; try clear hfz9_8; try clear hfz9_9
    obtain ⟨x4_1, x21_1, rfl, HA, HK1, HO_4, BK293, HB⟩ := hrel
    cases gk with
    | zero => exact absurd HA.out (by simp [thread_Agree.l0])
    | succ k1 =>
     have H := HA.out
     clear HA
     simp only [thread_Agree.l0] at H
     by_cases c11 : x21_1 < (l0.length : Int)
     ·rw [if_pos c11] at H
      have c11b0 : decide (x21_1 < (l0.length : Int)) = true := decide_eq_true c11
      clear c11
      by_cases c12 : 0 ≤ x21_1
      ·rw [if_pos c12] at H
       have c12b0 : decide (0 ≤ x21_1) = true := decide_eq_true c12
       clear c12
       by_cases c13 : x21_1 < (l0.length : Int)
       ·rw [if_pos c13] at H
        have c13b0 : decide (x21_1 < (l0.length : Int)) = true := decide_eq_true c13
        clear c13
        replace H := Option.bind_eq_some_iff.mp H
        obtain ⟨t298, A140, H⟩ := H; (try dsimp only at H)
        have A14 := Aside0.mk A140
        clear A140
        by_cases c15 : t298 = true
        ·subst c15
         have H1 : (if x4_1.length < 17592186044416 then (thread_Agree.l0 k1 (x4_1 ++ [x21_1]) l0 (l0.length : Int) (wrap64 (x21_1 + 1)) a1_0 a1_1 a1_2 a1_3 a1_4 a1_5 a1_6 a1_7 a1_8 a1_9 a1_10 a1_11 a1_12 a1_13 a1_14) else (none)) = some (r1, r2) := by rw [if_pos rfl] at H; exact H
         clear H
         have H := H1
         clear H1
         by_cases c16 : x4_1.length < 17592186044416
         ·rw [if_pos c16] at H
          have LMc16 := Aside0.mk c16
          clear c16
          obtain ⟨y299, hy299⟩ : ∃ y_ : List Int, y_ = (x4_1 ++ [x21_1]) := ⟨_, rfl⟩
          replace H : (thread_Agree.l0 k1 y299 l0 (l0.length : Int) (wrap64 (x21_1 + 1)) a1_0 a1_1 a1_2 a1_3 a1_4 a1_5 a1_6 a1_7 a1_8 a1_9 a1_10 a1_11 a1_12 a1_13 a1_14) = some (r1, r2) := by first | (rw [hy299]; with_reducible exact H) | (have H2_ := (Option.bind_some _ _).symm.trans H; rw [hy299]; with_reducible exact H2_) | (have H2_ := (Option.bind_some _ _).symm.trans H; with_reducible exact H2_) | with_reducible exact H | (rw [hy299]; exact H) | exact H
          have Ny299 := Aside0.mk hy299
          clear hy299
          have H' := Aside0.mk H
          clear H
          have p296 : 0 ≤ (x21_1 : Int) := of_decide_eq_true (by first | (with_reducible assumption) | assumption)
          have q296 : x21_1 < (l0.length : Int) := of_decide_eq_true (by first | (with_reducible assumption) | assumption)
          obtain ⟨ad296, e296, hx296_0, hx296_1, hx296_2, hx296_3, hx296_4, hx296_5, hx296_6, hx296_7⟩ := at_T23 HR0.out x21_1 p296 q296
          cases e296
          replace hx296_0 := (HB.out.cell (World.block_lt_of_cell? w _ hx296_0)).trans hx296_0
          replace hx296_1 := (HB.out.cell (World.block_lt_of_cell? w _ hx296_1)).trans hx296_1
          replace hx296_2 := (HB.out.cell (World.block_lt_of_cell? w _ hx296_2)).trans hx296_2
          replace hx296_3 := (HB.out.cell (World.block_lt_of_cell? w _ hx296_3)).trans hx296_3
          replace hx296_4 := (HB.out.cell (World.block_lt_of_cell? w _ hx296_4)).trans hx296_4
          replace hx296_5 := (HB.out.cell (World.block_lt_of_cell? w _ hx296_5)).trans hx296_5
          replace hx296_6 := (HB.out.cell (World.block_lt_of_cell? w _ hx296_6)).trans hx296_6
          replace hx296_7 := (HB.out.cell (World.block_lt_of_cell? w _ hx296_7)).trans hx296_7
          replace p296 := eq_true p296
          replace q296 := eq_true q296
          go_wp2_with (first | ((with_reducible refine gate_dst (N := 8) rfl ?_); refine box_event ?hg (N := 8) ?hd (cs := #[.int .i64 0, .int .i64 0, .int .i64 0, .int .i64 0, .int .i64 0, .int .i64 0, .bool false, .int .i64 0]) (t := 23) ?hr ?_; (case hd => rfl); (case hg => rfl); (case hr => first | (go_simp; done) | (go_simp; rfl)); intro gb297 hg w17 hbox hb; replace HO_4 := Aside0.mk (Kd.R_below (by (with_reducible repeat (first | apply Kd.R_alloc | apply Kd.R_drewN | apply Kd.R_drew)); exact HO_4.out) hb); have BK297 := Aside0.mk (hbox); have GW297 := Aside0.mk ((by rw [hg]; exact (below_size (by repeat (first | (with_reducible first | exact HB.out | apply below_alloc | apply pw_below_drewN | apply below_drew1 | refine below_set ?_ (Aside0.out (by assumption))) | exact HB.out))) : w.heap.size ≤ gb297)); have GE297 := GW297; replace HB := Aside0.mk (below_step (by repeat (first | (with_reducible first | exact HB.out | apply below_alloc | apply pw_below_drewN | apply below_drew1 | refine below_set ?_ (Aside0.out (by assumption))) | exact HB.out)) hb); have NB293_297 := Aside0.mk ((by rw [hg]; exact Nat.ne_of_lt (blk_lt BK293.out) : gb293 ≠ gb297)); have NB297_293 := Aside0.mk ((by rw [hg]; exact Nat.ne_of_gt (blk_lt BK293.out) : gb297 ≠ gb293)); replace BK293 := Aside0.mk (blk_below (g := gb293) (o := .cells #[.int .i64 a1_0, .int .i64 a1_1, .int .i64 a1_2, .int .i64 a1_3, .int .i64 a1_4, .int .i64 a1_5, .int .i64 a1_6, .int .i64 a1_7, .int .i64 a1_8, .int .i64 a1_9, .int .i64 a1_10, .int .i64 a1_11, .int .i64 a1_12, .int .i64 a1_13, .int .i64 a1_14] 53 (0, 0)) (by repeat (first | (with_reducible first | exact BK293.out | refine blk_drewN ?_ _ | refine blk_drew ?_ | refine blk_alloc ?_ _) | exact BK293.out)) hb); clear hb hbox hg; have hnb18 := NB297_293.out; have hnc18 := NB293_297.out; obtain ⟨hcz19_0, hcz19_1, hcz19_2, hcz19_3, hcz19_4, hcz19_5, hcz19_6, hcz19_7⟩ := bc8 BK297.out; obtain ⟨hfz19_0, hfz19_1, hfz19_2, hfz19_3, hfz19_4, hfz19_5, hfz19_6, hfz19_7⟩ := bf8 BK297.out; obtain ⟨hcz20_0, hcz20_1, hcz20_2, hcz20_3, hcz20_4, hcz20_5, hcz20_6, hcz20_7, hcz20_8, hcz20_9, hcz20_10, hcz20_11, hcz20_12, hcz20_13, hcz20_14⟩ := bc15 BK293.out; obtain ⟨hfz20_0, hfz20_1, hfz20_2, hfz20_3, hfz20_4, hfz20_5, hfz20_6, hfz20_7, hfz20_8, hfz20_9, hfz20_10, hfz20_11, hfz20_12, hfz20_13, hfz20_14⟩ := bf15 BK293.out) | ((with_reducible refine gate_callee (f := 58) rfl ?_); refine goesL_ (some 29) rfl rfl Try.func58 (by kernel_rfl) rfl #[.agg #[.int .i64 ((rd_T23 l0 x21_1).f0), .int .i64 ((rd_T23 l0 x21_1).f1), .int .i64 ((rd_T23 l0 x21_1).f2), .int .i64 ((rd_T23 l0 x21_1).f3), .int .i64 ((rd_T23 l0 x21_1).f4), .int .i64 ((rd_T23 l0 x21_1).f5), .bool ((rd_T23 l0 x21_1).f6), .int .i64 ((rd_T23 l0 x21_1).f7)], .agg #[.int .i64 a1_0, .int .i64 a1_1, .int .i64 a1_2, .int .i64 a1_3, .int .i64 a1_4, .int .i64 a1_5, .int .i64 a1_6, .int .i64 a1_7, .int .i64 a1_8, .int .i64 a1_9, .int .i64 a1_10, .int .i64 a1_11, .int .i64 a1_12, .int .i64 a1_13, .int .i64 a1_14]] rfl (by (try simp only [List.map_toArray, List.map_cons, List.map_nil]); first | done | rfl | (simp only [List.length_drop, List.length_take]; rfl)) ?_; (with_reducible refine (thread_form_agrees.calls ((rd_T23 l0 x21_1).f0) ((rd_T23 l0 x21_1).f1) ((rd_T23 l0 x21_1).f2) ((rd_T23 l0 x21_1).f3) ((rd_T23 l0 x21_1).f4) ((rd_T23 l0 x21_1).f5) ((rd_T23 l0 x21_1).f6) ((rd_T23 l0 x21_1).f7) a1_0 a1_1 a1_2 a1_3 a1_4 a1_5 a1_6 a1_7 a1_8 a1_9 a1_10 a1_11 a1_12 a1_13 a1_14 true _ A14.out).mono ?_); rintro e w21 ⟨rfl, hb⟩; refine ⟨_, rfl, ?_⟩; replace HO_4 := Aside0.mk (Kd.R_below (by (with_reducible repeat (first | apply Kd.R_alloc | apply Kd.R_drewN | apply Kd.R_drew)); exact (Kd.R_mono (Kd.R_far (p := ⟨gb297, 7, none⟩) (Kd.R_far (p := ⟨gb297, 6, none⟩) (Kd.R_far (p := ⟨gb297, 5, none⟩) (Kd.R_far (p := ⟨gb297, 4, none⟩) (Kd.R_far (p := ⟨gb297, 3, none⟩) (Kd.R_far (p := ⟨gb297, 2, none⟩) (Kd.R_far (p := ⟨gb297, 1, none⟩) (Kd.R_far (p := ⟨gb297, 0, none⟩) (Kd.R_types HO_4.out BK297.out (by decide)) (fun _ hk => hk.2) (.int .i64 ((rd_T23 l0 x21_1).f0))) (fun _ hk => hk.2) (.int .i64 ((rd_T23 l0 x21_1).f1))) (fun _ hk => hk.2) (.int .i64 ((rd_T23 l0 x21_1).f2))) (fun _ hk => hk.2) (.int .i64 ((rd_T23 l0 x21_1).f3))) (fun _ hk => hk.2) (.int .i64 ((rd_T23 l0 x21_1).f4))) (fun _ hk => hk.2) (.int .i64 ((rd_T23 l0 x21_1).f5))) (fun _ hk => hk.2) (.bool ((rd_T23 l0 x21_1).f6))) (fun _ hk => hk.2) (.int .i64 ((rd_T23 l0 x21_1).f7))) (fun _ h_ => h_.1))) hb); replace BK293 := Aside0.mk (blk_below (g := gb293) (o := .cells #[.int .i64 a1_0, .int .i64 a1_1, .int .i64 a1_2, .int .i64 a1_3, .int .i64 a1_4, .int .i64 a1_5, .int .i64 a1_6, .int .i64 a1_7, .int .i64 a1_8, .int .i64 a1_9, .int .i64 a1_10, .int .i64 a1_11, .int .i64 a1_12, .int .i64 a1_13, .int .i64 a1_14] 53 (0, 0)) (by repeat (first | (with_reducible first | exact BK293.out | refine blk_drewN ?_ _ | refine blk_drew ?_ | refine blk_alloc ?_ _) | refine blk_far ?_ NB293_297.out _ | exact BK293.out)) hb); replace BK297 := Aside0.mk (blk_below (g := gb297) (o := .cells #[.int .i64 ((rd_T23 l0 x21_1).f0), .int .i64 ((rd_T23 l0 x21_1).f1), .int .i64 ((rd_T23 l0 x21_1).f2), .int .i64 ((rd_T23 l0 x21_1).f3), .int .i64 ((rd_T23 l0 x21_1).f4), .int .i64 ((rd_T23 l0 x21_1).f5), .bool ((rd_T23 l0 x21_1).f6), .int .i64 ((rd_T23 l0 x21_1).f7)] 23 (0, 0)) (by exact bto (bput (bput (bput (bput (bput (bput (bput (bput (BK297.out) _ _) _ _) _ _) _ _) _ _) _ _) _ _) _ _) rfl) hb); replace HB := Aside0.mk (below_step (by repeat (first | (with_reducible first | exact HB.out | apply below_alloc | apply pw_below_drewN | apply below_drew1 | refine below_set ?_ (Aside0.out (by assumption))) | exact HB.out)) hb); (try clear hb); (try clear hb2); (try clear hk); (try clear hi)) | ((with_reducible refine gate_builtin (b := .append) (xs := #[.tmp 30, .tmp 32]) rfl ?_); at_builtin; refine Kd.R_append (Kd.int .i64) (w0 := w) w.heap.size rfl (.tmp 30) (.tmp 32) 56 3 (.int .i64 0) 8 rfl Try.underlying56 info3 rfl (by decide) (by omega) u4 x4_1 x21_1 [.int .i64 x21_1] (fun _ => True) (fun _ => False) rfl rfl ?aP (fun _ hk => hk.elim) ?aF ?aO ?aB ?aS ?aL ?_; (case aP => exact rfl); (case aB => exact (by repeat (first | (with_reducible first | exact HB.out | apply below_alloc | apply pw_below_drewN | apply below_drew1 | refine below_set ?_ (Aside0.out (by assumption))) | exact HB.out))); (case aF => exact (fun _ _ => trivial)); (case aO => exact (by (with_reducible repeat (first | apply Kd.R_alloc | apply Kd.R_drewN | apply Kd.R_drew)); exact HO_4.out)); (case aS => exact (below_size (by repeat (first | (with_reducible first | exact HB.out | apply below_alloc | apply pw_below_drewN | apply below_drew1 | refine below_set ?_ (Aside0.out (by assumption))) | exact HB.out)))); (case aL => have := LMc16.out; omega); intro v300 w22 ho hb hg hat; rw [← Ny299.out] at ho; replace BK293 := Aside0.mk (blk_grown (g := gb293) (o := .cells #[.int .i64 a1_0, .int .i64 a1_1, .int .i64 a1_2, .int .i64 a1_3, .int .i64 a1_4, .int .i64 a1_5, .int .i64 a1_6, .int .i64 a1_7, .int .i64 a1_8, .int .i64 a1_9, .int .i64 a1_10, .int .i64 a1_11, .int .i64 a1_12, .int .i64 a1_13, .int .i64 a1_14] 53 (0, 0)) (by repeat (first | (with_reducible first | exact BK293.out | refine blk_drewN ?_ _ | refine blk_drew ?_ | refine blk_alloc ?_ _) | exact BK293.out)) hg (Kd.R_ne HO_4.out BK293.out (by decide))); replace BK297 := Aside0.mk (blk_grown (g := gb297) (o := .cells #[.int .i64 ((rd_T23 l0 x21_1).f0), .int .i64 ((rd_T23 l0 x21_1).f1), .int .i64 ((rd_T23 l0 x21_1).f2), .int .i64 ((rd_T23 l0 x21_1).f3), .int .i64 ((rd_T23 l0 x21_1).f4), .int .i64 ((rd_T23 l0 x21_1).f5), .bool ((rd_T23 l0 x21_1).f6), .int .i64 ((rd_T23 l0 x21_1).f7)] 23 (0, 0)) (by repeat (first | (with_reducible first | exact BK297.out | refine blk_drewN ?_ _ | refine blk_drew ?_ | refine blk_alloc ?_ _) | exact BK297.out)) hg (Kd.R_ne HO_4.out BK297.out (by decide))); replace HB := Aside0.mk (hb); have HO301 := Aside0.mk (ho); clear HO_4; clear ho hb hg hat))
          go_roundg k1
          case measure => have := HK1.out; omega
          case rel => exact ⟨(y299), (wrap64 (x21_1 + 1)), (by first | rfl | (simp; done) | (simp [*]; done)), H', ⟨by have := HK1.out; omega⟩, ⟨by (with_reducible repeat (first | apply Kd.R_alloc | apply Kd.R_drewN | apply Kd.R_drew)); exact HO301.out⟩, BK293, ⟨by repeat (first | (with_reducible first | exact HB.out | apply below_alloc | apply pw_below_drewN | apply below_drew1 | refine below_set ?_ (Aside0.out (by assumption))) | exact HB.out)⟩⟩
         ·rw [if_neg c16] at H
          exact absurd H (by simp)
        ·replace c15 := Bool.eq_false_iff.mpr c15
         subst c15
         have H1 : (thread_Agree.l0 k1 x4_1 l0 (l0.length : Int) (wrap64 (x21_1 + 1)) a1_0 a1_1 a1_2 a1_3 a1_4 a1_5 a1_6 a1_7 a1_8 a1_9 a1_10 a1_11 a1_12 a1_13 a1_14) = some (r1, r2) := by rw [if_neg (show ¬ (false = true) by decide)] at H; exact H
         clear H
         have H := H1
         clear H1
         have H' := Aside0.mk H
         clear H
         have p296 : 0 ≤ (x21_1 : Int) := of_decide_eq_true (by first | (with_reducible assumption) | assumption)
         have q296 : x21_1 < (l0.length : Int) := of_decide_eq_true (by first | (with_reducible assumption) | assumption)
         obtain ⟨ad296, e296, hx296_0, hx296_1, hx296_2, hx296_3, hx296_4, hx296_5, hx296_6, hx296_7⟩ := at_T23 HR0.out x21_1 p296 q296
         cases e296
         replace hx296_0 := (HB.out.cell (World.block_lt_of_cell? w _ hx296_0)).trans hx296_0
         replace hx296_1 := (HB.out.cell (World.block_lt_of_cell? w _ hx296_1)).trans hx296_1
         replace hx296_2 := (HB.out.cell (World.block_lt_of_cell? w _ hx296_2)).trans hx296_2
         replace hx296_3 := (HB.out.cell (World.block_lt_of_cell? w _ hx296_3)).trans hx296_3
         replace hx296_4 := (HB.out.cell (World.block_lt_of_cell? w _ hx296_4)).trans hx296_4
         replace hx296_5 := (HB.out.cell (World.block_lt_of_cell? w _ hx296_5)).trans hx296_5
         replace hx296_6 := (HB.out.cell (World.block_lt_of_cell? w _ hx296_6)).trans hx296_6
         replace hx296_7 := (HB.out.cell (World.block_lt_of_cell? w _ hx296_7)).trans hx296_7
         replace p296 := eq_true p296
         replace q296 := eq_true q296
         go_wp2_with (first | ((with_reducible refine gate_dst (N := 8) rfl ?_); refine box_event ?hg (N := 8) ?hd (cs := #[.int .i64 0, .int .i64 0, .int .i64 0, .int .i64 0, .int .i64 0, .int .i64 0, .bool false, .int .i64 0]) (t := 23) ?hr ?_; (case hd => rfl); (case hg => rfl); (case hr => first | (go_simp; done) | (go_simp; rfl)); intro gb297 hg w23 hbox hb; replace HO_4 := Aside0.mk (Kd.R_below (by (with_reducible repeat (first | apply Kd.R_alloc | apply Kd.R_drewN | apply Kd.R_drew)); exact HO_4.out) hb); have BK297 := Aside0.mk (hbox); have GW297 := Aside0.mk ((by rw [hg]; exact (below_size (by repeat (first | (with_reducible first | exact HB.out | apply below_alloc | apply pw_below_drewN | apply below_drew1 | refine below_set ?_ (Aside0.out (by assumption))) | exact HB.out))) : w.heap.size ≤ gb297)); have GE297 := GW297; replace HB := Aside0.mk (below_step (by repeat (first | (with_reducible first | exact HB.out | apply below_alloc | apply pw_below_drewN | apply below_drew1 | refine below_set ?_ (Aside0.out (by assumption))) | exact HB.out)) hb); have NB293_297 := Aside0.mk ((by rw [hg]; exact Nat.ne_of_lt (blk_lt BK293.out) : gb293 ≠ gb297)); have NB297_293 := Aside0.mk ((by rw [hg]; exact Nat.ne_of_gt (blk_lt BK293.out) : gb297 ≠ gb293)); replace BK293 := Aside0.mk (blk_below (g := gb293) (o := .cells #[.int .i64 a1_0, .int .i64 a1_1, .int .i64 a1_2, .int .i64 a1_3, .int .i64 a1_4, .int .i64 a1_5, .int .i64 a1_6, .int .i64 a1_7, .int .i64 a1_8, .int .i64 a1_9, .int .i64 a1_10, .int .i64 a1_11, .int .i64 a1_12, .int .i64 a1_13, .int .i64 a1_14] 53 (0, 0)) (by repeat (first | (with_reducible first | exact BK293.out | refine blk_drewN ?_ _ | refine blk_drew ?_ | refine blk_alloc ?_ _) | exact BK293.out)) hb); clear hb hbox hg; have hnb24 := NB297_293.out; have hnc24 := NB293_297.out; obtain ⟨hcz25_0, hcz25_1, hcz25_2, hcz25_3, hcz25_4, hcz25_5, hcz25_6, hcz25_7⟩ := bc8 BK297.out; obtain ⟨hfz25_0, hfz25_1, hfz25_2, hfz25_3, hfz25_4, hfz25_5, hfz25_6, hfz25_7⟩ := bf8 BK297.out; obtain ⟨hcz26_0, hcz26_1, hcz26_2, hcz26_3, hcz26_4, hcz26_5, hcz26_6, hcz26_7, hcz26_8, hcz26_9, hcz26_10, hcz26_11, hcz26_12, hcz26_13, hcz26_14⟩ := bc15 BK293.out; obtain ⟨hfz26_0, hfz26_1, hfz26_2, hfz26_3, hfz26_4, hfz26_5, hfz26_6, hfz26_7, hfz26_8, hfz26_9, hfz26_10, hfz26_11, hfz26_12, hfz26_13, hfz26_14⟩ := bf15 BK293.out) | ((with_reducible refine gate_callee (f := 58) rfl ?_); refine goesL_ (some 29) rfl rfl Try.func58 (by kernel_rfl) rfl #[.agg #[.int .i64 ((rd_T23 l0 x21_1).f0), .int .i64 ((rd_T23 l0 x21_1).f1), .int .i64 ((rd_T23 l0 x21_1).f2), .int .i64 ((rd_T23 l0 x21_1).f3), .int .i64 ((rd_T23 l0 x21_1).f4), .int .i64 ((rd_T23 l0 x21_1).f5), .bool ((rd_T23 l0 x21_1).f6), .int .i64 ((rd_T23 l0 x21_1).f7)], .agg #[.int .i64 a1_0, .int .i64 a1_1, .int .i64 a1_2, .int .i64 a1_3, .int .i64 a1_4, .int .i64 a1_5, .int .i64 a1_6, .int .i64 a1_7, .int .i64 a1_8, .int .i64 a1_9, .int .i64 a1_10, .int .i64 a1_11, .int .i64 a1_12, .int .i64 a1_13, .int .i64 a1_14]] rfl (by (try simp only [List.map_toArray, List.map_cons, List.map_nil]); first | done | rfl | (simp only [List.length_drop, List.length_take]; rfl)) ?_; (with_reducible refine (thread_form_agrees.calls ((rd_T23 l0 x21_1).f0) ((rd_T23 l0 x21_1).f1) ((rd_T23 l0 x21_1).f2) ((rd_T23 l0 x21_1).f3) ((rd_T23 l0 x21_1).f4) ((rd_T23 l0 x21_1).f5) ((rd_T23 l0 x21_1).f6) ((rd_T23 l0 x21_1).f7) a1_0 a1_1 a1_2 a1_3 a1_4 a1_5 a1_6 a1_7 a1_8 a1_9 a1_10 a1_11 a1_12 a1_13 a1_14 false _ A14.out).mono ?_); rintro e w27 ⟨rfl, hb⟩; refine ⟨_, rfl, ?_⟩; replace HO_4 := Aside0.mk (Kd.R_below (by (with_reducible repeat (first | apply Kd.R_alloc | apply Kd.R_drewN | apply Kd.R_drew)); exact (Kd.R_mono (Kd.R_far (p := ⟨gb297, 7, none⟩) (Kd.R_far (p := ⟨gb297, 6, none⟩) (Kd.R_far (p := ⟨gb297, 5, none⟩) (Kd.R_far (p := ⟨gb297, 4, none⟩) (Kd.R_far (p := ⟨gb297, 3, none⟩) (Kd.R_far (p := ⟨gb297, 2, none⟩) (Kd.R_far (p := ⟨gb297, 1, none⟩) (Kd.R_far (p := ⟨gb297, 0, none⟩) (Kd.R_types HO_4.out BK297.out (by decide)) (fun _ hk => hk.2) (.int .i64 ((rd_T23 l0 x21_1).f0))) (fun _ hk => hk.2) (.int .i64 ((rd_T23 l0 x21_1).f1))) (fun _ hk => hk.2) (.int .i64 ((rd_T23 l0 x21_1).f2))) (fun _ hk => hk.2) (.int .i64 ((rd_T23 l0 x21_1).f3))) (fun _ hk => hk.2) (.int .i64 ((rd_T23 l0 x21_1).f4))) (fun _ hk => hk.2) (.int .i64 ((rd_T23 l0 x21_1).f5))) (fun _ hk => hk.2) (.bool ((rd_T23 l0 x21_1).f6))) (fun _ hk => hk.2) (.int .i64 ((rd_T23 l0 x21_1).f7))) (fun _ h_ => h_.1))) hb); replace BK293 := Aside0.mk (blk_below (g := gb293) (o := .cells #[.int .i64 a1_0, .int .i64 a1_1, .int .i64 a1_2, .int .i64 a1_3, .int .i64 a1_4, .int .i64 a1_5, .int .i64 a1_6, .int .i64 a1_7, .int .i64 a1_8, .int .i64 a1_9, .int .i64 a1_10, .int .i64 a1_11, .int .i64 a1_12, .int .i64 a1_13, .int .i64 a1_14] 53 (0, 0)) (by repeat (first | (with_reducible first | exact BK293.out | refine blk_drewN ?_ _ | refine blk_drew ?_ | refine blk_alloc ?_ _) | refine blk_far ?_ NB293_297.out _ | exact BK293.out)) hb); replace BK297 := Aside0.mk (blk_below (g := gb297) (o := .cells #[.int .i64 ((rd_T23 l0 x21_1).f0), .int .i64 ((rd_T23 l0 x21_1).f1), .int .i64 ((rd_T23 l0 x21_1).f2), .int .i64 ((rd_T23 l0 x21_1).f3), .int .i64 ((rd_T23 l0 x21_1).f4), .int .i64 ((rd_T23 l0 x21_1).f5), .bool ((rd_T23 l0 x21_1).f6), .int .i64 ((rd_T23 l0 x21_1).f7)] 23 (0, 0)) (by exact bto (bput (bput (bput (bput (bput (bput (bput (bput (BK297.out) _ _) _ _) _ _) _ _) _ _) _ _) _ _) _ _) rfl) hb); replace HB := Aside0.mk (below_step (by repeat (first | (with_reducible first | exact HB.out | apply below_alloc | apply pw_below_drewN | apply below_drew1 | refine below_set ?_ (Aside0.out (by assumption))) | exact HB.out)) hb); (try clear hb); (try clear hb2); (try clear hk); (try clear hi)))
         go_roundg k1
         case measure => have := HK1.out; omega
         case rel => exact ⟨(x4_1), (wrap64 (x21_1 + 1)), (by first | rfl | (simp; done) | (simp [*]; done)), H', ⟨by have := HK1.out; omega⟩, ⟨by (with_reducible repeat (first | apply Kd.R_alloc | apply Kd.R_drewN | apply Kd.R_drew)); exact HO_4.out⟩, BK293, ⟨by repeat (first | (with_reducible first | exact HB.out | apply below_alloc | apply pw_below_drewN | apply below_drew1 | refine below_set ?_ (Aside0.out (by assumption))) | exact HB.out)⟩⟩
       ·rw [if_neg c13] at H
        exact absurd H (by simp)
      ·rw [if_neg c12] at H
       exact absurd H (by simp)
     ·rw [if_neg c11] at H
      have c11b0 : decide (x21_1 < (l0.length : Int)) = false := decide_eq_false c11
      clear c11
      simp only [Option.some.injEq, Prod.mk.injEq] at H
      obtain ⟨rfl, rfl⟩ := H
      go_wp2
      go_ret2
      exact ⟨_, by first | rfl | (simp [errW_none, errW_some] <;> rfl) | (simp [*, errW_none, errW_some] <;> rfl), by (with_reducible repeat (first | apply Kd.R_alloc | apply Kd.R_drewN | apply Kd.R_drew)); exact HO_4.out, by repeat (first | (with_reducible first | exact HB.out | apply below_alloc | apply pw_below_drewN | apply below_drew1 | refine below_set ?_ (Aside0.out (by assumption))) | exact HB.out)⟩
  ·replace c6 := Bool.eq_false_iff.mpr c6
   subst c6
   have H1 : (some (([] : List Int), 3)) = some (r1, r2) := by rw [if_neg (show ¬ (false = true) by decide)] at H; exact H
   clear H
   have H := H1
   clear H1
   simp only [Option.some.injEq, Prod.mk.injEq] at H
   obtain ⟨rfl, rfl⟩ := H
   go_enter Try.func30, Try.ntmps30
   go_wp2_with (first | ((with_reducible refine gate_dst (N := 3) rfl ?_); refine box_event ?hg (N := 3) ?hd (cs := #[.int .i64 a1_0, .int .i64 a1_1, .int .i64 a1_2, .int .i64 a1_3, .int .i64 a1_4, .int .i64 a1_5, .int .i64 a1_6, .int .i64 a1_7, .int .i64 a1_8, .int .i64 a1_9, .int .i64 a1_10, .int .i64 a1_11, .int .i64 a1_12, .int .i64 a1_13, .int .i64 a1_14]) (t := 53) ?hr ?_; (case hd => rfl); (case hg => rfl); (case hr => first | (go_simp; done) | (go_simp; rfl)); intro gb293 hg w28 hbox hb; have BK293 := Aside0.mk (hbox); have GW293 := Aside0.mk ((by rw [hg]; exact (below_size HB.out) : w.heap.size ≤ gb293)); have GE293 := GW293; replace HB := Aside0.mk (below_step HB.out hb); clear hb hbox hg) | ((with_reducible refine gate_callee (f := 56) rfl ?_); refine goesL_ (some 10) rfl rfl Try.func56 (by kernel_rfl) rfl #[.slice A0 l0.length c0] rfl (by (try simp only [List.map_toArray, List.map_cons, List.map_nil]); first | done | rfl | (simp only [List.length_drop, List.length_take]; rfl)) ?_; (with_reducible refine (thread_checkTable.calls k _ _ l0 t294 _ ?side1 ?side2 A3.out).mono ?_); (case side1 => repeat (first | exact (Kd.C_below HR0.out HB.out) | (with_reducible refine Kd.C_alloc ?_ _) | (with_reducible refine Kd.C_drewN ?_ _) | (with_reducible refine Kd.C_drew ?_))); (case side2 => exact HC0.out); rintro e w29 ⟨rfl, hb⟩; refine ⟨_, rfl, ?_⟩; replace BK293 := Aside0.mk (blk_below (g := gb293) (o := .cells #[.int .i64 a1_0, .int .i64 a1_1, .int .i64 a1_2, .int .i64 a1_3, .int .i64 a1_4, .int .i64 a1_5, .int .i64 a1_6, .int .i64 a1_7, .int .i64 a1_8, .int .i64 a1_9, .int .i64 a1_10, .int .i64 a1_11, .int .i64 a1_12, .int .i64 a1_13, .int .i64 a1_14] 53 (0, 0)) (by repeat (first | (with_reducible first | exact BK293.out | refine blk_drewN ?_ _ | refine blk_drew ?_ | refine blk_alloc ?_ _) | exact BK293.out)) hb); replace HB := Aside0.mk (below_step (by repeat (first | (with_reducible first | exact HB.out | apply below_alloc | apply pw_below_drewN | apply below_drew1 | refine below_set ?_ (Aside0.out (by assumption))) | exact HB.out)) hb); (try clear hb); (try clear hb2); (try clear hk); (try clear hi); obtain ⟨hcz30_0, hcz30_1, hcz30_2, hcz30_3, hcz30_4, hcz30_5, hcz30_6, hcz30_7, hcz30_8, hcz30_9, hcz30_10, hcz30_11, hcz30_12, hcz30_13, hcz30_14⟩ := bc15 BK293.out; obtain ⟨hfz30_0, hfz30_1, hfz30_2, hfz30_3, hfz30_4, hfz30_5, hfz30_6, hfz30_7, hfz30_8, hfz30_9, hfz30_10, hfz30_11, hfz30_12, hfz30_13, hfz30_14⟩ := bf15 BK293.out) | ((with_reducible refine gate_callee (f := 57) rfl ?_); refine goesL_ (some 17) rfl rfl Try.func57 (by kernel_rfl) rfl #[.agg #[.int .i64 a1_0, .int .i64 a1_1, .int .i64 a1_2, .int .i64 a1_3, .int .i64 a1_4, .int .i64 a1_5, .int .i64 a1_6, .int .i64 a1_7, .int .i64 a1_8, .int .i64 a1_9, .int .i64 a1_10, .int .i64 a1_11, .int .i64 a1_12, .int .i64 a1_13, .int .i64 a1_14]] rfl (by (try simp only [List.map_toArray, List.map_cons, List.map_nil]); first | done | rfl | (simp only [List.length_drop, List.length_take]; rfl)) ?_; (with_reducible refine (thread_isSeen.calls a1_0 a1_1 a1_2 a1_3 a1_4 a1_5 a1_6 a1_7 a1_8 a1_9 a1_10 a1_11 a1_12 a1_13 a1_14 false _ A5.out).mono ?_); rintro e w31 ⟨rfl, hb⟩; refine ⟨_, rfl, ?_⟩; replace BK293 := Aside0.mk (blk_below (g := gb293) (o := .cells #[.int .i64 a1_0, .int .i64 a1_1, .int .i64 a1_2, .int .i64 a1_3, .int .i64 a1_4, .int .i64 a1_5, .int .i64 a1_6, .int .i64 a1_7, .int .i64 a1_8, .int .i64 a1_9, .int .i64 a1_10, .int .i64 a1_11, .int .i64 a1_12, .int .i64 a1_13, .int .i64 a1_14] 53 (0, 0)) (by repeat (first | (with_reducible first | exact BK293.out | refine blk_drewN ?_ _ | refine blk_drew ?_ | refine blk_alloc ?_ _) | exact BK293.out)) hb); replace HB := Aside0.mk (below_step (by repeat (first | (with_reducible first | exact HB.out | apply below_alloc | apply pw_below_drewN | apply below_drew1 | refine below_set ?_ (Aside0.out (by assumption))) | exact HB.out)) hb); (try clear hb); (try clear hb2); (try clear hk); (try clear hi)))
   go_ret2
   exact ⟨_, by first | rfl | (simp [errW_none, errW_some] <;> rfl) | (simp [*, errW_none, errW_some] <;> rfl), by first | exact Kd.R_nil _ _ _ _ _ | exact Kd.N_nil _ _ _ _ _ | exact Kd.V_nil _ _ _ _ _ | exact Kd.Q_nil _ _ _ _ _ | exact Kd.S_nil _ _ _ _ _, by repeat (first | (with_reducible first | exact HB.out | apply below_alloc | apply pw_below_drewN | apply below_drew1 | refine below_set ?_ (Aside0.out (by assumption))) | exact HB.out)⟩
 ·rw [if_neg c4] at H
  have c4b0 : (t294 == 0) = false := beq_eq_false_iff_ne.mpr c4
  have c4b1 : (t294 != 0) = true := bne_iff_ne.mpr c4
  simp only [Option.some.injEq, Prod.mk.injEq] at H
  obtain ⟨rfl, rfl⟩ := H
  go_enter Try.func30, Try.ntmps30
  go_wp2_with (first | ((with_reducible refine gate_dst (N := 3) rfl ?_); refine box_event ?hg (N := 3) ?hd (cs := #[.int .i64 a1_0, .int .i64 a1_1, .int .i64 a1_2, .int .i64 a1_3, .int .i64 a1_4, .int .i64 a1_5, .int .i64 a1_6, .int .i64 a1_7, .int .i64 a1_8, .int .i64 a1_9, .int .i64 a1_10, .int .i64 a1_11, .int .i64 a1_12, .int .i64 a1_13, .int .i64 a1_14]) (t := 53) ?hr ?_; (case hd => rfl); (case hg => rfl); (case hr => first | (go_simp; done) | (go_simp; rfl)); intro gb293 hg w32 hbox hb; have BK293 := Aside0.mk (hbox); have GW293 := Aside0.mk ((by rw [hg]; exact (below_size HB.out) : w.heap.size ≤ gb293)); have GE293 := GW293; replace HB := Aside0.mk (below_step HB.out hb); clear hb hbox hg) | ((with_reducible refine gate_callee (f := 56) rfl ?_); refine goesL_ (some 10) rfl rfl Try.func56 (by kernel_rfl) rfl #[.slice A0 l0.length c0] rfl (by (try simp only [List.map_toArray, List.map_cons, List.map_nil]); first | done | rfl | (simp only [List.length_drop, List.length_take]; rfl)) ?_; (with_reducible refine (thread_checkTable.calls k _ _ l0 t294 _ ?side1 ?side2 A3.out).mono ?_); (case side1 => repeat (first | exact (Kd.C_below HR0.out HB.out) | (with_reducible refine Kd.C_alloc ?_ _) | (with_reducible refine Kd.C_drewN ?_ _) | (with_reducible refine Kd.C_drew ?_))); (case side2 => exact HC0.out); rintro e w33 ⟨rfl, hb⟩; refine ⟨_, rfl, ?_⟩; replace BK293 := Aside0.mk (blk_below (g := gb293) (o := .cells #[.int .i64 a1_0, .int .i64 a1_1, .int .i64 a1_2, .int .i64 a1_3, .int .i64 a1_4, .int .i64 a1_5, .int .i64 a1_6, .int .i64 a1_7, .int .i64 a1_8, .int .i64 a1_9, .int .i64 a1_10, .int .i64 a1_11, .int .i64 a1_12, .int .i64 a1_13, .int .i64 a1_14] 53 (0, 0)) (by repeat (first | (with_reducible first | exact BK293.out | refine blk_drewN ?_ _ | refine blk_drew ?_ | refine blk_alloc ?_ _) | exact BK293.out)) hb); replace HB := Aside0.mk (below_step (by repeat (first | (with_reducible first | exact HB.out | apply below_alloc | apply pw_below_drewN | apply below_drew1 | refine below_set ?_ (Aside0.out (by assumption))) | exact HB.out)) hb); (try clear hb); (try clear hb2); (try clear hk); (try clear hi)))
  go_ret2
  exact ⟨_, by first | rfl | (simp [errW_none, errW_some] <;> rfl) | (simp [*, errW_none, errW_some] <;> rfl), by first | exact Kd.R_nil _ _ _ _ _ | exact Kd.N_nil _ _ _ _ _ | exact Kd.V_nil _ _ _ _ _ | exact Kd.Q_nil _ _ _ _ _ | exact Kd.S_nil _ _ _ _ _, by repeat (first | (with_reducible first | exact HB.out | apply below_alloc | apply pw_below_drewN | apply below_drew1 | refine below_set ?_ (Aside0.out (by assumption))) | exact HB.out)⟩

end Go.Proofs.Yticbhgjenidjlaa.T
