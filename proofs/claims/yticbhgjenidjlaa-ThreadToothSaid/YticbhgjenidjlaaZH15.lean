-- cut down, squeezed and laid together by pack.py (a program of this repository) out of this seat's texts
import Derived.RangeFuncNested
import Derived.RangeFuncBound
import Derived.RangeFuncCalls
import Derived.RangeFuncLeaves
import Derived.Shelf.Abstract
import Derived.Shelf.RegionOpen
import Derived.WalkKit
import Derived.OwnWalkIn
import Derived.TacticsInMore
import Derived.LoopNIn
import Derived.LoopIn
import Derived.ChangeKeysEq
import Derived.Below
import Derived.Deep.Draws
import Derived.Deep.AppendLies
import Derived.Maps.AppendAt
import Derived.OwnWalk
import Derived.Laws.BytesArg
import Derived.Laws.MakeOwn
import Derived.Laws.OwnMore
import Derived.Deep.OwnRows
import Derived.Tactics
import Derived.Lib.ConvBytes
import Derived.Laws.Slices
import Derived.KernelRfl
import Derived.RowKit3
import Derived.Deep.LoopGhost
import Derived.Deep.QuietTactic
import Derived.BigQuiet
import Derived.WideLaws
import Derived.Deep.DeepCutAuto
import Derived.Deep.CutBlock
import Derived.Deep.RegionHeld3
import Derived.Laws.Rows
import Derived.Lib.AppendStr
import Derived.ArgAppend
import Derived.Laws.IdiomCopy
import Derived.OrdersHeld
import Derived.Laws.BitsLemmas
import Derived.RowKit
import Derived.Test.YticbhgjenidjlaaProg
import Derived.Laws.StructEq
import Derived.Deep.RegionWith
import Derived.StillTailTactics
import Derived.Test.YticbhgjenidjlaaZH9
import Derived.Test.YticbhgjenidjlaaZH14
import Derived.Test.YticbhgjenidjlaaZH3
import Derived.Test.YticbhgjenidjlaaZH12
import Derived.Test.YticbhgjenidjlaaZH13
import Derived.Test.YticbhgjenidjlaaZH7
import Derived.Test.YticbhgjenidjlaaZH4
import Derived.Test.YticbhgjenidjlaaZH6
import Derived.Test.YticbhgjenidjlaaZH5
import Derived.Test.YticbhgjenidjlaaZH2
import Derived.Test.YticbhgjenidjlaaZH1
import Derived.Test.YticbhgjenidjlaaZH11
import Derived.Test.YticbhgjenidjlaaZH8
import Derived.Test.YticbhgjenidjlaaZH10
namespace Go.Proofs.Yticbhgjenidjlaa.T
open Go.RowKit Go.Shelf Go.Proofs.YticbhgjenidjlaaW.PrintWords Go.Proofs.YticbhgjenidjlaaW.PrintLast Go.Proofs.YticbhgjenidjlaaW.PrintMore
set_option linter.unusedVariables false
set_option linter.unusedSimpArgs false
attribute [local go_sem] Oper.semAt_some

abbrev Val3 := Int × Int × Int
def enc3 (x : Val3) : Array Value := #[.agg #[.int .i64 x.1, .int .i64 x.2.1, .int .i64 x.2.2]]
set_option maxRecDepth 100000 in
set_option maxHeartbeats 4000000 in
theorem values_1_in (F : Fence) (n : Nat) (h80 : F.fn 80) (hro : F.round = none) (hn : 1 ≤ n) (l b1 b2 : Nat) (f0 f1 f2 f3 f4 f5 : Int) (f6 : Bool) (f7 : Int) (s0 s1 s2 s3 s4 s5 s6 s7 s8 s9 s10 s11 s12 s13 s14 : Int) (J Jx : List Val3 → World → Prop)
  (W : World) (hJ : AbidesFrom W.heap.size J)
  (hY : ∀ pre x W, J pre W → pre.length < 7 → YieldAt F (n - 1) Try.prog l (enc3 x) W fun e W' =>
   (e = .returned (.bool true) ∧ J (pre ++ [x]) W' ∧ True) ∨ (e = .returned (.bool false) ∧ Jx (pre ++ [x]) W'))
  (hb1 : W.heap[b1]? = some (.cells #[.int .i64 f0, .int .i64 f1, .int .i64 f2, .int .i64 f3, .int .i64 f4, .int .i64 f5, .bool f6, .int .i64 f7] 96 (0, 0)))
  (hb2 : W.heap[b2]? = some (.cells #[.int .i64 s0, .int .i64 s1, .int .i64 s2, .int .i64 s3, .int .i64 s4, .int .i64 s5, .int .i64 s6, .int .i64 s7, .int .i64 s8, .int .i64 s9, .int .i64 s10, .int .i64 s11, .int .i64 s12, .int .i64 s13, .int .i64 s14] 53 (0, 0)))
  (h0 : J [] W) :
  CallsIn F n Try.prog 80 #[.func (.yield l) #[] #[], .pointer (some ⟨b1, 0, none⟩), .pointer (some ⟨b2, 0, none⟩)] W fun e W' => (∃ v, e = .returned v) ∧
   ((∃ ys, ys = [(f0, s0, s1), (f1, s2, s3), (f2, s4, s5), (f3, s6, s7), (f4, s8, s9), (f5, s10, s11), (f7, s12, s13)] ∧ J ys W') ∨
    (∃ pre, pre <+: [(f0, s0, s1), (f1, s2, s3), (f2, s4, s5), (f3, s6, s7), (f4, s8, s9), (f5, s10, s11), (f7, s12, s13)] ∧ Jx pre W')) := by
 have hc0 : W.cell? ⟨b1, 0, none⟩ = some (.int .i64 f0) := (blk_cell hb1 0).trans rfl
 have hc1 : W.cell? ⟨b1, 1, none⟩ = some (.int .i64 f1) := (blk_cell hb1 1).trans rfl
 have hc2 : W.cell? ⟨b1, 2, none⟩ = some (.int .i64 f2) := (blk_cell hb1 2).trans rfl
 have hc3 : W.cell? ⟨b1, 3, none⟩ = some (.int .i64 f3) := (blk_cell hb1 3).trans rfl
 have hc4 : W.cell? ⟨b1, 4, none⟩ = some (.int .i64 f4) := (blk_cell hb1 4).trans rfl
 have hc5 : W.cell? ⟨b1, 5, none⟩ = some (.int .i64 f5) := (blk_cell hb1 5).trans rfl
 have hc7 : W.cell? ⟨b1, 7, none⟩ = some (.int .i64 f7) := (blk_cell hb1 7).trans rfl
 have hd0 : W.cell? ⟨b2, 0, none⟩ = some (.int .i64 s0) := (blk_cell hb2 0).trans rfl
 have hd1 : W.cell? ⟨b2, 1, none⟩ = some (.int .i64 s1) := (blk_cell hb2 1).trans rfl
 have hd2 : W.cell? ⟨b2, 2, none⟩ = some (.int .i64 s2) := (blk_cell hb2 2).trans rfl
 have hd3 : W.cell? ⟨b2, 3, none⟩ = some (.int .i64 s3) := (blk_cell hb2 3).trans rfl
 have hd4 : W.cell? ⟨b2, 4, none⟩ = some (.int .i64 s4) := (blk_cell hb2 4).trans rfl
 have hd5 : W.cell? ⟨b2, 5, none⟩ = some (.int .i64 s5) := (blk_cell hb2 5).trans rfl
 have hd6 : W.cell? ⟨b2, 6, none⟩ = some (.int .i64 s6) := (blk_cell hb2 6).trans rfl
 have hd7 : W.cell? ⟨b2, 7, none⟩ = some (.int .i64 s7) := (blk_cell hb2 7).trans rfl
 have hd8 : W.cell? ⟨b2, 8, none⟩ = some (.int .i64 s8) := (blk_cell hb2 8).trans rfl
 have hd9 : W.cell? ⟨b2, 9, none⟩ = some (.int .i64 s9) := (blk_cell hb2 9).trans rfl
 have hd10 : W.cell? ⟨b2, 10, none⟩ = some (.int .i64 s10) := (blk_cell hb2 10).trans rfl
 have hd11 : W.cell? ⟨b2, 11, none⟩ = some (.int .i64 s11) := (blk_cell hb2 11).trans rfl
 have hd12 : W.cell? ⟨b2, 12, none⟩ = some (.int .i64 s12) := (blk_cell hb2 12).trans rfl
 have hd13 : W.cell? ⟨b2, 13, none⟩ = some (.int .i64 s13) := (blk_cell hb2 13).trans rfl
 clear hb1 hb2
 have hu53 := Try.underlying53
 have hu96 := Try.underlying96
 have hu43 := Try.underlying43
 have hu23 := Try.underlying23
 have hu123 := Try.underlying123
 have hu131 := Try.underlying131
 refine callsIn_of_wp Try.func80 rfl h80 ?_ hro
 simp only [Try.ntmps80, List.size_toArray, List.length_cons, List.length_nil, Nat.reduceAdd, Nat.reduceSub, Array.replicate_succ, Array.replicate_zero, List.push_toArray, List.append_toArray, List.nil_append, List.cons_append]
 gi_wp2
 clear hc0 hc1 hc2 hc3 hc4 hc5 hc7 hd0 hd1 hd2 hd3 hd4 hd5 hd6 hd7 hd8 hd9 hd10 hd11 hd12 hd13
 obtain ⟨L, hL⟩ : ∃ L : List Val3, [(f0, s0, s1), (f1, s2, s3), (f2, s4, s5), (f3, s6, s7), (f4, s8, s9), (f5, s10, s11), (f7, s12, s13)] = L := ⟨_, rfl⟩
 have hlen : L.length = 7 := by rw [← hL]; rfl
 have hidx : ∀ k : Nat, k < 7 → ∃ x : Val3, L[k]? = some x ∧ ∀ w, (Instr.index 131 (.agg #[.int .i64 f0, .int .i64 s0, .int .i64 s1, .int .i64 f1, .int .i64 s2, .int .i64 s3, .int .i64 f2, .int .i64 s4, .int .i64 s5, .int .i64 f3, .int .i64 s6, .int .i64 s7, .int .i64 f4, .int .i64 s8, .int .i64 s9, .int .i64 f5, .int .i64 s10, .int .i64 s11, .int .i64 f7, .int .i64 s12, .int .i64 s13]) (.int .i64 (k : Int))).run Try.prog w = .ok (.agg #[.int .i64 x.1, .int .i64 x.2.1, .int .i64 x.2.2]) w := by
  intro k hk
  rw [← hL]
  obtain rfl | rfl | rfl | rfl | rfl | rfl | rfl : k = 0 ∨ k = 1 ∨ k = 2 ∨ k = 3 ∨ k = 4 ∨ k = 5 ∨ k = 6 := by omega
  all_goals exact ⟨_, rfl, fun w => by kernel_rfl⟩
 have HL := hid hlen
 have HI := hid hidx
 have HJ := hid hJ
 have HY := hid hY
 have H0 := hid h0
 have HE := hid hL
 clear hL hlen hidx hJ hY h0
 gi_loopw [49] (fun i wr => ∃ k : Nat, k ≤ 7 ∧ i = .int .i64 (k : Int) ∧ Hid (J (L.take k) wr) ∧ True) (fun i _ => 7 - (intOf i).toNat)
 case atStart => exact ⟨0, by omega, rfl, H0, trivial⟩
 case round =>
  obtain ⟨k, hk, rfl, HJk, _⟩ := hrel
  by_cases hlt : k < 7
  ·obtain ⟨x, hx, hix⟩ := HI.out k hlt
   have htake : L.take k ++ [x] = L.take (k + 1) := by
    have hk' : k < L.length := by have := HL.out; omega
    rw [List.take_succ_eq_append_getElem hk']; congr 2
    rw [List.getElem?_eq_getElem hk'] at hx; exact (Option.some.inj hx).symm
   have HX := hid htake
   clear hx htake
   have hJ2 := HJ.out _ _ (wr.alloc (.cells #[.int .i64 x.1, .int .i64 x.2.1, .int .i64 x.2.2] 123)) none HJk.out (World.grownBy_alloc _ _ none) (fun r e => by cases e)
   obtain ⟨fn, tmps, assign, body, hy, hR⟩ := HY.out (L.take k) x _ hJ2 (by rw [List.length_take]; omega)
   have HRR := hid hR
   clear hR hJ2 HJk
   dsimp only [enc3] at hy
   gi_wp2
   refine HRR.out.mono ?_
   rintro e W3 (⟨rfl, hJ3, _⟩ | ⟨rfl, hJx3⟩)
   ·have HJ3 := hid hJ3
    clear hJ3
    gi_wp2
    go_roundw
    case rel => exact ⟨k + 1, by omega, by go_num, by rw [← HX.out]; exact HJ3.out, trivial⟩
    case measure => simp [intOf]; omega
   ·have HJ3 := hid hJx3
    clear hJx3
    gi_wp2
    refine bodyPost_ret (results_none rfl _ _ _) rfl ?_
    exact ⟨⟨_, rfl⟩, .inr ⟨_, by rw [HE.out, HX.out]; exact List.take_prefix _ _, HJ3.out⟩⟩
  ·gi_wp2
   go_end0
   refine ⟨⟨_, rfl⟩, .inl ⟨L, HE.out.symm, ?_⟩⟩
   have := HJk.out
   rwa [List.take_of_length_le (by have := HL.out; omega)] at this
end Go.Proofs.Yticbhgjenidjlaa.T
namespace Go.Proofs.Yticbhgjenidjlaa.T
open Go.RowKit Go.Shelf Go.Proofs.YticbhgjenidjlaaW.PrintWords Go.Proofs.YticbhgjenidjlaaW.PrintLast Go.Proofs.YticbhgjenidjlaaW.PrintMore
set_option linter.unusedVariables false
set_option linter.unusedSimpArgs false
attribute [local go_sem] Oper.semAt_some

theorem blk_far2 {w : World} {D : Nat} {o : List Deferred} (h : w.heap[D]? = some (.deferred (some o))) (p : Addr) (v : Value) : (w.setCell p v).heap[D]? = some (.deferred (some o)) :=
 (KeepsOthers.setCell w p v).same D _ h rfl
theorem values_calls (f0 f1 f2 f3 f4 f5 : Int) (f6 : Bool) (f7 : Int) (s0 s1 s2 s3 s4 s5 s6 s7 s8 s9 s10 s11 s12 s13 s14 : Int) (w : World) :
  Calls Try.prog 72 #[.agg #[.int .i64 f0, .int .i64 f1, .int .i64 f2, .int .i64 f3, .int .i64 f4, .int .i64 f5, .bool f6, .int .i64 f7], .agg #[.int .i64 s0, .int .i64 s1, .int .i64 s2, .int .i64 s3, .int .i64 s4, .int .i64 s5, .int .i64 s6, .int .i64 s7, .int .i64 s8, .int .i64 s9, .int .i64 s10, .int .i64 s11, .int .i64 s12, .int .i64 s13, .int .i64 s14]] w fun e w' => e = .returned (.func (.func 80) #[] #[.pointer (some ⟨w.heap.size, 0, none⟩), .pointer (some ⟨w.heap.size + 1, 0, none⟩)]) ∧
   (w.alloc (.cells #[.int .i64 f0, .int .i64 f1, .int .i64 f2, .int .i64 f3, .int .i64 f4, .int .i64 f5, .bool f6, .int .i64 f7] 96)).alloc (.cells #[.int .i64 s0, .int .i64 s1, .int .i64 s2, .int .i64 s3, .int .i64 s4, .int .i64 s5, .int .i64 s6, .int .i64 s7, .int .i64 s8, .int .i64 s9, .int .i64 s10, .int .i64 s11, .int .i64 s12, .int .i64 s13, .int .i64 s14] 53) = w' := by
 go_enter Try.func72, Try.ntmps72
 go_wp2
 go_ret
 exact ⟨rfl, rfl⟩

theorem values_stops (n : Nat) (hn : 1 ≤ n) (b1 b2 : Nat) (f0 f1 f2 f3 f4 f5 : Int) (f6 : Bool) (f7 : Int) (s0 s1 s2 s3 s4 s5 s6 s7 s8 s9 s10 s11 s12 s13 s14 : Int) (w : World)
  (hb1 : w.heap[b1]? = some (.cells #[.int .i64 f0, .int .i64 f1, .int .i64 f2, .int .i64 f3, .int .i64 f4, .int .i64 f5, .bool f6, .int .i64 f7] 96 (0, 0))) (hb2 : w.heap[b2]? = some (.cells #[.int .i64 s0, .int .i64 s1, .int .i64 s2, .int .i64 s3, .int .i64 s4, .int .i64 s5, .int .i64 s6, .int .i64 s7, .int .i64 s8, .int .i64 s9, .int .i64 s10, .int .i64 s11, .int .i64 s12, .int .i64 s13, .int .i64 s14] 53 (0, 0))) :
  SeqStopsK Fence.wide n Try.prog 80 #[.pointer (some ⟨b1, 0, none⟩), .pointer (some ⟨b2, 0, none⟩)] enc3 (fun _ _ => True) (fun ys => ys = [(f0, s0, s1), (f1, s2, s3), (f2, s4, s5), (f3, s6, s7), (f4, s8, s9), (f5, s10, s11), (f7, s12, s13)]) (fun pre => pre <+: [(f0, s0, s1), (f1, s2, s3), (f2, s4, s5), (f3, s6, s7), (f4, s8, s9), (f5, s10, s11), (f7, s12, s13)]) 7 w :=
 fun l J Jx W hW hJ _ hY h0 => values_1_in Fence.wide n trivial rfl hn l b1 b2 f0 f1 f2 f3 f4 f5 f6 f7 s0 s1 s2 s3 s4 s5 s6 s7 s8 s9 s10 s11 s12 s13 s14 J Jx W hJ hY (blk_below hb1 hW) (blk_below hb2 hW) h0

def okV (x : Val3) : Bool := !(outside x.2.1 x.2.2 x.1)
def thread_form_agrees.f (a0_0 a0_1 a0_2 a0_3 a0_4 a0_5 : Int) (a0_6 : Bool) (a0_7 : Int) (s0 s1 s2 s3 s4 s5 s6 s7 s8 s9 s10 s11 s12 s13 s14 : Int) : Option Bool :=
 some ([(a0_0, s0, s1), (a0_1, s2, s3), (a0_2, s4, s5), (a0_3, s6, s7), (a0_4, s8, s9), (a0_5, s10, s11), (a0_7, s12, s13)].all okV && (s14 == 0 || s14 == (if a0_6 then 2 else 1)))
set_option maxRecDepth 100000 in
set_option maxHeartbeats 4000000 in
theorem thread_form_agrees.calls (f0 f1 f2 f3 f4 f5 : Int) (f6 : Bool) (f7 : Int) (s0 s1 s2 s3 s4 s5 s6 s7 s8 s9 s10 s11 s12 s13 s14 : Int) (r : Bool) (w : World) (h : thread_form_agrees.f f0 f1 f2 f3 f4 f5 f6 f7 s0 s1 s2 s3 s4 s5 s6 s7 s8 s9 s10 s11 s12 s13 s14 = some r) :
  Calls Try.prog 58 #[.agg #[.int .i64 f0, .int .i64 f1, .int .i64 f2, .int .i64 f3, .int .i64 f4, .int .i64 f5, .bool f6, .int .i64 f7], .agg #[.int .i64 s0, .int .i64 s1, .int .i64 s2, .int .i64 s3, .int .i64 s4, .int .i64 s5, .int .i64 s6, .int .i64 s7, .int .i64 s8, .int .i64 s9, .int .i64 s10, .int .i64 s11, .int .i64 s12, .int .i64 s13, .int .i64 s14]] w fun e w' => e = .returned (.bool r) ∧ Below w.heap.size w w' := by
 have HH := hid h
 clear h
 have hu53 := Try.underlying53
 have hu96 := Try.underlying96
 have hu43 := Try.underlying43
 have hu23 := Try.underlying23
 have hu123 := Try.underlying123
 refine (callsIn_wide (n := 6)).1 ?_
 refine callsIn_of_wp_marks Try.func58 rfl trivial ?_ rfl
 simp only [Try.ntmps58, List.size_toArray, List.length_cons, List.length_nil, Nat.reduceAdd, Nat.reduceSub, Array.replicate_succ, Array.replicate_zero, List.push_toArray, List.append_toArray, List.nil_append, List.cons_append]
 gi_wp2_with (refine ⟨trivial, ?_⟩; gi_at_call 72; refine (callsIn_wide.2 (values_calls f0 f1 f2 f3 f4 f5 f6 f7 s0 s1 s2 s3 s4 s5 s6 s7 s8 s9 s10 s11 s12 s13 s14 _)).mono ?_; rintro e w' ⟨rfl, rfl⟩)
 obtain ⟨W0, hW0⟩ : ∃ W0, ((((w.alloc (.cells #[.int .i64 f0, .int .i64 f1, .int .i64 f2, .int .i64 f3, .int .i64 f4, .int .i64 f5, .bool f6, .int .i64 f7] 96)).alloc (.cells #[.int .i64 s0, .int .i64 s1, .int .i64 s2, .int .i64 s3, .int .i64 s4, .int .i64 s5, .int .i64 s6, .int .i64 s7, .int .i64 s8, .int .i64 s9, .int .i64 s10, .int .i64 s11, .int .i64 s12, .int .i64 s13, .int .i64 s14] 53)).alloc (.cells #[.bool false] 4)).alloc (.cells #[.int .i64 f0, .int .i64 f1, .int .i64 f2, .int .i64 f3, .int .i64 f4, .int .i64 f5, .bool f6, .int .i64 f7] 96)).alloc (.cells #[.int .i64 s0, .int .i64 s1, .int .i64 s2, .int .i64 s3, .int .i64 s4, .int .i64 s5, .int .i64 s6, .int .i64 s7, .int .i64 s8, .int .i64 s9, .int .i64 s10, .int .i64 s11, .int .i64 s12, .int .i64 s13, .int .i64 s14] 53) = W0 := ⟨_, rfl⟩
 have hB0 : Below w.heap.size w W0 := by rw [← hW0]; exact (((((Below.refl _ w).alloc (Nat.le_refl _) _).alloc (by simp) _).alloc (by simp; omega) _).alloc (by simp; omega) _).alloc (by simp; omega) _
 have hz : W0.heap.size = w.heap.size + 5 := by rw [← hW0]; simp
 have hF : W0.heap[w.heap.size]? = some (.cells #[.int .i64 f0, .int .i64 f1, .int .i64 f2, .int .i64 f3, .int .i64 f4, .int .i64 f5, .bool f6, .int .i64 f7] 96 (0, 0)) := by rw [← hW0]; exact blk_alloc (blk_alloc (blk_alloc (blk_alloc (blk_new _ _) _) _) _) _
 have hS : W0.heap[w.heap.size + 1]? = some (.cells #[.int .i64 s0, .int .i64 s1, .int .i64 s2, .int .i64 s3, .int .i64 s4, .int .i64 s5, .int .i64 s6, .int .i64 s7, .int .i64 s8, .int .i64 s9, .int .i64 s10, .int .i64 s11, .int .i64 s12, .int .i64 s13, .int .i64 s14] 53 (0, 0)) := by rw [← hW0]; exact blk_alloc (blk_alloc (blk_alloc (by simpa using blk_new (w.alloc (.cells #[.int .i64 f0, .int .i64 f1, .int .i64 f2, .int .i64 f3, .int .i64 f4, .int .i64 f5, .bool f6, .int .i64 f7] 96)) _) _) _) _
 have hR : W0.heap[w.heap.size + 1 + 1]? = some (.cells #[.bool false] 4 (0, 0)) := by rw [← hW0]; exact blk_alloc (blk_alloc (by simpa using blk_new ((w.alloc (.cells #[.int .i64 f0, .int .i64 f1, .int .i64 f2, .int .i64 f3, .int .i64 f4, .int .i64 f5, .bool f6, .int .i64 f7] 96)).alloc (.cells #[.int .i64 s0, .int .i64 s1, .int .i64 s2, .int .i64 s3, .int .i64 s4, .int .i64 s5, .int .i64 s6, .int .i64 s7, .int .i64 s8, .int .i64 s9, .int .i64 s10, .int .i64 s11, .int .i64 s12, .int .i64 s13, .int .i64 s14] 53)) _) _) _
 have h3 : W0.heap[w.heap.size + 3]? = some (.cells #[.int .i64 f0, .int .i64 f1, .int .i64 f2, .int .i64 f3, .int .i64 f4, .int .i64 f5, .bool f6, .int .i64 f7] 96 (0, 0)) := by rw [← hW0]; exact blk_alloc (by simpa using blk_new (((w.alloc (.cells #[.int .i64 f0, .int .i64 f1, .int .i64 f2, .int .i64 f3, .int .i64 f4, .int .i64 f5, .bool f6, .int .i64 f7] 96)).alloc (.cells #[.int .i64 s0, .int .i64 s1, .int .i64 s2, .int .i64 s3, .int .i64 s4, .int .i64 s5, .int .i64 s6, .int .i64 s7, .int .i64 s8, .int .i64 s9, .int .i64 s10, .int .i64 s11, .int .i64 s12, .int .i64 s13, .int .i64 s14] 53)).alloc (.cells #[.bool false] 4)) _) _
 have h4 : W0.heap[w.heap.size + 4]? = some (.cells #[.int .i64 s0, .int .i64 s1, .int .i64 s2, .int .i64 s3, .int .i64 s4, .int .i64 s5, .int .i64 s6, .int .i64 s7, .int .i64 s8, .int .i64 s9, .int .i64 s10, .int .i64 s11, .int .i64 s12, .int .i64 s13, .int .i64 s14] 53 (0, 0)) := by rw [← hW0]; simpa using blk_new ((((w.alloc (.cells #[.int .i64 f0, .int .i64 f1, .int .i64 f2, .int .i64 f3, .int .i64 f4, .int .i64 f5, .bool f6, .int .i64 f7] 96)).alloc (.cells #[.int .i64 s0, .int .i64 s1, .int .i64 s2, .int .i64 s3, .int .i64 s4, .int .i64 s5, .int .i64 s6, .int .i64 s7, .int .i64 s8, .int .i64 s9, .int .i64 s10, .int .i64 s11, .int .i64 s12, .int .i64 s13, .int .i64 s14] 53)).alloc (.cells #[.bool false] 4)).alloc (.cells #[.int .i64 f0, .int .i64 f1, .int .i64 f2, .int .i64 f3, .int .i64 f4, .int .i64 f5, .bool f6, .int .i64 f7] 96)) _
 rw [hW0]
 clear hW0
 refine wpIn_rangeFunc_ownH rfl (by omega) (gf := 80) (lb := #[.pointer (some ⟨w.heap.size + 1 + 1 + 1, 0, none⟩), .pointer (some ⟨w.heap.size + 1 + 1 + 1 + 1, 0, none⟩)]) rfl trivial (enters_of Try.func80 (by kernel_rfl) rfl)
  (values_stops 5 (by omega) (w.heap.size + 3) (w.heap.size + 4) f0 f1 f2 f3 f4 f5 f6 f7 s0 s1 s2 s3 s4 s5 s6 s7 s8 s9 s10 s11 s12 s13 s14 W0 h3 h4) (fun _ _ => trivial) (fun _ _ _ _ _ _ _ _ => trivial) (Below.refl _ _) (fun _ => rfl)
  (fun pre W => Hid (pre.all okV = true) ∧ (W.heap[w.heap.size]? = some (.cells #[.int .i64 f0, .int .i64 f1, .int .i64 f2, .int .i64 f3, .int .i64 f4, .int .i64 f5, .bool f6, .int .i64 f7] 96 (0, 0)) ∧ W.heap[w.heap.size + 1]? = some (.cells #[.int .i64 s0, .int .i64 s1, .int .i64 s2, .int .i64 s3, .int .i64 s4, .int .i64 s5, .int .i64 s6, .int .i64 s7, .int .i64 s8, .int .i64 s9, .int .i64 s10, .int .i64 s11, .int .i64 s12, .int .i64 s13, .int .i64 s14] 53 (0, 0)) ∧ W.heap[w.heap.size + 1 + 1]? = some (.cells #[.bool false] 4 (0, 0))) ∧ Below w.heap.size w W)
  (fun c pre W => (c = .ret ∧ Hid (pre.all okV = false)) ∧ W.heap[w.heap.size + 1 + 1]? = some (.cells #[.bool false] 4 (0, 0)) ∧ Below w.heap.size w W)
  ((ownFrom_pure' _ _).and (((ownFrom_blk _ _ (fun _ => _) _).and ((ownFrom_blk _ _ (fun _ => _) _).and (ownFrom_blk _ _ (fun _ => _) _))).and (ownFrom_below (Nat.le_refl _) (by omega))))
  (fun c => (ownFrom_pure' _ _).and ((ownFrom_blk _ _ (fun _ => _) _).and (ownFrom_below (Nat.le_refl _) (by omega))))
  ⟨rfl, ⟨hF, hS, hR⟩, hB0⟩
  (fun x a' W => ∃ Bx, W.heap[Bx]? = some (.cells #[.int .i64 x.1, .int .i64 x.2.1, .int .i64 x.2.2] 123 (0, 0)) ∧ a' = { tmps := #[.agg #[.int .i64 f0, .int .i64 f1, .int .i64 f2, .int .i64 f3, .int .i64 f4, .int .i64 f5, .bool f6, .int .i64 f7], .agg #[.int .i64 s0, .int .i64 s1, .int .i64 s2, .int .i64 s3, .int .i64 s4, .int .i64 s5, .int .i64 s6, .int .i64 s7, .int .i64 s8, .int .i64 s9, .int .i64 s10, .int .i64 s11, .int .i64 s12, .int .i64 s13, .int .i64 s14], .pointer (some ⟨w.heap.size, 0, none⟩), .pointer (some ⟨w.heap.size + 1, 0, none⟩), .pointer (some ⟨w.heap.size + 1 + 1, 0, none⟩), .pointer (some ⟨Bx, 0, none⟩), .agg #[.int .i64 f0, .int .i64 f1, .int .i64 f2, .int .i64 f3, .int .i64 f4, .int .i64 f5, .bool f6, .int .i64 f7], .agg #[.int .i64 s0, .int .i64 s1, .int .i64 s2, .int .i64 s3, .int .i64 s4, .int .i64 s5, .int .i64 s6, .int .i64 s7, .int .i64 s8, .int .i64 s9, .int .i64 s10, .int .i64 s11, .int .i64 s12, .int .i64 s13, .int .i64 s14], .func (.func 80) #[] #[.pointer (some ⟨w.heap.size + 1 + 1 + 1, 0, none⟩), .pointer (some ⟨w.heap.size + 1 + 1 + 1 + 1, 0, none⟩)], .agg #[.int .i64 x.1, .int .i64 x.2.1, .int .i64 x.2.2], undef, undef, undef, undef, undef, undef, undef, undef, undef, undef, undef, undef, undef, undef, undef, undef, undef, undef, undef, undef, undef], defers := [] })
  (fun x a' _ X Y row hs hg hr => by obtain ⟨Bx, h2, h3⟩ := hs; exact ⟨Bx, ownFrom_blk _ Bx (fun (_ : Unit) => _) 123 () X Y row h2 hg hr, h3⟩)
  ?assign ?body ?done ?stop
 case assign =>
  rintro l pre x W K ⟨hp, ⟨hF, hS, hR⟩, hB⟩ hK
  have HK := hid hK
  have HB := hid hB
  have HQ := hid hp
  clear hK hB hp
  dsimp only [enc3]
  gi_wp2
  refine HK.out _ _ ((KeepsOthers.alloc _ _).from _) trivial ⟨HQ.out, ⟨blk_alloc hF _, blk_alloc hS _, blk_alloc hR _⟩, HB.out.alloc HB.out.size _⟩ ⟨W.heap.size, blk_new _ _, rfl⟩
 case body =>
  rintro l pre x a' W hl hrec ⟨hp, ⟨hF, hS, hR⟩, hB⟩ ⟨Bx, hX, rfl⟩ hlen
  have HB := hid hB
  have HQ := hid hp
  have HX := hid hX
  have hx0 : W.cell? ⟨Bx, 0, none⟩ = some (.int .i64 x.1) := (blk_cell hX 0).trans rfl
  have hx1 : W.cell? ⟨Bx, 1, none⟩ = some (.int .i64 x.2.1) := (blk_cell hX 1).trans rfl
  have hx2 : W.cell? ⟨Bx, 2, none⟩ = some (.int .i64 x.2.2) := (blk_cell hX 2).trans rfl
  have HF := hid hF
  have HS := hid hS
  have HR := hid hR
  clear hB hp hX hF hS hR
  cases hok : okV x with
  | true =>
   have HO := hid hok
   have HC := hid (fun (W1 : World) (h : W1.heap[W.heap.size]? = some (.cells #[.int .i64 x.1] 3 (0, 0))) => thread_within.calls x.2.1 x.2.2 (some ⟨W.heap.size, 0, none⟩) 1 [x.1] true W1 (C_one h) (by simp) (by simp [thread_within.f, ← hok, okV]))
   clear hok
   gi_wp2_with (refine ⟨trivial, ?_⟩; gi_at_call 43; refine (CallsIn.inRound l (callsIn_wide.2 (HC.out _ (blk_new _ _)))).mono ?_; rintro e w' ⟨rfl, hb'⟩; have HB' := hid hb'; clear hb')
   have hb2 : Below W.heap.size W w' := ((Below.refl _ _).alloc (Nat.le_refl _) _).trans (HB'.out.mono (by simp))
   refine ⟨(keeps_of_below hb2).from _, trivial, ?_, ⟨blk_below HF.out hb2, blk_below HS.out hb2, blk_below HR.out hb2⟩, HB.out.trans (hb2.mono HB.out.size)⟩
   show _ = _
   rw [List.all_append, HQ.out]; simp [HO.out]
  | false =>
   have HO := hid hok
   have HC := hid (fun (W1 : World) (h : W1.heap[W.heap.size]? = some (.cells #[.int .i64 x.1] 3 (0, 0))) => thread_within.calls x.2.1 x.2.2 (some ⟨W.heap.size, 0, none⟩) 1 [x.1] false W1 (C_one h) (by simp) (by simp [thread_within.f, ← hok, okV]))
   clear hok
   gi_wp2_with (refine ⟨trivial, ?_⟩; gi_at_call 43; refine (CallsIn.inRound l (callsIn_wide.2 (HC.out _ (blk_new _ _)))).mono ?_; rintro e w' ⟨rfl, hb'⟩; have HB2 := hid (((Below.refl W.heap.size W).alloc (Nat.le_refl _) _).trans (hb'.mono (by simp))); clear hb'; have HR2 := hid (blk_below HR.out HB2.out); have hr2 : w'.cell? ⟨w.heap.size + 1 + 1, 0, none⟩ = some (.bool false) := (blk_cell HR2.out 0).trans rfl; have hfr2 := blk_frozen HR2.out 0)
   refine ⟨(KeepsOthers.trans (keeps_of_below HB2.out) (KeepsOthers.setCell _ _ _)).from _, ⟨rfl, ?_⟩, by simpa using blk_set HR2.out 0 (.bool false), (HB.out.trans (HB2.out.mono HB.out.size)).setCell (p := ⟨w.heap.size + 1 + 1, 0, none⟩) (by simp; omega) _⟩
   show _ = _
   rw [List.all_append]; simp [HO.out]
 case done =>
  rintro D ys W hD rfl ⟨hp, ⟨hF, hS, hR⟩, hB⟩ hK
  have HB := hid hB
  have HQ := hid hp
  have HF := hid hF
  have HS := hid hS
  have HR := hid hR
  have HK := hid hK
  have hs14 : W.cell? ⟨w.heap.size + 1, 14, none⟩ = some (.int .i64 s14) := (blk_cell HS.out 14).trans rfl
  have hrr : W.cell? ⟨w.heap.size + 1 + 1, 0, none⟩ = some (.bool false) := (blk_cell HR.out 0).trans rfl
  have hfr := blk_frozen HR.out 0
  have HD := hid hD
  clear hB hp hF hS hR hK hD
  have fin : ∀ (b : Bool) (W' : World), Hid (b = r) → Hid (Below W.heap.size W W') → W'.frozen? ⟨w.heap.size + 1 + 1, 0, none⟩ = false →
    W'.heap[w.heap.size + 1 + 1]? = some (.cells #[.bool b] 4 (0, 0)) → W'.heap[D]? = some (.deferred (some [])) → True := fun _ _ _ _ _ _ _ => trivial
  clear fin
  have hf0 : W.cell? ⟨w.heap.size, 0, none⟩ = some (.int .i64 f0) := (blk_cell HF.out 0).trans rfl
  have hf1 : W.cell? ⟨w.heap.size, 1, none⟩ = some (.int .i64 f1) := (blk_cell HF.out 1).trans rfl
  have hf2 : W.cell? ⟨w.heap.size, 2, none⟩ = some (.int .i64 f2) := (blk_cell HF.out 2).trans rfl
  have hf3 : W.cell? ⟨w.heap.size, 3, none⟩ = some (.int .i64 f3) := (blk_cell HF.out 3).trans rfl
  have hf4 : W.cell? ⟨w.heap.size, 4, none⟩ = some (.int .i64 f4) := (blk_cell HF.out 4).trans rfl
  have hf5 : W.cell? ⟨w.heap.size, 5, none⟩ = some (.int .i64 f5) := (blk_cell HF.out 5).trans rfl
  have hf6 : W.cell? ⟨w.heap.size, 6, none⟩ = some (.bool f6) := (blk_cell HF.out 6).trans rfl
  have hf7 : W.cell? ⟨w.heap.size, 7, none⟩ = some (.int .i64 f7) := (blk_cell HF.out 7).trans rfl
  obtain ⟨q, hq⟩ : ∃ q, thread_form_hand.f f0 f1 f2 f3 f4 f5 f6 f7 = some q := ⟨_, rfl⟩
  have HQ2 := hid hq
  have HQ3 : Hid (q = if f6 then 2 else 1) := (Option.some.inj hq).symm
  clear hq
  have hall : Hid (List.all [(f0, s0, s1), (f1, s2, s3), (f2, s4, s5), (f3, s6, s7), (f4, s8, s9), (f5, s10, s11), (f7, s12, s13)] okV = true) := HQ
  have fin : ∀ (b : Bool) (W' : World), b = r → W'.heap[w.heap.size + 1 + 1]? = some (.cells #[.bool b] 4 (0, 0)) → Below w.heap.size w W' → W'.heap[D]? = some (.deferred (some [])) →
    ∃ v, Sem.run Try.prog (results Try.f58 #[]) W' = .ok v W' ∨ True := fun _ _ _ _ _ _ => ⟨undef, .inr trivial⟩
  clear fin
  by_cases h14 : s14 = 0
  ·have h14b : (s14 == 0) = true := beq_iff_eq.2 h14
   have HE := hid h14
   clear h14
   gi_wp2
   refine wpIn_wide.2 ?_
   refine wp_onlyN ?_
   go_still_tail 10, (by kernel_rfl)
   (try go_wp2)
   simp only [onlyN, Exit.then]
   gi_wp2
   have hK7 : (W.setCell ⟨w.heap.size + 1 + 1, 0, none⟩ (.bool true)).drew.heap[D]? = some (.deferred (some [])) := blk_drew (blk_far2 HK.out _ _)
   have hR7 : (W.setCell ⟨w.heap.size + 1 + 1, 0, none⟩ (.bool true)).drew.heap[w.heap.size + 1 + 1]? = some (.cells #[.bool true] 4 (0, 0)) := blk_drew (by simpa using blk_set HR.out 0 (.bool true))
   refine ⟨by simp, .inl ⟨_, _, rfl, run_takeDeferred hK7, ?_⟩⟩
   have hc5 := cell_kept ((blk_cell hR7 0).trans rfl) (grownBy_putObj' _ D (.deferred none)) (fun r e => by cases e; exact ⟨_, hK7, rfl⟩)
   refine ⟨.bool true, by simp [results, Try.f58, go_sem, hc5], ?_, (HB.out.trans (below_drew1 ((Below.refl w.heap.size W).setCell (p := ⟨w.heap.size + 1 + 1, 0, none⟩) (by simp; omega) _))).trans (belowK_b (w := w) (Nat.le_refl _) _ D _ _ (by have := HD.out; omega) hK7 rfl rfl)⟩
   have h := HH.out
   unfold thread_form_agrees.f at h
   rw [hall.out, h14b] at h
   rw [← Option.some.inj h]; rfl
  ·have h14b : (s14 == 0) = false := beq_eq_false_iff_ne.2 h14
   have HE := hid h14
   clear h14
   gi_wp2
   refine wpIn_wide.2 ?_
   refine wp_onlyN ?_
   refine start_ (n := 11) (S := fun w' => w'.cell? ⟨w.heap.size, 0, none⟩ = some (.int .i64 f0) ∧ w'.cell? ⟨w.heap.size, 1, none⟩ = some (.int .i64 f1) ∧ w'.cell? ⟨w.heap.size, 2, none⟩ = some (.int .i64 f2) ∧ w'.cell? ⟨w.heap.size, 3, none⟩ = some (.int .i64 f3) ∧ w'.cell? ⟨w.heap.size, 4, none⟩ = some (.int .i64 f4) ∧ w'.cell? ⟨w.heap.size, 5, none⟩ = some (.int .i64 f5) ∧ w'.cell? ⟨w.heap.size, 6, none⟩ = some (.bool f6) ∧ w'.cell? ⟨w.heap.size, 7, none⟩ = some (.int .i64 f7) ∧ w'.cell? ⟨w.heap.size + 1, 14, none⟩ = some (.int .i64 s14)) (ds := []) #[false, false, false, false, false, false, false, false, false, false, false] (by kernel_rfl) rfl rfl ⟨(blk_cell HF.out 0).trans rfl, (blk_cell HF.out 1).trans rfl, (blk_cell HF.out 2).trans rfl, (blk_cell HF.out 3).trans rfl, (blk_cell HF.out 4).trans rfl, (blk_cell HF.out 5).trans rfl, (blk_cell HF.out 6).trans rfl, (blk_cell HF.out 7).trans rfl, (blk_cell HS.out 14).trans rfl⟩ (fun hHeld => ?_)
   refine pure_ (i := 0) (N := (some 21)) (v := ?_) (a' := ?_) #[true, false, false, false, false, false, false, false, false, false, false] rfl rfl (by kernel_rfl) (fun _ _ _ h => h) (Or.inl ⟨by rfl, ?_⟩) ?_ ?_
   rotate_left
   ·intro w'
    go_simp
    with_reducible rfl
   rotate_left
   ·simp only [Act.put, List.setIfInBounds_toArray, List.set_cons_zero, List.set_cons_succ, i64_w, i32_w]
    rfl
   refine take_ (i := 1) (N := (some 22)) (v := ?_) (a' := ?_) #[true, true, false, false, false, false, false, false, false, false, false] rfl rfl (by kernel_rfl) (fun _ _ _ h => h) (Or.inl ⟨by rfl, ?_⟩) hHeld ?_ ?_
   rotate_left
   ·rintro w' ⟨c0, c1, c2, c3, c4, c5, c6, c7, c8⟩
    go_simp
    with_reducible rfl
   rotate_left
   ·simp only [Act.put, List.setIfInBounds_toArray, List.set_cons_zero, List.set_cons_succ, i64_w, i32_w]
    rfl
   refine pure_ (i := 2) (N := (some 23)) (v := ?_) (a' := ?_) #[true, true, true, false, false, false, false, false, false, false, false] rfl rfl (by kernel_rfl) (fun _ _ _ h => h) (Or.inl ⟨by rfl, ?_⟩) ?_ ?_
   rotate_left
   ·intro w'
    go_simp
    with_reducible rfl
   rotate_left
   ·simp only [Act.put, List.setIfInBounds_toArray, List.set_cons_zero, List.set_cons_succ, i64_w, i32_w]
    rfl
   refine pure_ (i := 3) (N := (some 24)) (v := ?_) (a' := ?_) #[true, true, true, true, false, false, false, false, false, false, false] rfl rfl (by kernel_rfl) (fun _ _ _ h => h) (Or.inl ⟨by rfl, ?_⟩) ?_ ?_
   rotate_left
   ·intro w'
    go_simp
    with_reducible rfl
   rotate_left
   ·simp only [Act.put, List.setIfInBounds_toArray, List.set_cons_zero, List.set_cons_succ, i64_w, i32_w]
    rfl
   refine pure_ (i := 4) (N := (some 25)) (v := ?_) (a' := ?_) #[true, true, true, true, true, false, false, false, false, false, false] rfl rfl (by kernel_rfl) (fun _ _ _ h => h) (Or.inl ⟨by rfl, ?_⟩) ?_ ?_
   rotate_left
   ·intro w'
    go_simp
    with_reducible rfl
   rotate_left
   ·simp only [Act.put, List.setIfInBounds_toArray, List.set_cons_zero, List.set_cons_succ, i64_w, i32_w]
    rfl
   refine take_ (i := 5) (N := (some 26)) (v := ?_) (a' := ?_) #[true, true, true, true, true, true, false, false, false, false, false] rfl rfl (by kernel_rfl) (fun _ _ _ h => h) (Or.inl ⟨by rfl, ?_⟩) hHeld ?_ ?_
   rotate_left
   ·rintro w' ⟨c0, c1, c2, c3, c4, c5, c6, c7, c8⟩
    go_simp
    with_reducible rfl
   rotate_left
   ·simp only [Act.put, List.setIfInBounds_toArray, List.set_cons_zero, List.set_cons_succ, i64_w, i32_w]
    rfl
   refine take_ (i := 6) (N := (some 27)) (v := ?_) (a' := ?_) #[true, true, true, true, true, true, true, false, false, false, false] rfl rfl (by kernel_rfl) (fun _ _ _ h => h) (Or.inl ⟨by rfl, ?_⟩) hHeld ?_ ?_
   rotate_left
   ·rintro w' ⟨c0, c1, c2, c3, c4, c5, c6, c7, c8⟩
    go_simp
    with_reducible rfl
   rotate_left
   ·simp only [Act.put, List.setIfInBounds_toArray, List.set_cons_zero, List.set_cons_succ, i64_w, i32_w]
    rfl
   refine one_ (i := 7) (N := (some 28)) #[true, true, true, true, true, true, true, true, false, false, false] rfl rfl (by kernel_rfl) (by decide) (fun K hK => ?_)
   refine goes_ Try.func73 (by kernel_rfl) rfl #[.agg #[.int .i64 f0, .int .i64 f1, .int .i64 f2, .int .i64 f3, .int .i64 f4, .int .i64 f5, .bool f6, .int .i64 f7]] (by rfl) rfl rfl (by (try simp only [List.map_toArray, List.map_cons, List.map_nil]); first | done | rfl) ?_
   with_reducible refine (thread_form_hand.calls f0 f1 f2 f3 f4 f5 f6 f7 q _ HQ2.out).mono ?_
   rintro e w6 ⟨rfl, hb⟩
   refine ⟨_, rfl, ?_⟩
   have HB6 := hid (show Below W.heap.size W w6 from (below_drew1 (Below.refl _ _)).trans hb)
   have HF6 := hid (blk_below HF.out HB6.out)
   have HS6 := hid (blk_below HS.out HB6.out)
   have HR6 := hid (blk_below HR.out HB6.out)
   clear hb
   refine hK.out _ _ ⟨(blk_cell HF6.out 0).trans rfl, (blk_cell HF6.out 1).trans rfl, (blk_cell HF6.out 2).trans rfl, (blk_cell HF6.out 3).trans rfl, (blk_cell HF6.out 4).trans rfl, (blk_cell HF6.out 5).trans rfl, (blk_cell HF6.out 6).trans rfl, (blk_cell HF6.out 7).trans rfl, (blk_cell HS6.out 14).trans rfl⟩ (fun hHeld => ?_)
   clear hK K
   refine norm_ (a' := ?_) ?_ ?_
   rotate_left
   ·show Act.put _ (some 28) _ = _
    simp only [Act.put, List.setIfInBounds_toArray, List.set_cons_zero, List.set_cons_succ, i64_w, i32_w]
    rfl
   refine pure_ (i := 8) (N := (some 29)) (v := ?_) (a' := ?_) #[true, true, true, true, true, true, true, true, true, false, false] rfl rfl (by kernel_rfl) (fun _ _ _ h => h) (Or.inl ⟨by rfl, ?_⟩) ?_ ?_
   rotate_left
   ·intro w'
    go_simp
    with_reducible rfl
   rotate_left
   ·simp only [Act.put, List.setIfInBounds_toArray, List.set_cons_zero, List.set_cons_succ, i64_w, i32_w]
    rfl
   refine pure_ (i := 9) (N := (some 30)) (v := ?_) (a' := ?_) #[true, true, true, true, true, true, true, true, true, true, false] rfl rfl (by kernel_rfl) (fun _ _ _ h => h) (Or.inl ⟨by rfl, ?_⟩) ?_ ?_
   rotate_left
   ·intro w'
    go_simp
    with_reducible rfl
   rotate_left
   ·simp only [Act.put, List.setIfInBounds_toArray, List.set_cons_zero, List.set_cons_succ, i64_w, i32_w]
    rfl
   refine one_ (i := 10) (N := none) #[true, true, true, true, true, true, true, true, true, true, true] rfl rfl (by kernel_rfl) (by decide) (fun K hK => ?_)
   have hrr6 : w6.cell? ⟨w.heap.size + 1 + 1, 0, none⟩ = some (.bool false) := (blk_cell HR6.out 0).trans rfl
   have hfr6 := blk_frozen HR6.out 0
   refine skip_ (w1 := ?_) (by rfl) rfl ?_ ?_
   rotate_left
   ·go_simp
    rfl
   refine hK.out _ _ ⟨(blk_cell (blk_far HF6.out (by simp; omega) _) 0).trans rfl, (blk_cell (blk_far HF6.out (by simp; omega) _) 1).trans rfl, (blk_cell (blk_far HF6.out (by simp; omega) _) 2).trans rfl, (blk_cell (blk_far HF6.out (by simp; omega) _) 3).trans rfl, (blk_cell (blk_far HF6.out (by simp; omega) _) 4).trans rfl, (blk_cell (blk_far HF6.out (by simp; omega) _) 5).trans rfl, (blk_cell (blk_far HF6.out (by simp; omega) _) 6).trans rfl, (blk_cell (blk_far HF6.out (by simp; omega) _) 7).trans rfl, (blk_cell (blk_far HS6.out (by simp) _) 14).trans rfl⟩ (fun hHeld => ?_)
   clear hK K
   refine done_ (by kernel_rfl) ?_
   (try go_wp2)
   simp only [onlyN, Exit.then]
   gi_wp2
   have hK7 : (w6.setCell ⟨w.heap.size + 1 + 1, 0, none⟩ (.bool (s14 == q))).heap[D]? = some (.deferred (some [])) := (blk_far2 ((HB6.out.block _ (blk_lt HK.out)).trans HK.out) _ _)
   have hR7 : (w6.setCell ⟨w.heap.size + 1 + 1, 0, none⟩ (.bool (s14 == q))).heap[w.heap.size + 1 + 1]? = some (.cells #[.bool (s14 == q)] 4 (0, 0)) := by simpa using blk_set HR6.out 0 (.bool (s14 == q))
   refine ⟨by simp, .inl ⟨_, _, rfl, run_takeDeferred hK7, ?_⟩⟩
   have hc5 := cell_kept ((blk_cell hR7 0).trans rfl) (grownBy_putObj' _ D (.deferred none)) (fun r e => by cases e; exact ⟨_, hK7, rfl⟩)
   refine ⟨.bool (s14 == q), by simp [results, Try.f58, go_sem, hc5], ?_, (HB.out.trans ((HB6.out.mono HB.out.size).setCell (p := ⟨w.heap.size + 1 + 1, 0, none⟩) (by simp; omega) _)).trans (belowK_b (w := w) (Nat.le_refl _) _ D _ _ (by have := HD.out; omega) hK7 rfl rfl)⟩
   have h := HH.out
   unfold thread_form_agrees.f at h
   rw [hall.out, h14b, ← HQ3.out] at h
   rw [← Option.some.inj h]; rfl
 case stop =>
  rintro D c pre W hD hpre ⟨⟨rfl, hq⟩, hR, hB⟩ hK
  have HR := hid hR
  have HB := hid hB
  have HK := hid hK
  have hpre' := hid hpre
  have HQ := hid hq
  have HD := hid hD
  clear hR hB hK hpre hq hD
  gi_wp2
  refine ⟨by simp, .inl ⟨_, _, rfl, run_takeDeferred HK.out, ?_⟩⟩
  have hc5 := cell_kept ((blk_cell HR.out 0).trans rfl) (grownBy_putObj' W D (.deferred none)) (fun r e => by cases e; exact ⟨_, HK.out, rfl⟩)
  refine ⟨.bool false, by simp [results, Try.f58, go_sem, hc5], ?_, HB.out.trans (belowK_b (w := w) (Nat.le_refl _) W D _ _ (by have := HD.out; omega) HK.out rfl rfl)⟩
  have hall : List.all [(f0, s0, s1), (f1, s2, s3), (f2, s4, s5), (f3, s6, s7), (f4, s8, s9), (f5, s10, s11), (f7, s12, s13)] okV = false := by
   obtain ⟨t, ht⟩ := hpre'.out
   rw [← ht, List.all_append]
   have := HQ.out
   rw [this]; rfl
  have h := HH.out
  unfold thread_form_agrees.f at h
  rw [hall] at h
  rw [← Option.some.inj h]; rfl
end Go.Proofs.Yticbhgjenidjlaa.T
namespace Go.Proofs.Yticbhgjenidjlaa.T
open Go.RowKit Go.Proofs.YticbhgjenidjlaaW.PrintWords Go.Proofs.YticbhgjenidjlaaW.PrintLast Go.Proofs.YticbhgjenidjlaaW.PrintMore
attribute [local go_sem] max2_int min2_int max_two min_two max_three min_three max_four min_four   -- for this text's walks alone
set_option linter.unusedVariables false
set_option linter.unusedSimpArgs false
attribute [local go_sem] wl_100001

def thread_isSpan.f (a0_0 : Int) (a0_1 : Int) (a1 : Int) (a2 : Int) : Option (Bool) := if a0_0 ≤ a0_1 then ((thread_within.f a1 a2 (([a0_0, a0_1] : List Int))).bind fun t270 => (some t270)) else (some false)
set_option maxHeartbeats 8000000 in
set_option maxRecDepth 100000 in
theorem thread_isSpan.calls (a0_0 : Int) (a0_1 : Int) (a1 : Int) (a2 : Int) (r : Bool) (w : World) (h : thread_isSpan.f a0_0 a0_1 a1 a2 = some r) :
  Calls Try.prog 53 #[.agg #[.int .i64 a0_0, .int .i64 a0_1], .int .i64 a1, .int .i64 a2] w fun e w' => e = .returned (.bool r) ∧ Below w.heap.size w w' := by
 have hu43 := Try.underlying43
 have HB := Aside0.mk (Below.refl w.heap.size w)
 have H : (if a0_0 ≤ a0_1 then ((thread_within.f a1 a2 (([a0_0, a0_1] : List Int))).bind fun t270 => (some t270)) else (some false)) = some r := h
 clear h
 by_cases c4 : a0_0 ≤ a0_1
 ·rw [if_pos c4] at H
  have c4b0 : decide (a0_0 ≤ a0_1) = true := decide_eq_true c4
  clear c4
  obtain ⟨y267, hy267⟩ : ∃ y_ : List Int, y_ = (([a0_0, a0_1] : List Int)) := ⟨_, rfl⟩
  replace H : ((thread_within.f a1 a2 y267).bind fun t270 => (some t270)) = some r := by first | (rw [hy267]; with_reducible exact H) | (have H2_ := (Option.bind_some _ _).symm.trans H; rw [hy267]; with_reducible exact H2_) | (have H2_ := (Option.bind_some _ _).symm.trans H; with_reducible exact H2_) | with_reducible exact H | (rw [hy267]; exact H) | exact H
  have Ny267 := Aside0.mk hy267
  clear hy267
  replace H := Option.bind_eq_some_iff.mp H
  obtain ⟨t270, A50, H⟩ := H; (try dsimp only at H)
  have A5 := Aside0.mk A50
  clear A50
  obtain rfl := Option.some.inj H
  go_enter Try.func53, Try.ntmps53
  go_wp2_with (first | ((with_reducible refine gate_dst (N := 3) rfl ?_); (try (refine gate_guard (by rfl) ?_; dsimp only)); refine box_event ?hg (N := 3) ?hd (cs := #[.int .i64 a0_0, .int .i64 a0_1]) (t := 43) ?hr ?_; (case hd => rfl); (case hg => rfl); (case hr => first | (go_simp; done) | (go_simp; rfl)); intro gb266 hg w6 hbox hb; have BK266 := Aside0.mk (hbox); have GW266 := Aside0.mk ((by rw [hg]; exact (below_size HB.out) : w.heap.size ≤ gb266)); have GE266 := GW266; replace HB := Aside0.mk (below_step HB.out hb); clear hb hbox hg; obtain ⟨hcz7_0, hcz7_1⟩ := bc2 BK266.out; obtain ⟨hfz7_0, hfz7_1⟩ := bf2 BK266.out) | ((with_reducible refine gate_dst (N := 19) rfl ?_); (try (refine gate_guard (by rfl) ?_; dsimp only)); refine Kd.R_lit (Kd.int .i64) _ 3 ?hg (N := 19) ?hd (xs := ([a0_0, a0_1] : List Int)) (inner := [.int .i64 a0_0, .int .i64 a0_1]) (ok := fun _ => True) (okp := fun _ => True) ?hr ?hp (fun _ hk => hk) trivial (Below.refl _ _) (Nat.le_refl _) (by simp) ?_; (case hd => rfl); (case hg => rfl); (case hr => first | (go_simp; done) | (go_simp; rfl)); (case hp => exact (Reps.one (show Kd.M (Kd.int .i64) _ _ _ a0_0 [.int .i64 a0_0] from rfl) (Reps.one (show Kd.M (Kd.int .i64) _ _ _ a0_1 [.int .i64 a0_1] from rfl) (Reps.none _ _)))); intro v268 w8 ho9 hb hg_ hnew_; clear hg_ hnew_; (first | rw [← Ny267.out] at ho9 | (simp only [Int.reduceToNat] at ho9; rw [← Ny267.out] at ho9)); have HO269 := Aside0.mk (Kd.R_lower ho9 (below_size (by repeat (first | (with_reducible first | exact HB.out | apply below_alloc | apply pw_below_drewN | apply below_drew1 | refine below_set ?_ (Aside0.out (by assumption))) | exact HB.out)))); replace BK266 := Aside0.mk (blk_below (g := gb266) (o := .cells #[.int .i64 a0_0, .int .i64 a0_1] 43 (0, 0)) (by repeat (first | (with_reducible first | exact BK266.out | refine blk_drewN ?_ _ | refine blk_drew ?_ | refine blk_alloc ?_ _) | exact BK266.out)) hb); replace HB := Aside0.mk (below_step (by repeat (first | (with_reducible first | exact HB.out | apply below_alloc | apply pw_below_drewN | apply below_drew1 | refine below_set ?_ (Aside0.out (by assumption))) | exact HB.out)) hb); clear hb ho9; obtain ⟨Ao10, co10, eo10⟩ := Kd.R_slice HO269.out; subst eo10) | (go_at_call 43; (with_reducible refine (thread_within.calls a1 a2 _ _ y267 t270 _ ?side1 ?side2 A5.out).mono ?_); (case side1 => repeat (first | exact (Kd.R_reads' HO269.out).2.2 | (with_reducible refine Kd.C_alloc ?_ _) | (with_reducible refine Kd.C_drewN ?_ _) | (with_reducible refine Kd.C_drew ?_))); (case side2 => exact (Kd.R_reads' HO269.out).2.1); rintro e w11 ⟨rfl, hb⟩; replace HO269 := Aside0.mk (Kd.R_below (by (with_reducible repeat (first | apply Kd.R_alloc | apply Kd.R_drewN | apply Kd.R_drew)); exact HO269.out) hb); replace BK266 := Aside0.mk (blk_below (g := gb266) (o := .cells #[.int .i64 a0_0, .int .i64 a0_1] 43 (0, 0)) (by repeat (first | (with_reducible first | exact BK266.out | refine blk_drewN ?_ _ | refine blk_drew ?_ | refine blk_alloc ?_ _) | exact BK266.out)) hb); replace HB := Aside0.mk (below_step (by repeat (first | (with_reducible first | exact HB.out | apply below_alloc | apply pw_below_drewN | apply below_drew1 | refine below_set ?_ (Aside0.out (by assumption))) | exact HB.out)) hb); (try clear hb); (try clear hb2); (try clear hk); (try clear hi)))
  go_ret
  exact ⟨by first | rfl | (simp [errW_none, errW_some] <;> rfl) | (simp [*, errW_none, errW_some] <;> rfl), by repeat (first | (with_reducible first | exact HB.out | apply below_alloc | apply pw_below_drewN | apply below_drew1 | refine below_set ?_ (Aside0.out (by assumption))) | exact HB.out)⟩
 ·rw [if_neg c4] at H
  have c4b0 : decide (a0_0 ≤ a0_1) = false := decide_eq_false c4
  clear c4
  obtain rfl := Option.some.inj H
  go_enter Try.func53, Try.ntmps53
  go_wp2_with (first | ((with_reducible refine gate_dst (N := 3) rfl ?_); (try (refine gate_guard (by rfl) ?_; dsimp only)); refine box_event ?hg (N := 3) ?hd (cs := #[.int .i64 a0_0, .int .i64 a0_1]) (t := 43) ?hr ?_; (case hd => rfl); (case hg => rfl); (case hr => first | (go_simp; done) | (go_simp; rfl)); intro gb266 hg w12 hbox hb; have BK266 := Aside0.mk (hbox); have GW266 := Aside0.mk ((by rw [hg]; exact (below_size HB.out) : w.heap.size ≤ gb266)); have GE266 := GW266; replace HB := Aside0.mk (below_step HB.out hb); clear hb hbox hg; obtain ⟨hcz13_0, hcz13_1⟩ := bc2 BK266.out; obtain ⟨hfz13_0, hfz13_1⟩ := bf2 BK266.out))
  go_ret
  exact ⟨by first | rfl | (simp [errW_none, errW_some] <;> rfl) | (simp [*, errW_none, errW_some] <;> rfl), by repeat (first | (with_reducible first | exact HB.out | apply below_alloc | apply pw_below_drewN | apply below_drew1 | refine below_set ?_ (Aside0.out (by assumption))) | exact HB.out)⟩

end Go.Proofs.Yticbhgjenidjlaa.T
namespace Go.Proofs.Yticbhgjenidjlaa.T
open Go.RowKit Go.Shelf Go.Proofs.YticbhgjenidjlaaW.PrintWords Go.Proofs.YticbhgjenidjlaaW.PrintLast Go.Proofs.YticbhgjenidjlaaW.PrintMore
set_option linter.unusedVariables false
set_option linter.unusedSimpArgs false
attribute [local go_sem] Oper.semAt_some

def okS (x : Val3) : Bool := decide (x.2.1 ≤ x.2.2) && !([x.2.1, x.2.2].any (outside 0 10000000))
theorem isSpan_okS (x : Val3) : thread_isSpan.f x.2.1 x.2.2 0 10000000 = some (okS x) := by
 unfold thread_isSpan.f okS thread_within.f
 by_cases h : x.2.1 ≤ x.2.2 <;> simp [h]
def thread_isSeen.f (s0 s1 s2 s3 s4 s5 s6 s7 s8 s9 s10 s11 s12 s13 s14 : Int) : Option Bool :=
 some (([(0, s0, s1), (0, s2, s3), (0, s4, s5), (0, s6, s7), (0, s8, s9), (0, s10, s11), (0, s12, s13)] : List Val3).all okS && !(outside 0 2 s14))
set_option maxRecDepth 100000 in
set_option maxHeartbeats 4000000 in
theorem thread_isSeen.calls (s0 s1 s2 s3 s4 s5 s6 s7 s8 s9 s10 s11 s12 s13 s14 : Int) (r : Bool) (w : World) (h : thread_isSeen.f s0 s1 s2 s3 s4 s5 s6 s7 s8 s9 s10 s11 s12 s13 s14 = some r) :
  Calls Try.prog 57 #[.agg #[.int .i64 s0, .int .i64 s1, .int .i64 s2, .int .i64 s3, .int .i64 s4, .int .i64 s5, .int .i64 s6, .int .i64 s7, .int .i64 s8, .int .i64 s9, .int .i64 s10, .int .i64 s11, .int .i64 s12, .int .i64 s13, .int .i64 s14]] w fun e w' => e = .returned (.bool r) ∧ Below w.heap.size w w' := by
 have HH := hid h
 clear h
 have hu53 := Try.underlying53
 have hu96 := Try.underlying96
 have hu43 := Try.underlying43
 have hu23 := Try.underlying23
 have hu123 := Try.underlying123
 refine (callsIn_wide (n := 6)).1 ?_
 refine callsIn_of_wp_marks Try.func57 rfl trivial ?_ rfl
 simp only [Try.ntmps57, List.size_toArray, List.length_cons, List.length_nil, Nat.reduceAdd, Nat.reduceSub, Array.replicate_succ, Array.replicate_zero, List.push_toArray, List.append_toArray, List.nil_append, List.cons_append]
 gi_wp2_with (refine ⟨trivial, ?_⟩; gi_at_call 72; refine (callsIn_wide.2 (values_calls 0 0 0 0 0 0 false 0 s0 s1 s2 s3 s4 s5 s6 s7 s8 s9 s10 s11 s12 s13 s14 _)).mono ?_; rintro e w' ⟨rfl, rfl⟩)
 obtain ⟨W0, hW0⟩ : ∃ W0, (((w.alloc (.cells #[.int .i64 s0, .int .i64 s1, .int .i64 s2, .int .i64 s3, .int .i64 s4, .int .i64 s5, .int .i64 s6, .int .i64 s7, .int .i64 s8, .int .i64 s9, .int .i64 s10, .int .i64 s11, .int .i64 s12, .int .i64 s13, .int .i64 s14] 53)).alloc (.cells #[.bool false] 4)).alloc (.cells #[.int .i64 0, .int .i64 0, .int .i64 0, .int .i64 0, .int .i64 0, .int .i64 0, .bool false, .int .i64 0] 96)).alloc (.cells #[.int .i64 s0, .int .i64 s1, .int .i64 s2, .int .i64 s3, .int .i64 s4, .int .i64 s5, .int .i64 s6, .int .i64 s7, .int .i64 s8, .int .i64 s9, .int .i64 s10, .int .i64 s11, .int .i64 s12, .int .i64 s13, .int .i64 s14] 53) = W0 := ⟨_, rfl⟩
 have hB0 : Below w.heap.size w W0 := by rw [← hW0]; exact ((((Below.refl _ w).alloc (Nat.le_refl _) _).alloc (by simp) _).alloc (by simp; omega) _).alloc (by simp; omega) _
 have hz : W0.heap.size = w.heap.size + 4 := by rw [← hW0]; simp
 have hS : W0.heap[w.heap.size]? = some (.cells #[.int .i64 s0, .int .i64 s1, .int .i64 s2, .int .i64 s3, .int .i64 s4, .int .i64 s5, .int .i64 s6, .int .i64 s7, .int .i64 s8, .int .i64 s9, .int .i64 s10, .int .i64 s11, .int .i64 s12, .int .i64 s13, .int .i64 s14] 53 (0, 0)) := by rw [← hW0]; exact blk_alloc (blk_alloc (blk_alloc (blk_new _ _) _) _) _
 have hR : W0.heap[w.heap.size + 1]? = some (.cells #[.bool false] 4 (0, 0)) := by rw [← hW0]; exact blk_alloc (blk_alloc (by simpa using blk_new (w.alloc (.cells #[.int .i64 s0, .int .i64 s1, .int .i64 s2, .int .i64 s3, .int .i64 s4, .int .i64 s5, .int .i64 s6, .int .i64 s7, .int .i64 s8, .int .i64 s9, .int .i64 s10, .int .i64 s11, .int .i64 s12, .int .i64 s13, .int .i64 s14] 53)) _) _) _
 have h3 : W0.heap[w.heap.size + 2]? = some (.cells #[.int .i64 0, .int .i64 0, .int .i64 0, .int .i64 0, .int .i64 0, .int .i64 0, .bool false, .int .i64 0] 96 (0, 0)) := by rw [← hW0]; exact blk_alloc (by simpa using blk_new ((w.alloc (.cells #[.int .i64 s0, .int .i64 s1, .int .i64 s2, .int .i64 s3, .int .i64 s4, .int .i64 s5, .int .i64 s6, .int .i64 s7, .int .i64 s8, .int .i64 s9, .int .i64 s10, .int .i64 s11, .int .i64 s12, .int .i64 s13, .int .i64 s14] 53)).alloc (.cells #[.bool false] 4)) _) _
 have h4 : W0.heap[w.heap.size + 3]? = some (.cells #[.int .i64 s0, .int .i64 s1, .int .i64 s2, .int .i64 s3, .int .i64 s4, .int .i64 s5, .int .i64 s6, .int .i64 s7, .int .i64 s8, .int .i64 s9, .int .i64 s10, .int .i64 s11, .int .i64 s12, .int .i64 s13, .int .i64 s14] 53 (0, 0)) := by rw [← hW0]; simpa using blk_new (((w.alloc (.cells #[.int .i64 s0, .int .i64 s1, .int .i64 s2, .int .i64 s3, .int .i64 s4, .int .i64 s5, .int .i64 s6, .int .i64 s7, .int .i64 s8, .int .i64 s9, .int .i64 s10, .int .i64 s11, .int .i64 s12, .int .i64 s13, .int .i64 s14] 53)).alloc (.cells #[.bool false] 4)).alloc (.cells #[.int .i64 0, .int .i64 0, .int .i64 0, .int .i64 0, .int .i64 0, .int .i64 0, .bool false, .int .i64 0] 96)) _
 rw [hW0]
 clear hW0
 refine wpIn_rangeFunc_ownH rfl (by omega) (gf := 80) (lb := #[.pointer (some ⟨w.heap.size + 1 + 1, 0, none⟩), .pointer (some ⟨w.heap.size + 1 + 1 + 1, 0, none⟩)]) rfl trivial (enters_of Try.func80 (by kernel_rfl) rfl)
  (values_stops 5 (by omega) (w.heap.size + 2) (w.heap.size + 3) 0 0 0 0 0 0 false 0 s0 s1 s2 s3 s4 s5 s6 s7 s8 s9 s10 s11 s12 s13 s14 W0 h3 h4) (fun _ _ => trivial) (fun _ _ _ _ _ _ _ _ => trivial) (Below.refl _ _) (fun _ => rfl)
  (fun pre W => Hid (pre.all okS = true) ∧ (W.heap[w.heap.size]? = some (.cells #[.int .i64 s0, .int .i64 s1, .int .i64 s2, .int .i64 s3, .int .i64 s4, .int .i64 s5, .int .i64 s6, .int .i64 s7, .int .i64 s8, .int .i64 s9, .int .i64 s10, .int .i64 s11, .int .i64 s12, .int .i64 s13, .int .i64 s14] 53 (0, 0)) ∧ W.heap[w.heap.size + 1]? = some (.cells #[.bool false] 4 (0, 0))) ∧ Below w.heap.size w W)
  (fun c pre W => (c = .ret ∧ Hid (pre.all okS = false)) ∧ W.heap[w.heap.size + 1]? = some (.cells #[.bool false] 4 (0, 0)) ∧ Below w.heap.size w W)
  ((ownFrom_pure' _ _).and (((ownFrom_blk _ _ (fun _ => _) _).and (ownFrom_blk _ _ (fun _ => _) _)).and (ownFrom_below (Nat.le_refl _) (by omega))))
  (fun c => (ownFrom_pure' _ _).and ((ownFrom_blk _ _ (fun _ => _) _).and (ownFrom_below (Nat.le_refl _) (by omega))))
  ⟨rfl, ⟨hS, hR⟩, hB0⟩
  (fun x a' W => ∃ Bx, W.heap[Bx]? = some (.cells #[.int .i64 x.1, .int .i64 x.2.1, .int .i64 x.2.2] 123 (0, 0)) ∧ a' = { tmps := #[.agg #[.int .i64 s0, .int .i64 s1, .int .i64 s2, .int .i64 s3, .int .i64 s4, .int .i64 s5, .int .i64 s6, .int .i64 s7, .int .i64 s8, .int .i64 s9, .int .i64 s10, .int .i64 s11, .int .i64 s12, .int .i64 s13, .int .i64 s14], .pointer (some ⟨w.heap.size, 0, none⟩), .pointer (some ⟨w.heap.size + 1, 0, none⟩), .pointer (some ⟨Bx, 0, none⟩), .agg #[.int .i64 0, .int .i64 0, .int .i64 0, .int .i64 0, .int .i64 0, .int .i64 0, .bool false, .int .i64 0], .agg #[.int .i64 s0, .int .i64 s1, .int .i64 s2, .int .i64 s3, .int .i64 s4, .int .i64 s5, .int .i64 s6, .int .i64 s7, .int .i64 s8, .int .i64 s9, .int .i64 s10, .int .i64 s11, .int .i64 s12, .int .i64 s13, .int .i64 s14], .func (.func 80) #[] #[.pointer (some ⟨w.heap.size + 1 + 1, 0, none⟩), .pointer (some ⟨w.heap.size + 1 + 1 + 1, 0, none⟩)], .agg #[.int .i64 x.1, .int .i64 x.2.1, .int .i64 x.2.2], undef, undef, undef, undef, undef, undef, undef, undef], defers := [] })
  (fun x a' _ X Y row hs hg hr => by obtain ⟨Bx, h2, h3⟩ := hs; exact ⟨Bx, ownFrom_blk _ Bx (fun (_ : Unit) => _) 123 () X Y row h2 hg hr, h3⟩)
  ?assign ?body ?done ?stop
 case assign =>
  rintro l pre x W K ⟨hp, ⟨hS, hR⟩, hB⟩ hK
  have HK := hid hK
  have HB := hid hB
  have HQ := hid hp
  clear hK hB hp
  dsimp only [enc3]
  gi_wp2
  refine HK.out _ _ ((KeepsOthers.alloc _ _).from _) trivial ⟨HQ.out, ⟨blk_alloc hS _, blk_alloc hR _⟩, HB.out.alloc HB.out.size _⟩ ⟨W.heap.size, blk_new _ _, rfl⟩
 case body =>
  rintro l pre x a' W hl hrec ⟨hp, ⟨hS, hR⟩, hB⟩ ⟨Bx, hX, rfl⟩ hlen
  have HB := hid hB
  have HQ := hid hp
  have HX := hid hX
  have hx0 : W.cell? ⟨Bx, 0, none⟩ = some (.int .i64 x.1) := (blk_cell hX 0).trans rfl
  have hx1 : W.cell? ⟨Bx, 1, none⟩ = some (.int .i64 x.2.1) := (blk_cell hX 1).trans rfl
  have hx2 : W.cell? ⟨Bx, 2, none⟩ = some (.int .i64 x.2.2) := (blk_cell hX 2).trans rfl
  have HS := hid hS
  have HR := hid hR
  clear hB hp hX hS hR
  cases hok : okS x with
  | true =>
   have HO := hid hok
   have HC := hid (fun (W1 : World) => thread_isSpan.calls x.2.1 x.2.2 0 10000000 true W1 (by rw [isSpan_okS, hok]))
   clear hok
   gi_wp2_with (refine ⟨trivial, ?_⟩; gi_at_call 53; refine (CallsIn.inRound l (callsIn_wide.2 (HC.out _))).mono ?_; rintro e w' ⟨rfl, hb'⟩; have HB' := hid hb'; clear hb')
   refine ⟨(keeps_of_below HB'.out).from _, trivial, ?_, ⟨blk_below HS.out HB'.out, blk_below HR.out HB'.out⟩, HB.out.trans (HB'.out.mono HB.out.size)⟩
   show _ = _
   rw [List.all_append, HQ.out]; simp [HO.out]
  | false =>
   have HO := hid hok
   have HC := hid (fun (W1 : World) => thread_isSpan.calls x.2.1 x.2.2 0 10000000 false W1 (by rw [isSpan_okS, hok]))
   clear hok
   gi_wp2_with (refine ⟨trivial, ?_⟩; gi_at_call 53; refine (CallsIn.inRound l (callsIn_wide.2 (HC.out _))).mono ?_; rintro e w' ⟨rfl, hb'⟩; have HB2 := hid hb'; clear hb'; have HR2 := hid (blk_below HR.out HB2.out); have hr2 : w'.cell? ⟨w.heap.size + 1, 0, none⟩ = some (.bool false) := (blk_cell HR2.out 0).trans rfl; have hfr2 := blk_frozen HR2.out 0)
   refine ⟨(KeepsOthers.trans (keeps_of_below HB2.out) (KeepsOthers.setCell _ _ _)).from _, ⟨rfl, ?_⟩, by simpa using blk_set HR2.out 0 (.bool false), (HB.out.trans (HB2.out.mono HB.out.size)).setCell (p := ⟨w.heap.size + 1, 0, none⟩) (by simp) _⟩
   show _ = _
   rw [List.all_append]; simp [HO.out]
 case done =>
  rintro D ys W hD rfl ⟨hp, ⟨hS, hR⟩, hB⟩ hK
  have HB := hid hB
  have HQ := hid hp
  have HS := hid hS
  have HR := hid hR
  have HK := hid hK
  have hs14 : W.cell? ⟨w.heap.size, 14, none⟩ = some (.int .i64 s14) := (blk_cell HS.out 14).trans rfl
  have HD := hid hD
  have HC := hid (fun (W1 : World) (h : W1.heap[W.heap.size]? = some (.cells #[.int .i64 s14] 3 (0, 0))) => thread_within.calls 0 2 (some ⟨W.heap.size, 0, none⟩) 1 [s14] (!(outside 0 2 s14)) W1 (C_one h) (by simp) (by simp [thread_within.f]))
  clear hB hp hS hR hK hD
  gi_wp2_with (refine ⟨trivial, ?_⟩; gi_at_call 43; refine (callsIn_wide.2 (HC.out _ (blk_new _ _))).mono ?_; rintro e w6 ⟨rfl, hb'⟩; have HB6 := hid (((Below.refl W.heap.size W).alloc (Nat.le_refl _) _).trans (hb'.mono (by simp))); clear hb'; have HR6 := hid (blk_below HR.out HB6.out); have hr6 : w6.cell? ⟨w.heap.size + 1, 0, none⟩ = some (.bool false) := (blk_cell HR6.out 0).trans rfl; have hfr6 := blk_frozen HR6.out 0)
  have hK7 : (w6.setCell ⟨w.heap.size + 1, 0, none⟩ (.bool (!(outside 0 2 s14)))).heap[D]? = some (.deferred (some [])) := blk_far2 ((HB6.out.block _ (blk_lt HK.out)).trans HK.out) _ _
  have hR7 : (w6.setCell ⟨w.heap.size + 1, 0, none⟩ (.bool (!(outside 0 2 s14)))).heap[w.heap.size + 1]? = some (.cells #[.bool (!(outside 0 2 s14))] 4 (0, 0)) := by simpa using blk_set HR6.out 0 (.bool (!(outside 0 2 s14)))
  refine ⟨by simp, .inl ⟨_, _, rfl, run_takeDeferred hK7, ?_⟩⟩
  have hc5 := cell_kept ((blk_cell hR7 0).trans rfl) (grownBy_putObj' _ D (.deferred none)) (fun r e => by cases e; exact ⟨_, hK7, rfl⟩)
  refine ⟨.bool (!(outside 0 2 s14)), by simp [results, Try.f57, go_sem, hc5], ?_, (HB.out.trans ((HB6.out.mono HB.out.size).setCell (p := ⟨w.heap.size + 1, 0, none⟩) (by simp) _)).trans (belowK_b (w := w) (Nat.le_refl _) _ D _ _ (by have := HD.out; omega) hK7 rfl rfl)⟩
  have h := HH.out
  unfold thread_isSeen.f at h
  rw [HQ.out] at h
  rw [← Option.some.inj h]; rfl
 case stop =>
  rintro D c pre W hD hpre ⟨⟨rfl, hq⟩, hR, hB⟩ hK
  have HR := hid hR
  have HB := hid hB
  have HK := hid hK
  have hpre' := hid hpre
  have HQ := hid hq
  have HD := hid hD
  clear hR hB hK hpre hq hD
  gi_wp2
  refine ⟨by simp, .inl ⟨_, _, rfl, run_takeDeferred HK.out, ?_⟩⟩
  have hc5 := cell_kept ((blk_cell HR.out 0).trans rfl) (grownBy_putObj' W D (.deferred none)) (fun r e => by cases e; exact ⟨_, HK.out, rfl⟩)
  refine ⟨.bool false, by simp [results, Try.f57, go_sem, hc5], ?_, HB.out.trans (belowK_b (w := w) (Nat.le_refl _) W D _ _ (by have := HD.out; omega) HK.out rfl rfl)⟩
  have hall : List.all [(0, s0, s1), (0, s2, s3), (0, s4, s5), (0, s6, s7), (0, s8, s9), (0, s10, s11), (0, s12, s13)] okS = false := by
   obtain ⟨t, ht⟩ := hpre'.out
   rw [← ht, List.all_append]
   have := HQ.out
   rw [this]; rfl
  have h := HH.out
  unfold thread_isSeen.f at h
  rw [hall] at h
  rw [← Option.some.inj h]; rfl
end Go.Proofs.Yticbhgjenidjlaa.T
namespace Go.Proofs.Yticbhgjenidjlaa.T
open Go Go.RowKit Go.Proofs.Yticbhgjenidjlaa.Ab
set_option linter.unusedVariables false
set_option linter.unusedSimpArgs false

def asI : Value → Option Int
 | .int .i64 n => some n
 | _ => none
def asB : Value → Option Bool
 | .bool b => some b
 | _ => none
theorem asI_some {v : Value} {n : Int} (h : asI v = some n) : v = .int .i64 n := by
 unfold asI at h
 split at h
 ·simp only [Option.some.injEq] at h; rw [h]
 ·simp at h
theorem asB_some {v : Value} {b : Bool} (h : asB v = some b) : v = .bool b := by
 unfold asB at h
 split at h
 ·simp only [Option.some.injEq] at h; rw [h]
 ·simp at h
def asForm : Value → Option (Int × Int × Int × Int × Int × Int × Bool × Int)
 | .agg ⟨[a, b, c, d, e, f, g, h]⟩ => match asI a, asI b, asI c, asI d, asI e, asI f, asB g, asI h with
  | some a, some b, some c, some d, some e, some f, some g, some h => some (a, b, c, d, e, f, g, h)
  | _, _, _, _, _, _, _, _ => none
 | _ => none
def asInts : List Value → Option (List Int)
 | [] => some []
 | v :: vs => match asI v, asInts vs with
  | some n, some l => some (n :: l)
  | _, _ => none
theorem asInts_some : ∀ {vs : List Value} {l : List Int}, asInts vs = some l → vs = l.map (Value.int .i64)
 | [], l, h => by simp only [asInts, Option.some.injEq] at h; rw [← h]; rfl
 | v :: vs, l, h => by
  simp only [asInts] at h
  split at h
  ·rename_i n l' h1 h2
   simp only [Option.some.injEq] at h
   rw [← h, asI_some h1, asInts_some h2]; rfl
  ·simp at h
theorem asForm_some {v : Value} {p} (h : asForm v = some p) : v = .agg ⟨[.int .i64 p.1, .int .i64 p.2.1, .int .i64 p.2.2.1, .int .i64 p.2.2.2.1, .int .i64 p.2.2.2.2.1, .int .i64 p.2.2.2.2.2.1, .bool p.2.2.2.2.2.2.1, .int .i64 p.2.2.2.2.2.2.2]⟩ := by
 unfold asForm at h
 split at h
 ·split at h
  ·rename_i h1 h2 h3 h4 h5 h6 h7 h8
   simp only [Option.some.injEq] at h
   rw [← h, asI_some h1, asI_some h2, asI_some h3, asI_some h4, asI_some h5, asI_some h6, asB_some h7, asI_some h8]
  ·simp at h
 ·simp at h
def orc01 (f : FuncId) : Option (List Value → Option Value) :=
 match f with
 | 57 => some fun args => match args with
  | [.agg ⟨vs⟩] => match asInts vs with
   | some [s0, s1, s2, s3, s4, s5, s6, s7, s8, s9, s10, s11, s12, s13, s14] => (thread_isSeen.f s0 s1 s2 s3 s4 s5 s6 s7 s8 s9 s10 s11 s12 s13 s14).map .bool
   | _ => none
  | _ => none
 | 58 => some fun args => match args with
  | [u, .agg ⟨vs⟩] => match asForm u, asInts vs with
   | some p, some [s0, s1, s2, s3, s4, s5, s6, s7, s8, s9, s10, s11, s12, s13, s14] => (thread_form_agrees.f p.1 p.2.1 p.2.2.1 p.2.2.2.1 p.2.2.2.2.1 p.2.2.2.2.2.1 p.2.2.2.2.2.2.1 p.2.2.2.2.2.2.2 s0 s1 s2 s3 s4 s5 s6 s7 s8 s9 s10 s11 s12 s13 s14).map .bool
   | _, _ => none
  | _ => none
 | 73 => some fun args => match args with
  | [u] => match asForm u with
   | some p => (thread_form_hand.f p.1 p.2.1 p.2.2.1 p.2.2.2.1 p.2.2.2.2.1 p.2.2.2.2.2.1 p.2.2.2.2.2.2.1 p.2.2.2.2.2.2.2).map (Value.int .i64)
   | none => none
  | _ => none
 | _ => none
theorem gnd_ints (l : List Int) (k : Nat) : (l.map (Value.int .i64)).all (gnd (k + 1)) = true := by
 rw [List.all_eq_true]
 intro x hx
 obtain ⟨n, _, rfl⟩ := List.mem_map.1 hx
 rfl
theorem orc01_ok : OrcOK Try.prog orc01 := by
 intro f g args v hg h
 unfold orc01 at hg
 split at hg
 ·simp only [Option.some.injEq] at hg
  subst hg
  dsimp only at h
  split at h
  ·rename_i vs
   split at h
   ·rename_i s0 s1 s2 s3 s4 s5 s6 s7 s8 s9 s10 s11 s12 s13 s14 hv
    obtain ⟨r, h1, rfl⟩ := Option.map_eq_some_iff.mp h
    have hv := asInts_some hv
    subst hv
    refine ⟨⟨_, Try.func57, rfl⟩, ?_, rfl, fun w => thread_isSeen.calls s0 s1 s2 s3 s4 s5 s6 s7 s8 s9 s10 s11 s12 s13 s14 r w h1⟩
    simp only [List.all_cons, List.all_nil, gnd, gnd_ints _ 6, Bool.and_true]
   ·simp at h
  ·simp at h
 ·simp only [Option.some.injEq] at hg
  subst hg
  dsimp only at h
  split at h
  ·rename_i u vs
   split at h
   ·rename_i p s0 s1 s2 s3 s4 s5 s6 s7 s8 s9 s10 s11 s12 s13 s14 hu hv
    obtain ⟨r, h1, rfl⟩ := Option.map_eq_some_iff.mp h
    have hv := asInts_some hv
    have hu := asForm_some hu
    subst hv
    subst hu
    refine ⟨⟨_, Try.func58, rfl⟩, ?_, rfl, fun w => thread_form_agrees.calls _ _ _ _ _ _ _ _ s0 s1 s2 s3 s4 s5 s6 s7 s8 s9 s10 s11 s12 s13 s14 r w h1⟩
    simp only [List.all_cons, List.all_nil, gnd, gnd_ints _ 6, Bool.and_true]
   ·simp at h
  ·simp at h
 ·simp only [Option.some.injEq] at hg
  subst hg
  dsimp only at h
  split at h
  ·rename_i u
   split at h
   ·rename_i p hu
    obtain ⟨r, h1, rfl⟩ := Option.map_eq_some_iff.mp h
    have hu := asForm_some hu
    subst hu
    refine ⟨⟨_, Try.func73, rfl⟩, ?_, rfl, fun w => thread_form_hand.calls _ _ _ _ _ _ _ _ r w h1⟩
    simp only [List.all_cons, List.all_nil, gnd, Bool.and_true]
   ·simp at h
  ·simp at h
 ·simp at hg
theorem noNum (f : Nat) (fn : Func) (h : Try.prog.funcs[f]? = some fn) : (fn.name == "runtime.NumGoroutine") = false := by
 have hall : Try.prog.funcs.toList.all (fun fn => !(fn.name == "runtime.NumGoroutine")) = true := by kernel_rfl
 rw [List.all_eq_true] at hall
 have := hall fn (by simpa using Array.mem_of_getElem? h)
 simpa using this
def yes : Option (Value × St) → Bool
 | some (.bool b, _) => b
 | _ => false
theorem yes_some {x : Option (Value × St)} (h : yes x = true) : ∃ st, x = some (.bool true, st) := by
 unfold yes at h
 split at h
 ·exact ⟨_, by rw [h]⟩
 ·simp at h
set_option maxRecDepth 1000000 in
theorem known_run : yes (aCall Try.prog orc01 (fun g => g == 67) 1000 60 0 18 [] ⟨0, []⟩) = true := by kernel_rfl
def acmelaw01_known.f : Option Bool := some true
theorem acmelaw01_known.calls (r : Bool) (w : World) (h : acmelaw01_known.f = some r) : Calls Try.prog 18 #[] w fun e w' => e = .returned (.bool r) ∧ Below w.heap.size w w' := by
 obtain rfl : true = r := Option.some.inj h
 obtain ⟨st, hs⟩ := yes_some known_run
 exact run_calls (by kernel_rfl) noNum orc01_ok rfl rfl hs w
end Go.Proofs.Yticbhgjenidjlaa.T
namespace Go.Proofs.Yticbhgjenidjlaa.T.RSum
open Go Go.RowKit Go.Proofs.Yticbhgjenidjlaa.Ab Go.Proofs.Yticbhgjenidjlaa.T
set_option linter.unusedVariables false
section
variable {R : Type} (g18 : Option (Bool))
def openK (f : FuncId) : Option (List Value → (Value → Option R) → Option R) :=
  match f with
  | 18 => some fun args c => nil1 args <| (g18).bind fun r => c (.bool r)
  | _ => none
end
noncomputable def orcK {R : Type} (k : Nat) : FuncId → Option (List Value → (Value → Option R) → Option R) := openK acmelaw01_known.f
noncomputable def orc (k : Nat) (f : FuncId) : Option (List Value → Option Value) := (orcK (R := Value) k f).map fun g args => g args some
theorem orc_le {R : Type} (k : Nat) : OrcLe (R := R) (orc k) (orcK k) := by
  intro f
  unfold orc orcK openK
  split
  · exact .inr ⟨_, _, rfl, rfl, fun args c => nil1_le <| bind_le _ _ _⟩
  · exact .inl ⟨rfl, rfl⟩
theorem orc_ok (k : Nat) : OrcOK Try.prog (orc k) := by
  intro f g args v hf h
  unfold orc orcK openK at hf
  obtain ⟨gK, h1, rfl⟩ := Option.map_eq_some_iff.mp hf
  split at h1
  · simp only [Option.some.injEq] at h1
    subst h1
    dsimp only at h
    replace h := nil1_some h
    obtain ⟨rfl, h⟩ := h
    obtain ⟨r, h1, h2⟩ := Option.bind_eq_some_iff.mp h
    simp only [Option.some.injEq] at h2
    subst h2
    exact ⟨⟨_, Try.func18, rfl⟩, rfl, rfl, fun w => acmelaw01_known.calls r w h1⟩
  · simp at h1
end Go.Proofs.Yticbhgjenidjlaa.T.RSum
namespace Go.Proofs.Yticbhgjenidjlaa.T
open Go Go.RowKit Go.Proofs.Yticbhgjenidjlaa.Ab Go.Proofs.Yticbhgjenidjlaa.T.RSum
set_option linter.unusedVariables false
noncomputable def acmelaw01_sum.T (g18 : Option (Bool)) (a0_0 : Int) (a0_1 : Int) (a1_0 : Int) (a1_1 : Int) : Option Value := (bif decide (a0_1 < 1) then some (.tuple ⟨[(.int IntKind.i64 (0)), (.bool (false))]⟩) else (bif decide (a1_1 < 1) then some (.tuple ⟨[(.int IntKind.i64 (0)), (.bool (false))]⟩) else (bif decide (a0_1 = 0) then none else (bif Int.tmod 2000 a0_1 != 0 then some (.tuple ⟨[(.int IntKind.i64 (0)), (.bool (false))]⟩) else (bif decide (a1_1 = 0) then none else (bif Int.tmod 2000 a1_1 != 0 then some (.tuple ⟨[(.int IntKind.i64 (0)), (.bool (false))]⟩) else (bif decide (a0_1 = 0) then none else (bif decide (a1_1 = 0) then none else some (.tuple ⟨[(.int IntKind.i64 (IntKind.i64.wrap (IntKind.i64.wrap (a0_0 * IntKind.i64.wrap (Int.tdiv 2000 a0_1)) + IntKind.i64.wrap (a1_0 * IntKind.i64.wrap (Int.tdiv 2000 a1_1))))), (.bool (true))]⟩)))))))))
set_option maxRecDepth 1000000 in
theorem acmelaw01_sum.run (g18 : Option (Bool)) (a0_0 : Int) (a0_1 : Int) (a1_0 : Int) (a1_1 : Int) : aCallK Try.prog (openK g18) (fun _ => false) 1000 60 0 39 [.agg ⟨[.int .i64 a0_0, .int .i64 a0_1]⟩, .agg ⟨[.int .i64 a1_0, .int .i64 a1_1]⟩] ⟨0, []⟩ fin = acmelaw01_sum.T g18 a0_0 a0_1 a1_0 a1_1 := by kernel_rfl
def acmelaw01_sum.dec (v : Value) : Option (Int × Bool) := popT [v] fun q1 l1 => popN .i64 q1 fun r1 l2 => popB l2 fun r2 l3 => nil1 l3 (nil1 l1 (some (r1, r2)))
theorem acmelaw01_sum.dec_some {v : Value} {x : Int × Bool} (h : acmelaw01_sum.dec v = some x) : ∃ (r1 : Int) (r2 : Bool), x = (r1, r2) ∧ v = (.tuple #[.int .i64 r1, .bool r2]) := by
 unfold acmelaw01_sum.dec at h
 obtain ⟨q1, l1, e0, h⟩ := popT_some h
 obtain ⟨r1, l2, rfl, h⟩ := popN_some h
 obtain ⟨r2, l3, rfl, h⟩ := popB_some h
 obtain ⟨rfl, h⟩ := nil1_some h
 obtain ⟨rfl, h⟩ := nil1_some h
 have h := Option.some.inj h
 have e0 := (List.cons.inj e0).1
 exact ⟨r1, r2, h.symm, e0⟩
noncomputable def acmelaw01_sum.f (k : Nat) (a0_0 : Int) (a0_1 : Int) (a1_0 : Int) (a1_1 : Int) : Option (Int × Bool) := (acmelaw01_sum.T acmelaw01_known.f a0_0 a0_1 a1_0 a1_1).bind acmelaw01_sum.dec
theorem acmelaw01_sum.calls (k : Nat) (a0_0 : Int) (a0_1 : Int) (a1_0 : Int) (a1_1 : Int) (r1 : Int) (r2 : Bool) (w : World) (h : acmelaw01_sum.f k a0_0 a0_1 a1_0 a1_1 = some (r1, r2)) :
  Calls Try.prog 39 #[.agg #[.int .i64 a0_0, .int .i64 a0_1], .agg #[.int .i64 a1_0, .int .i64 a1_1]] w fun e w' => e = .returned (.tuple #[.int .i64 r1, .bool r2]) ∧ Below w.heap.size w w' := by
 unfold acmelaw01_sum.f at h
 obtain ⟨v, h1, h2⟩ := Option.bind_eq_some_iff.mp h
 obtain ⟨r1', r2', e1, e2⟩ := acmelaw01_sum.dec_some h2
 simp only [Prod.mk.injEq] at e1
 obtain ⟨rfl, rfl⟩ := e1
 obtain rfl := e2
 exact ask_calls (by kernel_rfl) noNum (orc_ok k) (orc_le k) rfl ((acmelaw01_sum.run acmelaw01_known.f a0_0 a0_1 a1_0 a1_1).trans h1) w
end Go.Proofs.Yticbhgjenidjlaa.T
namespace Go.Proofs.Yticbhgjenidjlaa.T.RThreadTooth
open Go Go.RowKit Go.Proofs.Yticbhgjenidjlaa.Ab Go.Proofs.Yticbhgjenidjlaa.T
set_option linter.unusedVariables false
section
variable {R : Type} (g15 : Int → Int → Int → Int → Int → Int → Bool → Int → Int → Option (Int × Int × Int)) (g22 : Int → Int → Int → Int → Int → Int → Bool → Int → Int → Int → Option (Int × Int × Int)) (g37 : Int → Int → Int → Int → Int → Int → Int → Bool → Option (Int × Int × Int × Int × Int × Int × Bool × Int)) (g38 : Int → Int → Int → Int → Int → Int → Bool → Int → Int → Option (Int)) (g39 : Int → Int → Int → Int → Option (Int × Bool)) (g18 : Option (Bool))
def openK (f : FuncId) : Option (List Value → (Value → Option R) → Option R) :=
  match f with
  | 15 => some fun args c => popA args fun q args => popN .i64 q fun a0_0 q => popN .i64 q fun a0_1 q => popN .i64 q fun a0_2 q => popN .i64 q fun a0_3 q => popN .i64 q fun a0_4 q => popN .i64 q fun a0_5 q => popB q fun a0_6 q => popN .i64 q fun a0_7 q => nil1 q <| popN .i64 args fun a1 args => nil1 args <| (g15 a0_0 a0_1 a0_2 a0_3 a0_4 a0_5 a0_6 a0_7 a1).bind fun r => c (.tuple ⟨[.agg ⟨[.int .i64 r.1, .int .i64 r.2.1]⟩, .int .i64 r.2.2]⟩)
  | 22 => some fun args c => popA args fun q args => popN .i64 q fun a0_0 q => popN .i64 q fun a0_1 q => popN .i64 q fun a0_2 q => popN .i64 q fun a0_3 q => popN .i64 q fun a0_4 q => popN .i64 q fun a0_5 q => popB q fun a0_6 q => popN .i64 q fun a0_7 q => nil1 q <| popN .i64 args fun a1 args => popN .i64 args fun a2 args => nil1 args <| (g22 a0_0 a0_1 a0_2 a0_3 a0_4 a0_5 a0_6 a0_7 a1 a2).bind fun r => c (.tuple ⟨[.agg ⟨[.int .i64 r.1, .int .i64 r.2.1]⟩, .int .i64 r.2.2]⟩)
  | 37 => some fun args c => popA args fun q args => popN .u16 q fun a0_0 q => popN .u16 q fun a0_1 q => popN .u16 q fun a0_2 q => popN .u16 q fun a0_3 q => popN .u16 q fun a0_4 q => popN .u8 q fun a0_5 q => popN .u8 q fun a0_6 q => popB q fun a0_7 q => nil1 q <| nil1 args <| (g37 a0_0 a0_1 a0_2 a0_3 a0_4 a0_5 a0_6 a0_7).bind fun r => c (.agg ⟨[.int .i64 r.1, .int .i64 r.2.1, .int .i64 r.2.2.1, .int .i64 r.2.2.2.1, .int .i64 r.2.2.2.2.1, .int .i64 r.2.2.2.2.2.1, .bool r.2.2.2.2.2.2.1, .int .i64 r.2.2.2.2.2.2.2]⟩)
  | 38 => some fun args c => popA args fun q args => popN .i64 q fun a0_0 q => popN .i64 q fun a0_1 q => popN .i64 q fun a0_2 q => popN .i64 q fun a0_3 q => popN .i64 q fun a0_4 q => popN .i64 q fun a0_5 q => popB q fun a0_6 q => popN .i64 q fun a0_7 q => nil1 q <| popN .u16 args fun a1 args => nil1 args <| (g38 a0_0 a0_1 a0_2 a0_3 a0_4 a0_5 a0_6 a0_7 a1).bind fun r => c (.int .i64 r)
  | 39 => some fun args c => popA args fun q args => popN .i64 q fun a0_0 q => popN .i64 q fun a0_1 q => nil1 q <| popA args fun q args => popN .i64 q fun a1_0 q => popN .i64 q fun a1_1 q => nil1 q <| nil1 args <| (g39 a0_0 a0_1 a1_0 a1_1).bind fun r => c (.tuple ⟨[.int .i64 r.1, .bool r.2]⟩)
  | 18 => some fun args c => nil1 args <| (g18).bind fun r => c (.bool r)
  | _ => none
end
noncomputable def orcK {R : Type} (k : Nat) : FuncId → Option (List Value → (Value → Option R) → Option R) := openK (thread_Width.f k) (thread_Area.f k) acmelaw01_Cut_form.f acmelaw01_at.f (acmelaw01_sum.f k) acmelaw01_known.f
noncomputable def orc (k : Nat) (f : FuncId) : Option (List Value → Option Value) := (orcK (R := Value) k f).map fun g args => g args some
theorem orc_le {R : Type} (k : Nat) : OrcLe (R := R) (orc k) (orcK k) := by
  intro f
  unfold orc orcK openK
  split
  · exact .inr ⟨_, _, rfl, rfl, fun args c => popA_le fun q args => popN_le fun a0_0 q => popN_le fun a0_1 q => popN_le fun a0_2 q => popN_le fun a0_3 q => popN_le fun a0_4 q => popN_le fun a0_5 q => popB_le fun a0_6 q => popN_le fun a0_7 q => nil1_le <| popN_le fun a1 args => nil1_le <| bind_le _ _ _⟩
  · exact .inr ⟨_, _, rfl, rfl, fun args c => popA_le fun q args => popN_le fun a0_0 q => popN_le fun a0_1 q => popN_le fun a0_2 q => popN_le fun a0_3 q => popN_le fun a0_4 q => popN_le fun a0_5 q => popB_le fun a0_6 q => popN_le fun a0_7 q => nil1_le <| popN_le fun a1 args => popN_le fun a2 args => nil1_le <| bind_le _ _ _⟩
  · exact .inr ⟨_, _, rfl, rfl, fun args c => popA_le fun q args => popN_le fun a0_0 q => popN_le fun a0_1 q => popN_le fun a0_2 q => popN_le fun a0_3 q => popN_le fun a0_4 q => popN_le fun a0_5 q => popN_le fun a0_6 q => popB_le fun a0_7 q => nil1_le <| nil1_le <| bind_le _ _ _⟩
  · exact .inr ⟨_, _, rfl, rfl, fun args c => popA_le fun q args => popN_le fun a0_0 q => popN_le fun a0_1 q => popN_le fun a0_2 q => popN_le fun a0_3 q => popN_le fun a0_4 q => popN_le fun a0_5 q => popB_le fun a0_6 q => popN_le fun a0_7 q => nil1_le <| popN_le fun a1 args => nil1_le <| bind_le _ _ _⟩
  · exact .inr ⟨_, _, rfl, rfl, fun args c => popA_le fun q args => popN_le fun a0_0 q => popN_le fun a0_1 q => nil1_le <| popA_le fun q args => popN_le fun a1_0 q => popN_le fun a1_1 q => nil1_le <| nil1_le <| bind_le _ _ _⟩
  · exact .inr ⟨_, _, rfl, rfl, fun args c => nil1_le <| bind_le _ _ _⟩
  · exact .inl ⟨rfl, rfl⟩
theorem orc_ok (k : Nat) : OrcOK Try.prog (orc k) := by
  intro f g args v hf h
  unfold orc orcK openK at hf
  obtain ⟨gK, h1, rfl⟩ := Option.map_eq_some_iff.mp hf
  split at h1
  · simp only [Option.some.injEq] at h1
    subst h1
    dsimp only at h
    replace h := popA_some h
    obtain ⟨q, args, rfl, h⟩ := h
    replace h := popN_some h
    obtain ⟨a0_0, q, rfl, h⟩ := h
    replace h := popN_some h
    obtain ⟨a0_1, q, rfl, h⟩ := h
    replace h := popN_some h
    obtain ⟨a0_2, q, rfl, h⟩ := h
    replace h := popN_some h
    obtain ⟨a0_3, q, rfl, h⟩ := h
    replace h := popN_some h
    obtain ⟨a0_4, q, rfl, h⟩ := h
    replace h := popN_some h
    obtain ⟨a0_5, q, rfl, h⟩ := h
    replace h := popB_some h
    obtain ⟨a0_6, q, rfl, h⟩ := h
    replace h := popN_some h
    obtain ⟨a0_7, q, rfl, h⟩ := h
    replace h := nil1_some h
    obtain ⟨rfl, h⟩ := h
    replace h := popN_some h
    obtain ⟨a1, args, rfl, h⟩ := h
    replace h := nil1_some h
    obtain ⟨rfl, h⟩ := h
    obtain ⟨⟨r1, r2, r3⟩, h1, h2⟩ := Option.bind_eq_some_iff.mp h
    simp only [Option.some.injEq] at h2
    subst h2
    exact ⟨⟨_, Try.func15, rfl⟩, rfl, rfl, fun w => thread_Width.calls k a0_0 a0_1 a0_2 a0_3 a0_4 a0_5 a0_6 a0_7 a1 r1 r2 r3 w h1⟩
  · simp only [Option.some.injEq] at h1
    subst h1
    dsimp only at h
    replace h := popA_some h
    obtain ⟨q, args, rfl, h⟩ := h
    replace h := popN_some h
    obtain ⟨a0_0, q, rfl, h⟩ := h
    replace h := popN_some h
    obtain ⟨a0_1, q, rfl, h⟩ := h
    replace h := popN_some h
    obtain ⟨a0_2, q, rfl, h⟩ := h
    replace h := popN_some h
    obtain ⟨a0_3, q, rfl, h⟩ := h
    replace h := popN_some h
    obtain ⟨a0_4, q, rfl, h⟩ := h
    replace h := popN_some h
    obtain ⟨a0_5, q, rfl, h⟩ := h
    replace h := popB_some h
    obtain ⟨a0_6, q, rfl, h⟩ := h
    replace h := popN_some h
    obtain ⟨a0_7, q, rfl, h⟩ := h
    replace h := nil1_some h
    obtain ⟨rfl, h⟩ := h
    replace h := popN_some h
    obtain ⟨a1, args, rfl, h⟩ := h
    replace h := popN_some h
    obtain ⟨a2, args, rfl, h⟩ := h
    replace h := nil1_some h
    obtain ⟨rfl, h⟩ := h
    obtain ⟨⟨r1, r2, r3⟩, h1, h2⟩ := Option.bind_eq_some_iff.mp h
    simp only [Option.some.injEq] at h2
    subst h2
    exact ⟨⟨_, Try.func22, rfl⟩, rfl, rfl, fun w => thread_Area.calls k a0_0 a0_1 a0_2 a0_3 a0_4 a0_5 a0_6 a0_7 a1 a2 r1 r2 r3 w h1⟩
  · simp only [Option.some.injEq] at h1
    subst h1
    dsimp only at h
    replace h := popA_some h
    obtain ⟨q, args, rfl, h⟩ := h
    replace h := popN_some h
    obtain ⟨a0_0, q, rfl, h⟩ := h
    replace h := popN_some h
    obtain ⟨a0_1, q, rfl, h⟩ := h
    replace h := popN_some h
    obtain ⟨a0_2, q, rfl, h⟩ := h
    replace h := popN_some h
    obtain ⟨a0_3, q, rfl, h⟩ := h
    replace h := popN_some h
    obtain ⟨a0_4, q, rfl, h⟩ := h
    replace h := popN_some h
    obtain ⟨a0_5, q, rfl, h⟩ := h
    replace h := popN_some h
    obtain ⟨a0_6, q, rfl, h⟩ := h
    replace h := popB_some h
    obtain ⟨a0_7, q, rfl, h⟩ := h
    replace h := nil1_some h
    obtain ⟨rfl, h⟩ := h
    replace h := nil1_some h
    obtain ⟨rfl, h⟩ := h
    obtain ⟨⟨r1, r2, r3, r4, r5, r6, r7, r8⟩, h1, h2⟩ := Option.bind_eq_some_iff.mp h
    simp only [Option.some.injEq] at h2
    subst h2
    exact ⟨⟨_, Try.func37, rfl⟩, rfl, rfl, fun w => acmelaw01_Cut_form.calls a0_0 a0_1 a0_2 a0_3 a0_4 a0_5 a0_6 a0_7 r1 r2 r3 r4 r5 r6 r7 r8 w h1⟩
  · simp only [Option.some.injEq] at h1
    subst h1
    dsimp only at h
    replace h := popA_some h
    obtain ⟨q, args, rfl, h⟩ := h
    replace h := popN_some h
    obtain ⟨a0_0, q, rfl, h⟩ := h
    replace h := popN_some h
    obtain ⟨a0_1, q, rfl, h⟩ := h
    replace h := popN_some h
    obtain ⟨a0_2, q, rfl, h⟩ := h
    replace h := popN_some h
    obtain ⟨a0_3, q, rfl, h⟩ := h
    replace h := popN_some h
    obtain ⟨a0_4, q, rfl, h⟩ := h
    replace h := popN_some h
    obtain ⟨a0_5, q, rfl, h⟩ := h
    replace h := popB_some h
    obtain ⟨a0_6, q, rfl, h⟩ := h
    replace h := popN_some h
    obtain ⟨a0_7, q, rfl, h⟩ := h
    replace h := nil1_some h
    obtain ⟨rfl, h⟩ := h
    replace h := popN_some h
    obtain ⟨a1, args, rfl, h⟩ := h
    replace h := nil1_some h
    obtain ⟨rfl, h⟩ := h
    obtain ⟨r, h1, h2⟩ := Option.bind_eq_some_iff.mp h
    simp only [Option.some.injEq] at h2
    subst h2
    exact ⟨⟨_, Try.func38, rfl⟩, rfl, rfl, fun w => acmelaw01_at.calls a0_0 a0_1 a0_2 a0_3 a0_4 a0_5 a0_6 a0_7 a1 r w h1⟩
  · simp only [Option.some.injEq] at h1
    subst h1
    dsimp only at h
    replace h := popA_some h
    obtain ⟨q, args, rfl, h⟩ := h
    replace h := popN_some h
    obtain ⟨a0_0, q, rfl, h⟩ := h
    replace h := popN_some h
    obtain ⟨a0_1, q, rfl, h⟩ := h
    replace h := nil1_some h
    obtain ⟨rfl, h⟩ := h
    replace h := popA_some h
    obtain ⟨q, args, rfl, h⟩ := h
    replace h := popN_some h
    obtain ⟨a1_0, q, rfl, h⟩ := h
    replace h := popN_some h
    obtain ⟨a1_1, q, rfl, h⟩ := h
    replace h := nil1_some h
    obtain ⟨rfl, h⟩ := h
    replace h := nil1_some h
    obtain ⟨rfl, h⟩ := h
    obtain ⟨⟨r1, r2⟩, h1, h2⟩ := Option.bind_eq_some_iff.mp h
    simp only [Option.some.injEq] at h2
    subst h2
    exact ⟨⟨_, Try.func39, rfl⟩, rfl, rfl, fun w => acmelaw01_sum.calls k a0_0 a0_1 a1_0 a1_1 r1 r2 w h1⟩
  · simp only [Option.some.injEq] at h1
    subst h1
    dsimp only at h
    replace h := nil1_some h
    obtain ⟨rfl, h⟩ := h
    obtain ⟨r, h1, h2⟩ := Option.bind_eq_some_iff.mp h
    simp only [Option.some.injEq] at h2
    subst h2
    exact ⟨⟨_, Try.func18, rfl⟩, rfl, rfl, fun w => acmelaw01_known.calls r w h1⟩
  · simp at h1
end Go.Proofs.Yticbhgjenidjlaa.T.RThreadTooth
namespace Go.Proofs.Yticbhgjenidjlaa.T
open Go Go.RowKit Go.Proofs.Yticbhgjenidjlaa.Ab Go.Proofs.Yticbhgjenidjlaa.T.RThreadTooth
set_option linter.unusedVariables false
noncomputable def acmelaw01_ThreadTooth.T (g15 : Int → Int → Int → Int → Int → Int → Bool → Int → Int → Option (Int × Int × Int)) (g22 : Int → Int → Int → Int → Int → Int → Bool → Int → Int → Int → Option (Int × Int × Int)) (g37 : Int → Int → Int → Int → Int → Int → Int → Bool → Option (Int × Int × Int × Int × Int × Int × Bool × Int)) (g38 : Int → Int → Int → Int → Int → Int → Bool → Int → Int → Option (Int)) (g39 : Int → Int → Int → Int → Option (Int × Bool)) (g18 : Option (Bool)) (a0_0 : Int) (a0_1 : Int) (a0_2 : Int) (a0_3 : Int) (a0_4 : Int) (a0_5 : Int) (a0_6 : Int) (a0_7 : Bool) (a1_0 : Int) (a1_1 : Int) (a1_2 : Int) : Option Value := (g37 a0_0 a0_1 a0_2 a0_3 a0_4 a0_5 a0_6 a0_7).bind fun r0 => (g38 r0.fst r0.snd.fst r0.snd.snd.fst r0.snd.snd.snd.fst r0.snd.snd.snd.snd.fst r0.snd.snd.snd.snd.snd.fst r0.snd.snd.snd.snd.snd.snd.fst r0.snd.snd.snd.snd.snd.snd.snd a1_0).bind fun r1 => (g38 r0.fst r0.snd.fst r0.snd.snd.fst r0.snd.snd.snd.fst r0.snd.snd.snd.snd.fst r0.snd.snd.snd.snd.snd.fst r0.snd.snd.snd.snd.snd.snd.fst r0.snd.snd.snd.snd.snd.snd.snd a1_1).bind fun r2 => (g38 r0.fst r0.snd.fst r0.snd.snd.fst r0.snd.snd.snd.fst r0.snd.snd.snd.snd.fst r0.snd.snd.snd.snd.snd.fst r0.snd.snd.snd.snd.snd.snd.fst r0.snd.snd.snd.snd.snd.snd.snd a1_2).bind fun r3 => (g15 r0.fst r0.snd.fst r0.snd.snd.fst r0.snd.snd.snd.fst r0.snd.snd.snd.snd.fst r0.snd.snd.snd.snd.snd.fst r0.snd.snd.snd.snd.snd.snd.fst r0.snd.snd.snd.snd.snd.snd.snd (if r3 < if r2 < r1 then r2 else r1 then r3 else if r2 < r1 then r2 else r1)).bind fun r4 => (g15 r0.fst r0.snd.fst r0.snd.snd.fst r0.snd.snd.snd.fst r0.snd.snd.snd.snd.fst r0.snd.snd.snd.snd.snd.fst r0.snd.snd.snd.snd.snd.snd.fst r0.snd.snd.snd.snd.snd.snd.snd (if r3 > if r2 > r1 then r2 else r1 then r3 else if r2 > r1 then r2 else r1)).bind fun r5 => (g15 r0.fst r0.snd.fst r0.snd.snd.fst r0.snd.snd.snd.fst r0.snd.snd.snd.snd.fst r0.snd.snd.snd.snd.snd.fst r0.snd.snd.snd.snd.snd.snd.fst r0.snd.snd.snd.snd.snd.snd.snd 0).bind fun r6 => (g22 r0.fst r0.snd.fst r0.snd.snd.fst r0.snd.snd.snd.fst r0.snd.snd.snd.snd.fst r0.snd.snd.snd.snd.snd.fst r0.snd.snd.snd.snd.snd.snd.fst r0.snd.snd.snd.snd.snd.snd.snd (if r3 < if r2 < r1 then r2 else r1 then r3 else if r2 < r1 then r2 else r1) (if (if r3 < if r2 > r1 then r2 else r1 then r3 else if r2 > r1 then r2 else r1) > if r2 < r1 then r2 else r1 then if r3 < if r2 > r1 then r2 else r1 then r3 else if r2 > r1 then r2 else r1 else if r2 < r1 then r2 else r1)).bind fun r7 => (g22 r0.fst r0.snd.fst r0.snd.snd.fst r0.snd.snd.snd.fst r0.snd.snd.snd.snd.fst r0.snd.snd.snd.snd.snd.fst r0.snd.snd.snd.snd.snd.snd.fst r0.snd.snd.snd.snd.snd.snd.snd (if (if r3 < if r2 > r1 then r2 else r1 then r3 else if r2 > r1 then r2 else r1) > if r2 < r1 then r2 else r1 then if r3 < if r2 > r1 then r2 else r1 then r3 else if r2 > r1 then r2 else r1 else if r2 < r1 then r2 else r1) (if r3 > if r2 > r1 then r2 else r1 then r3 else if r2 > r1 then r2 else r1)).bind fun r8 => (g22 r0.fst r0.snd.fst r0.snd.snd.fst r0.snd.snd.snd.fst r0.snd.snd.snd.snd.fst r0.snd.snd.snd.snd.snd.fst r0.snd.snd.snd.snd.snd.snd.fst r0.snd.snd.snd.snd.snd.snd.snd (if r3 < if r2 < r1 then r2 else r1 then r3 else if r2 < r1 then r2 else r1) (if r3 > if r2 > r1 then r2 else r1 then r3 else if r2 > r1 then r2 else r1)).bind fun r9 => (bif r4.snd.snd != 0 then some (.bool (false)) else (bif r5.snd.snd != 0 then some (.bool (false)) else (bif r6.snd.snd != 0 then some (.bool (false)) else (bif r7.snd.snd != 0 then some (.bool (false)) else (bif r8.snd.snd != 0 then some (.bool (false)) else (bif r9.snd.snd != 0 then some (.bool (false)) else (g39 r4.fst r4.snd.fst (IntKind.i64.wrap (0 - r5.fst)) r5.snd.fst).bind fun r10 => (g39 r6.fst r6.snd.fst r6.fst r6.snd.fst).bind fun r11 => (g39 r5.fst r5.snd.fst 0 1).bind fun r12 => (g39 r4.fst r4.snd.fst 0 1).bind fun r13 => (g39 r7.fst r7.snd.fst r8.fst r8.snd.fst).bind fun r14 => (g39 r9.fst r9.snd.fst 0 1).bind fun r15 => (bif r10.snd then (bif r11.snd then (bif r12.snd then (bif r13.snd then (bif r14.snd then (bif r15.snd then (bif r10.fst == IntKind.i64.wrap (IntKind.i64.wrap (2 * IntKind.i64.wrap ((if r3 > if r2 > r1 then r2 else r1 then r3 else if r2 > r1 then r2 else r1) - if r3 < if r2 < r1 then r2 else r1 then r3 else if r2 < r1 then r2 else r1)) * IntKind.i64.wrap (r0.snd.fst + r0.snd.snd.fst)) then (bif r11.fst == IntKind.i64.wrap (2000 * r0.fst) then (bif decide (r12.fst ≥ 0) then (bif decide (r13.fst ≤ IntKind.i64.wrap (2000 * r0.fst)) then (bif r14.fst == r15.fst then (g18).bind fun r16 => some (.bool (r16)) else some (.bool (false))) else some (.bool (false))) else some (.bool (false))) else some (.bool (false))) else some (.bool (false))) else some (.bool (false))) else some (.bool (false))) else some (.bool (false))) else some (.bool (false))) else some (.bool (false))) else some (.bool (false)))))))))
set_option maxRecDepth 1000000 in
theorem acmelaw01_ThreadTooth.run (g15 : Int → Int → Int → Int → Int → Int → Bool → Int → Int → Option (Int × Int × Int)) (g22 : Int → Int → Int → Int → Int → Int → Bool → Int → Int → Int → Option (Int × Int × Int)) (g37 : Int → Int → Int → Int → Int → Int → Int → Bool → Option (Int × Int × Int × Int × Int × Int × Bool × Int)) (g38 : Int → Int → Int → Int → Int → Int → Bool → Int → Int → Option (Int)) (g39 : Int → Int → Int → Int → Option (Int × Bool)) (g18 : Option (Bool)) (a0_0 : Int) (a0_1 : Int) (a0_2 : Int) (a0_3 : Int) (a0_4 : Int) (a0_5 : Int) (a0_6 : Int) (a0_7 : Bool) (a1_0 : Int) (a1_1 : Int) (a1_2 : Int) : aCallK Try.prog (openK g15 g22 g37 g38 g39 g18) (fun _ => false) 1000 60 0 8 [.agg ⟨[.int .u16 a0_0, .int .u16 a0_1, .int .u16 a0_2, .int .u16 a0_3, .int .u16 a0_4, .int .u8 a0_5, .int .u8 a0_6, .bool a0_7]⟩, .agg ⟨[.int .u16 a1_0, .int .u16 a1_1, .int .u16 a1_2]⟩] ⟨0, []⟩ fin = acmelaw01_ThreadTooth.T g15 g22 g37 g38 g39 g18 a0_0 a0_1 a0_2 a0_3 a0_4 a0_5 a0_6 a0_7 a1_0 a1_1 a1_2 := by kernel_rfl
def acmelaw01_ThreadTooth.dec (v : Value) : Option (Bool) := popB [v] fun r l1 => nil1 l1 (some r)
theorem acmelaw01_ThreadTooth.dec_some {v : Value} {x : Bool} (h : acmelaw01_ThreadTooth.dec v = some x) : ∃ (r : Bool), x = r ∧ v = (.bool r) := by
 unfold acmelaw01_ThreadTooth.dec at h
 obtain ⟨r, l1, e0, h⟩ := popB_some h
 obtain ⟨rfl, h⟩ := nil1_some h
 have h := Option.some.inj h
 have e0 := (List.cons.inj e0).1
 exact ⟨r, h.symm, e0⟩
noncomputable def acmelaw01_ThreadTooth.f (k : Nat) (a0_0 : Int) (a0_1 : Int) (a0_2 : Int) (a0_3 : Int) (a0_4 : Int) (a0_5 : Int) (a0_6 : Int) (a0_7 : Bool) (a1_0 : Int) (a1_1 : Int) (a1_2 : Int) : Option (Bool) := (acmelaw01_ThreadTooth.T (thread_Width.f k) (thread_Area.f k) acmelaw01_Cut_form.f acmelaw01_at.f (acmelaw01_sum.f k) acmelaw01_known.f a0_0 a0_1 a0_2 a0_3 a0_4 a0_5 a0_6 a0_7 a1_0 a1_1 a1_2).bind acmelaw01_ThreadTooth.dec
theorem acmelaw01_ThreadTooth.calls (k : Nat) (a0_0 : Int) (a0_1 : Int) (a0_2 : Int) (a0_3 : Int) (a0_4 : Int) (a0_5 : Int) (a0_6 : Int) (a0_7 : Bool) (a1_0 : Int) (a1_1 : Int) (a1_2 : Int) (r : Bool) (w : World) (h : acmelaw01_ThreadTooth.f k a0_0 a0_1 a0_2 a0_3 a0_4 a0_5 a0_6 a0_7 a1_0 a1_1 a1_2 = some r) :
  Calls Try.prog 8 #[.agg #[.int .u16 a0_0, .int .u16 a0_1, .int .u16 a0_2, .int .u16 a0_3, .int .u16 a0_4, .int .u8 a0_5, .int .u8 a0_6, .bool a0_7], .agg #[.int .u16 a1_0, .int .u16 a1_1, .int .u16 a1_2]] w fun e w' => e = .returned (.bool r) ∧ Below w.heap.size w w' := by
 unfold acmelaw01_ThreadTooth.f at h
 obtain ⟨v, h1, h2⟩ := Option.bind_eq_some_iff.mp h
 obtain ⟨r', e1, e2⟩ := acmelaw01_ThreadTooth.dec_some h2
 obtain rfl := e1
 obtain rfl := e2
 exact ask_calls (by kernel_rfl) noNum (orc_ok k) (orc_le k) rfl ((acmelaw01_ThreadTooth.run (thread_Width.f k) (thread_Area.f k) acmelaw01_Cut_form.f acmelaw01_at.f (acmelaw01_sum.f k) acmelaw01_known.f a0_0 a0_1 a0_2 a0_3 a0_4 a0_5 a0_6 a0_7 a1_0 a1_1 a1_2).trans h1) w
end Go.Proofs.Yticbhgjenidjlaa.T
