-- cut down, squeezed and laid together by pack.py (a program of this repository) out of this seat's texts
import Derived.Below
import Derived.Deep.Draws
import Derived.Deep.AppendLies
import Derived.Maps.AppendAt
import Derived.OwnWalk
import Derived.Laws.BytesArg
import Derived.Laws.MakeOwn
import Derived.Laws.OwnMore
import Derived.Deep.OwnRows
import Derived.Tactics
import Derived.Lib.ConvBytes
import Derived.Laws.Slices
import Derived.WalkKit
import Derived.KernelRfl
import Derived.RowKit3
import Derived.Deep.LoopGhost
import Derived.Deep.QuietTactic
import Derived.BigQuiet
import Derived.WideLaws
import Derived.Deep.DeepCutAuto
import Derived.Deep.CutBlock
import Derived.Deep.RegionHeld3
import Derived.Laws.Rows
import Derived.Lib.AppendStr
import Derived.ArgAppend
import Derived.Laws.IdiomCopy
import Derived.OrdersHeld
import Derived.Laws.BitsLemmas
import Derived.RowKit
import Derived.Test.YtiaiecfnpompcaaProg
import Derived.ChangeKeysEq
import Derived.Laws.StructEq
import Derived.Maps.OwnSet
import Derived.Test.YtiaiecfnpompcaaZL2
import Derived.Test.YtiaiecfnpompcaaZL3
import Derived.Test.YtiaiecfnpompcaaZL4
import Derived.Test.YtiaiecfnpompcaaZL1
namespace Go.Proofs.Ytiaiecfnpompcaa.T
open Go.RowKit Go.Proofs.YtiaiecfnpompcaaW.PrintWords Go.Proofs.YtiaiecfnpompcaaW.PrintLast Go.Proofs.YtiaiecfnpompcaaW.PrintMore
attribute [local go_sem] max2_int min2_int max_two min_two max_three min_three max_four min_four   -- for this text's walks alone
set_option linter.unusedVariables false
set_option linter.unusedSimpArgs false
attribute [local go_sem] wl_100001



theorem info3 : (Try.prog.info? 3).map (fun i => (i.zero, i.size, i.bytes)) = some (some (.int .i64 0), 1, 8) := by kernel_rfl
structure S46 where
  f0 : Int
  f1 : Int
structure S79 where
  f0 : Int
  f1 : Int
  f2 : Int
end Go.Proofs.Ytiaiecfnpompcaa.T
namespace Go.Proofs.Ytiaiecfnpompcaa.T
open Go.RowKit Go.Maps Go.Proofs.YtiaiecfnpompcaaW.PrintWords Go.Proofs.YtiaiecfnpompcaaW.PrintLast
set_option linter.unusedVariables false
def keysI (xs : List Int) : List Lit := xs.map fun n => .int .i64 n
def setI (xs : List Int) : DataW Unit := setOf (.lit (.bool true)) (keysI xs)
theorem setI_snoc (xs : List Int) (x : Int) : setI (xs ++ [x]) = (setI xs).put (.int .i64 x) (.lit (.bool true)) := by
  unfold setI keysI
  rw [List.map_append]
  exact setOf_snoc _ _ _
theorem setI_nil : setI [] = .map [] := by simp [setI, keysI, setOf]
theorem law3 : Keyed Try.prog 3 := int_keyed Try.underlying3
def addI (acc : List Int) (x : Int) : List Int := if acc.any (fun y => y == x) then acc else acc ++ [x]
def distinctI (xs : List Int) : List Int := xs.foldl addI []
theorem addKey_I (acc : List Int) (x : Int) : addKey (keysI acc) (.int .i64 x) = keysI (addI acc x) := by
  unfold addKey addI keysI
  have : (acc.map fun n => Lit.int .i64 n).any (fun y => y.sameKey (.int .i64 x)) = acc.any (fun y => y == x) := by
    rw [List.any_map]
    congr 1
    funext y
    simp only [Lit.sameKey]
    by_cases h : y = x <;> simp [h]
  rw [this]
  split
  · rfl
  · rw [List.map_append]; rfl
theorem foldKey_I : ∀ (xs acc : List Int), (keysI xs).foldl addKey (keysI acc) = keysI (xs.foldl addI acc)
  | [], _ => rfl
  | x :: xs, acc => by
    show (keysI xs).foldl addKey (addKey (keysI acc) (.int .i64 x)) = _
    rw [addKey_I]
    exact foldKey_I xs _
theorem size_setI (xs : List Int) : Maps.size (setI xs) = ((distinctI xs).length : Int) := by
  unfold setI
  rw [size_setOf _ _ (fun x hx => by
    obtain ⟨n, _, rfl⟩ := List.mem_map.1 hx
    trivial)]
  have := foldKey_I xs []
  rw [show keysI ([] : List Int) = [] from rfl] at this
  rw [this]
  simp [keysI, distinctI]
set_option maxRecDepth 100000 in
theorem mill_used.calls (A0 : Option Addr) (c0 : Nat) (l0 : List Int) (w : World) (hr0 : Kd.C (Kd.int .i64) w A0 l0.length l0) (hc0 : l0.length ≤ c0) (hlen : l0.length ≤ 1000000) (hwf : ∀ n ∈ l0, (Lit.int .i64 n).wf = true) :
    Calls Try.prog 89 #[.slice A0 l0.length c0] w fun e w' => e = .returned (.int .i64 ((distinctI l0).length : Int)) ∧ Below w.heap.size w w' := by
  have hmm := @run_makeMap Try.prog
  go_enter Try.func89, Try.ntmps89
  go_wp2
  go_loopw [9] (fun i wr => ∃ k : Nat, k ≤ l0.length ∧ i = .int .i64 k ∧ wr.ownsMap Try.prog 3 (plainElem Try.prog 4) w.heap.size k (setI (l0.take k)) ∧ Below w.heap.size w wr)
    (fun i _ => l0.length - (intOf i).toNat)
  case atStart => exact ⟨0, Nat.zero_le _, rfl, by rw [List.take_zero, setI_nil]; exact World.ownsMap_made _ _ _ _, (Below.refl _ _).alloc (Nat.le_refl _) _⟩
  case round =>
    obtain ⟨k, hk, rfl, hown, hnx⟩ := hrel
    by_cases hlt : k < l0.length
    · have p1 : (0 : Int) ≤ (k : Int) := by omega
      have p2 : (k : Int) < (l0.length : Int) := by omega
      obtain ⟨ad, e1, hx⟩ := Kd.at_int (Kd.C_below hr0 hnx) (k : Int) p1 p2
      cases e1
      rw [Int.toNat_natCast] at hx
      have hkey : keyOf Try.prog 3 (.int .i64 (rd l0 k)) = some (.int .i64 (rd l0 k)) := keyOf_int_mk Try.underlying3 (by
        have : rd l0 k = l0[k] := by simp [rd, hlt]
        rw [this]
        exact hwf _ (List.getElem_mem hlt))
      have p2b : decide ((k : Int) < (l0.length : Int)) = true := decide_eq_true p2
      go_wp2_with (first
        | (at_mapUpdate; refine wpList_mapUpdate_own _ rfl _ _ _ 187 rfl 3 4 law3 Try.underlying187 (plainElem (H := Unit) Try.prog 4) w.heap.size k _ rfl hown (by unfold maxLen; omega) _ _ _ rfl rfl hkey _ [] (plainElem_bool Try.underlying4 true) ?_; intro w1 hown1 hgrow1)
        | go_in)
      go_roundw
      case rel =>
        refine ⟨k + 1, by omega, by go_num, ?_, hnx.grown hgrow1 hnx.size (fun j hj => by cases hj; exact Nat.le_refl _)⟩
        have : l0.take (k + 1) = l0.take k ++ [rd l0 k] := by
          rw [List.take_succ_eq_append_getElem hlt]; simp [rd, hlt]
        rw [this, setI_snoc]
        exact hown1
      case measure => simp [intOf]; omega
    · have p2b : decide ((k : Int) < (l0.length : Int)) = false := decide_eq_false (by omega)
      go_wp2_with (first
        | (at_len; refine wpList_len_own _ rfl _ 187 rfl 3 4 Try.underlying187 _ w.heap.size k _ rfl hown ?_)
        | go_in)
      have : k = l0.length := by omega
      subst this
      go_ret
      refine ⟨?_, hnx⟩
      rw [List.take_length, size_setI]
      rfl
end Go.Proofs.Ytiaiecfnpompcaa.T
