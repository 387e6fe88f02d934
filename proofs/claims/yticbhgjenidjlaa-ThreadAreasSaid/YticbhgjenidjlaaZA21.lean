-- cut down, squeezed and laid together by pack.py (a program of this repository) out of this seat's texts
import Derived.WalkKit
import Derived.Deep.LoopGhost
import Derived.Deep.QuietTactic
import Derived.BigQuiet
import Derived.Shelf.Abstract
import Derived.RangeFuncNested
import Derived.RangeFuncBound
import Derived.RangeFuncCalls
import Derived.RangeFuncLeaves
import Derived.Shelf.RegionOpen
import Derived.OwnWalkIn
import Derived.TacticsInMore
import Derived.LoopNIn
import Derived.LoopIn
import Derived.Test.YticbhgjenidjlaaZA9
import Derived.Test.YticbhgjenidjlaaZA2
import Derived.Test.YticbhgjenidjlaaZA20
import Derived.Test.YticbhgjenidjlaaZA5
import Derived.Test.YticbhgjenidjlaaZA8
import Derived.Test.YticbhgjenidjlaaZA4
import Derived.Test.YticbhgjenidjlaaZA7
import Derived.Test.YticbhgjenidjlaaZA3
import Derived.Test.YticbhgjenidjlaaZA6
import Derived.Test.YticbhgjenidjlaaZA1
namespace Go.Proofs.Yticbhgjenidjlaa.T
open Go.RowKit Go.Proofs.YticbhgjenidjlaaW.PrintWords Go.Proofs.YticbhgjenidjlaaW.PrintLast Go.Proofs.YticbhgjenidjlaaW.PrintMore
set_option linter.unusedVariables false
set_option linter.unusedSimpArgs false

def anyO {α : Type} (p : α → Option Bool) : List α → Option Bool
 | [] => some false
 | x :: xs => (p x).bind fun b => if b = true then some true else anyO p xs
def agg23 (x : S23) : Value := .agg #[.int .i64 x.f0, .int .i64 x.f1, .int .i64 x.f2, .int .i64 x.f3, .int .i64 x.f4, .int .i64 x.f5, .bool x.f6, .int .i64 x.f7]
def PredT (P : Program) (g : Nat) (lb : Array Value) (p : S23 → Option Bool) (w : World) : Prop :=
 ∀ (x : S23) (r : Bool) (W : World), p x = some r → Below w.heap.size w W → Calls P g (#[agg23 x] ++ lb) W fun e w' => e = .returned (.bool r) ∧ Below W.heap.size W w'
theorem drop_rd {xs : List S23} {i : Int} (h0 : 0 ≤ i) (h1 : i < xs.length) : xs.drop i.toNat = rd_T23 xs i :: xs.drop (i + 1).toNat := by
 obtain ⟨k, rfl⟩ : ∃ k : Nat, i = k := ⟨i.toNat, by omega⟩
 have hk : k < xs.length := by omega
 rw [show ((k : Int) + 1).toNat = k + 1 by omega, Int.toNat_natCast, List.drop_eq_getElem_cons hk]
 simp [rd_T23, hk]

set_option maxHeartbeats 1000000 in
set_option maxRecDepth 100000 in
theorem idxT_any (g : Nat) (lb : Array Value) (p : S23 → Option Bool) (eg : ∀ args w, (callFunc g args).run Try.prog w = .ok (.enter g args) w) (A : Option Addr) (c : Nat) (xs : List S23) (b : Bool) (w : World)
  (hr : Kd.C k23 w A xs.length xs) (hb : xs.length ≤ 9223372036854775807) (hp : PredT Try.prog g lb p w) (h : anyO p xs = some b) :
  Calls Try.prog 79 #[.slice A xs.length c, .func (.func g) #[] lb] w fun e w' => (∃ n : Int, e = .returned (.int .i64 n) ∧ (decide (0 ≤ n)) = b) ∧ Below w.heap.size w w' := by
 have hu23 := Try.underlying23
 have HP := hid hp
 have HR := hid hr
 have H0 : Hid (anyO p (xs.drop (0 : Int).toNat) = some b) := h
 clear hp hr h
 go_enter Try.func79, Try.ntmps79
 go_wp2
 go_loopg [5, 8] xs.length (fun gg _ s8 wr => ∃ (i : Int), 0 ≤ i ∧ i ≤ xs.length ∧ xs.length - i.toNat ≤ gg ∧ s8 = .int .i64 i ∧ Hid (Below w.heap.size w wr) ∧ Hid (anyO p (xs.drop i.toNat) = some b))
 case atStart => exact ⟨0, by omega, by omega, by omega, rfl, Below.refl _ _, H0⟩
 case round =>
  obtain ⟨i, h0, h1, hg, rfl, HB, HA⟩ := hrel
  clear H0
  by_cases hlt : i < xs.length
  ·have HR2 := hid (Kd.C_below HR.out HB.out)
   obtain ⟨ad, hAd, hx0, hx1, hx2, hx3, hx4, hx5, hx6, hx7⟩ := at_T23 HR2.out i (by omega) (by omega)
   subst hAd
   have ha := HA.out
   rw [drop_rd h0 hlt] at ha
   simp only [anyO] at ha
   obtain ⟨q, hq, ha⟩ := Option.bind_eq_some_iff.1 ha
   have HC := fun W (hb : Below w.heap.size w W) => HP.out _ _ W hq hb
   have HC := HC wr HB.out
   have HA2 := hid ha
   clear ha hq HA HP
   cases q with
   | true =>
    go_wp2_with (go_at_fn g; refine HC.mono ?_; rintro e w' ⟨rfl, hb'⟩; have HB2 := hid (HB.out.trans (hb'.mono HB.out.size)); clear hb')
    go_ret
    obtain rfl : true = b := Option.some.inj HA2.out
    exact ⟨⟨i, rfl, by simp [h0]⟩, HB2.out⟩
   | false =>
    go_wp2_with (go_at_fn g; refine HC.mono ?_; rintro e w' ⟨rfl, hb'⟩; have HB2 := hid (HB.out.trans (hb'.mono HB.out.size)); clear hb')
    go_roundg (xs.length - (i+1).toNat)
    case measure => omega
    case rel => exact ⟨i + 1, by omega, by omega, by omega, rfl, HB2, HA2⟩
  ·clear HP
   go_wp2
   go_ret
   refine ⟨⟨-1, rfl, ?_⟩, HB.out⟩
   have := HA.out
   rw [List.drop_of_length_le (by omega)] at this
   simpa [anyO] using this

theorem containsT_any (g : Nat) (lb : Array Value) (p : S23 → Option Bool) (eg : ∀ args w, (callFunc g args).run Try.prog w = .ok (.enter g args) w) (A : Option Addr) (c : Nat) (xs : List S23) (b : Bool) (w : World)
  (hr : Kd.C k23 w A xs.length xs) (hb : xs.length ≤ 9223372036854775807) (hp : PredT Try.prog g lb p w) (h : anyO p xs = some b) :
  Calls Try.prog 70 #[.slice A xs.length c, .func (.func g) #[] lb] w fun e w' => e = .returned (.bool b) ∧ Below w.heap.size w w' := by
 have HP := hid hp
 have HR := hid hr
 have H0 := hid h
 clear hp hr h
 go_enter Try.func70, Try.ntmps70
 go_wp2_with (go_at_call 79; refine (idxT_any g lb p eg A c xs b _ HR.out hb HP.out H0.out).mono ?_; rintro e w' ⟨⟨n, rfl, hn⟩, hd⟩; have HN := hid hn; have HD := hid hd; clear hn hd)
 go_ret
 exact ⟨by rw [← HN.out]; rfl, HD.out⟩

def badO (k : Nat) (x : S23) : Option Bool := (thread_Check.f k x.f0 x.f1 x.f2 x.f3 x.f4 x.f5 x.f6 x.f7).bind fun e => some (!(e == 0))
theorem bad_pred (k : Nat) (w : World) : PredT Try.prog 71 #[] (badO k) w := by
 intro x r W hx hb
 obtain ⟨e, he, hr⟩ := Option.bind_eq_some_iff.1 hx
 obtain rfl : (!(e == 0)) = r := Option.some.inj hr
 clear hx hr
 have hu23 := Try.underlying23
 have HE := hid he
 clear he
 show Calls Try.prog 71 #[agg23 x] W _
 unfold agg23
 go_enter Try.func71, Try.ntmps71
 go_wp2_with (go_at_call 14; refine (thread_Check.calls k _ _ _ _ _ _ _ _ e _ HE.out).mono ?_; rintro e' w' ⟨rfl, hb'⟩; have HB2 := hid (((Below.refl _ W).alloc (Nat.le_refl _) _).trans (hb'.mono (by simp))); clear hb')
 go_ret
 exact ⟨rfl, HB2.out⟩

def thread_checkTable.f (k : Nat) (l0 : List S23) : Option Int := if (l0.length : Int) > 100 then some 5 else (anyO (badO k) l0).bind fun b => some (if b = true then 2 else 0)
theorem anyO_mono {α : Type} {p q : α → Option Bool} (h : ∀ x, LeO (p x) (q x)) : ∀ l : List α, LeO (anyO p l) (anyO q l)
 | [] => LeO.refl _
 | x :: xs => by
  unfold anyO
  refine LeO.bind (h x) (fun b => ?_)
  exact LeO.ite (LeO.refl _) (anyO_mono h xs)
theorem thread_checkTable.mono : ∀ l k, LeO (thread_checkTable.f k l) (thread_checkTable.f (k + 1) l) := by
 intro l k
 unfold thread_checkTable.f
 refine LeO.ite (LeO.refl _) (LeO.bind (anyO_mono (fun x => ?_) _) (fun _ => LeO.refl _))
 exact LeO.bind (thread_Check.mono _ _ _ _ _ _ _ _ _) (fun _ => LeO.refl _)
set_option maxRecDepth 100000 in
theorem thread_checkTable.calls (k : Nat) (A0 : Option Addr) (c0 : Nat) (l0 : List S23) (r : Int) (w : World) (hr0 : Kd.C k23 w A0 l0.length l0) (hc0 : l0.length ≤ c0) (h : thread_checkTable.f k l0 = some r) :
  Calls Try.prog 56 #[.slice A0 l0.length c0] w fun e w' => e = .returned (.int .i64 r) ∧ Below w.heap.size w w' := by
 have HR := hid hr0
 clear hr0 hc0
 unfold thread_checkTable.f at h
 by_cases hl : (l0.length : Int) > 100
 ·rw [if_pos hl] at h
  obtain rfl := Option.some.inj h
  go_enter Try.func56, Try.ntmps56
  go_wp2_with fail
  go_ret
  exact ⟨rfl, Below.refl _ _⟩
 ·rw [if_neg hl] at h
  obtain ⟨b, hb, h⟩ := Option.bind_eq_some_iff.1 h
  have hr := Option.some.inj h
  have H := hid hb
  have HQ := hid hr
  clear h hr hb
  cases b with
  | true =>
   go_enter Try.func56, Try.ntmps56
   go_wp2_with (go_at_call 70; refine (containsT_any 71 #[] (badO k) (enters_of Try.func71 (by kernel_rfl) rfl) A0 c0 l0 true _ HR.out (by omega) (bad_pred k _) H.out).mono ?_; rintro e' w' ⟨rfl, hb'⟩; have HB2 := hid hb'; clear hb')
   go_ret
   exact ⟨by rw [← HQ.out]; rfl, HB2.out⟩
  | false =>
   go_enter Try.func56, Try.ntmps56
   go_wp2_with (go_at_call 70; refine (containsT_any 71 #[] (badO k) (enters_of Try.func71 (by kernel_rfl) rfl) A0 c0 l0 false _ HR.out (by omega) (bad_pred k _) H.out).mono ?_; rintro e' w' ⟨rfl, hb'⟩; have HB2 := hid hb'; clear hb')
   go_ret
   exact ⟨by rw [← HQ.out]; rfl, HB2.out⟩
end Go.Proofs.Yticbhgjenidjlaa.T
namespace Go.Proofs.Yticbhgjenidjlaa.T
open Go.RowKit Go.Shelf Go.Proofs.YticbhgjenidjlaaW.PrintWords
set_option linter.unusedVariables false

theorem ownFrom_blk {β : Type} (B b : Nat) (cs : β → Array Value) (t : TypeId) : OwnFrom B (fun (s : β) (W : World) => W.heap[b]? = some (.cells (cs s) t (0, 0))) := by
  intro s W W' row h hg hr
  refine (hg.block b (blk_lt h) ?_).trans h
  intro e
  obtain ⟨_, o, ho, hc⟩ := hr b e.symm
  rw [h] at ho
  cases ho
  cases hc
theorem ownFrom_pure' {β : Type} (B : Nat) (p : β → Prop) : OwnFrom B (fun (s : β) (_ : World) => p s) := fun _ _ _ _ h _ _ => h
theorem keeps_of_below {W W' : World} (h : Below W.heap.size W W') : KeepsOthers W W' := ⟨h.size, fun k o hk _ => (h.block k (blk_lt hk)).trans hk⟩
theorem C_one {w : World} {b : Nat} {n : Int} {t : TypeId} (h : w.heap[b]? = some (.cells #[.int .i64 n] t (0, 0))) : Kd.C (Kd.int .i64) w (some ⟨b, 0, none⟩) 1 [n] := by
  refine Kd.C_of_reads (d := (0 : Int)) (h1 := fun _ => rfl) ⟨rfl, by omega, fun _ => ⟨_, rfl, fun j hj => ?_⟩⟩
  obtain rfl : j = 0 := by omega
  exact (blk_cell h 0).trans rfl
def onlyN (N : Act → World → Prop) : Exit → Act → World → Prop
  | .normal, a, w => N a w
  | _, _, _ => False
theorem wp_onlyN {P : Program} {c : Code} {Q : Exit → Act → World → Prop} {a : Act} {w : World} (h : c.wp P (onlyN (Q .normal)) a w) : c.wp P Q a w :=
  wp_mono h (fun e a w hq => by cases e <;> first | exact hq | exact hq.elim)
end Go.Proofs.Yticbhgjenidjlaa.T
