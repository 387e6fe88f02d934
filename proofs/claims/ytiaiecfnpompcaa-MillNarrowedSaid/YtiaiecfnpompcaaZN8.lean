-- cut down, squeezed and laid together by pack.py (a program of this repository) out of this seat's texts
import Derived.Below
import Derived.Deep.Draws
import Derived.Deep.AppendLies
import Derived.Maps.AppendAt
import Derived.OwnWalk
import Derived.Laws.BytesArg
import Derived.Laws.MakeOwn
import Derived.Laws.OwnMore
import Derived.Deep.OwnRows
import Derived.Tactics
import Derived.Lib.ConvBytes
import Derived.Laws.Slices
import Derived.WalkKit
import Derived.KernelRfl
import Derived.RowKit3
import Derived.Deep.LoopGhost
import Derived.Deep.QuietTactic
import Derived.BigQuiet
import Derived.WideLaws
import Derived.Deep.DeepCutAuto
import Derived.Deep.CutBlock
import Derived.Deep.RegionHeld3
import Derived.Laws.Rows
import Derived.Lib.AppendStr
import Derived.ArgAppend
import Derived.Laws.IdiomCopy
import Derived.OrdersHeld
import Derived.Laws.BitsLemmas
import Derived.RowKit
import Derived.Test.YtiaiecfnpompcaaProg
import Derived.ChangeKeysEq
import Derived.Test.YtiaiecfnpompcaaZN2
import Derived.Test.YtiaiecfnpompcaaZN4
import Derived.Test.YtiaiecfnpompcaaZN7
import Derived.Test.YtiaiecfnpompcaaZN3
import Derived.Test.YtiaiecfnpompcaaZN6
import Derived.Test.YtiaiecfnpompcaaZN5
import Derived.Test.YtiaiecfnpompcaaZN1
namespace Go.Proofs.Ytiaiecfnpompcaa.T
open Go.RowKit Go.Proofs.YtiaiecfnpompcaaW.PrintWords Go.Proofs.YtiaiecfnpompcaaW.PrintLast Go.Proofs.YtiaiecfnpompcaaW.PrintMore
attribute [local go_sem] max2_int min2_int max_two min_two max_three min_three max_four min_four   -- for this text's walks alone
set_option linter.unusedVariables false
set_option linter.unusedSimpArgs false
attribute [local go_sem] wl_100001



theorem info58 : (Try.prog.info? 58).map (fun i => (i.zero, i.size, i.bytes)) = some (some (.agg #[(.int .i64 0), (.int .i64 0), (.int .i64 0)]), 3, 24) := by kernel_rfl
theorem info79 : (Try.prog.info? 79).map (fun i => (i.zero, i.size, i.bytes)) = some (some (.agg #[(.int .i64 0), (.int .i64 0), (.int .i64 0)]), 3, 24) := by kernel_rfl
theorem info144 : (Try.prog.info? 144).map (fun i => (i.zero, i.size, i.bytes)) = some (some (.agg #[(.int .i64 0), (.int .i64 0), (.int .i64 0), (.int .i64 0), (.int .i64 0)]), 5, 40) := by kernel_rfl
structure S46 where
  f0 : Int
  f1 : Int
structure S144 where
  f0 : Int
  f1 : Int
  f2 : Int
  f3 : Int
  f4 : Int
def z144 : S144 := ⟨(0 : Int), (0 : Int), (0 : Int), (0 : Int), (0 : Int)⟩
def k144 : Kd S144 := Kd.iso (Kd.pair (Kd.int .i64) (Kd.pair (Kd.int .i64) (Kd.pair (Kd.int .i64) (Kd.pair (Kd.int .i64) (Kd.int .i64))))) (fun x : S144 => (x.f0, x.f1, x.f2, x.f3, x.f4))
theorem k144_open {w : World} {x : S144} {cs : List Value} (h : k144.K w x cs) : cs = [.int .i64 x.f0, .int .i64 x.f1, .int .i64 x.f2, .int .i64 x.f3, .int .i64 x.f4] := by
  obtain ⟨_, _, rfl, rfl, ⟨_, _, rfl, rfl, ⟨_, _, rfl, rfl, ⟨_, _, rfl, rfl, rfl⟩⟩⟩⟩ := h
  exact rfl
theorem k144_mkM (w : World) (base : Nat) (ok : Nat → Prop) (x : S144)  : k144.M w base ok x [.int .i64 x.f0, .int .i64 x.f1, .int .i64 x.f2, .int .i64 x.f3, .int .i64 x.f4] := ⟨[.int .i64 x.f0], [.int .i64 x.f1, .int .i64 x.f2, .int .i64 x.f3, .int .i64 x.f4], rfl, rfl, ⟨[.int .i64 x.f1], [.int .i64 x.f2, .int .i64 x.f3, .int .i64 x.f4], rfl, rfl, ⟨[.int .i64 x.f2], [.int .i64 x.f3, .int .i64 x.f4], rfl, rfl, ⟨[.int .i64 x.f3], [.int .i64 x.f4], rfl, rfl, rfl⟩⟩⟩⟩
def rd_T144 (xs : List S144) (i : Int) : S144 := xs.getD i.toNat z144
theorem at_T144 {w : World} {A : Option Addr} {n : Nat} {xs : List S144} (h : Kd.C k144 w A n xs) (i : Int) (h0 : 0 ≤ i) (h1 : i < n) : ∃ ad , A = some ad ∧ w.cell? (ad.add (i.toNat * 5)) = some (.int .i64 (rd_T144 xs i).f0) ∧ w.cell? ⟨(ad.add (i.toNat * 5)).block, (ad.add (i.toNat * 5)).off + 1, none⟩ = some (.int .i64 (rd_T144 xs i).f1) ∧ w.cell? ⟨(ad.add (i.toNat * 5)).block, (ad.add (i.toNat * 5)).off + 2, none⟩ = some (.int .i64 (rd_T144 xs i).f2) ∧ w.cell? ⟨(ad.add (i.toNat * 5)).block, (ad.add (i.toNat * 5)).off + 3, none⟩ = some (.int .i64 (rd_T144 xs i).f3) ∧ w.cell? ⟨(ad.add (i.toNat * 5)).block, (ad.add (i.toNat * 5)).off + 4, none⟩ = some (.int .i64 (rd_T144 xs i).f4) := by
  obtain ⟨ad, c, e, _, hK, hc0⟩ := Kd.C_get h z144 i h0 h1
  have hc : ∀ j u, c[j]? = some u → w.cell? (ad.add (i.toNat * 5 + j)) = some u := hc0
  obtain rfl := k144_open hK
  exact ⟨ad, e, hc 0 _ rfl, by rw [← add_field _ _ 1 (by omega)]; exact hc 1 _ rfl, by rw [← add_field _ _ 2 (by omega)]; exact hc 2 _ rfl, by rw [← add_field _ _ 3 (by omega)]; exact hc 3 _ rfl, by rw [← add_field _ _ 4 (by omega)]; exact hc 4 _ rfl⟩

structure S58 where
  f0 : Int
  f1 : Int
  f2 : Int
def z58 : S58 := ⟨(0 : Int), (0 : Int), (0 : Int)⟩
def k58 : Kd S58 := Kd.iso (Kd.pair (Kd.int .i64) (Kd.pair (Kd.int .i64) (Kd.int .i64))) (fun x : S58 => (x.f0, x.f1, x.f2))
theorem k58_open {w : World} {x : S58} {cs : List Value} (h : k58.K w x cs) : cs = [.int .i64 x.f0, .int .i64 x.f1, .int .i64 x.f2] := by
  obtain ⟨_, _, rfl, rfl, ⟨_, _, rfl, rfl, rfl⟩⟩ := h
  exact rfl
theorem k58_mkM (w : World) (base : Nat) (ok : Nat → Prop) (x : S58)  : k58.M w base ok x [.int .i64 x.f0, .int .i64 x.f1, .int .i64 x.f2] := ⟨[.int .i64 x.f0], [.int .i64 x.f1, .int .i64 x.f2], rfl, rfl, ⟨[.int .i64 x.f1], [.int .i64 x.f2], rfl, rfl, rfl⟩⟩
def rd_T58 (xs : List S58) (i : Int) : S58 := xs.getD i.toNat z58
theorem at_T58 {w : World} {A : Option Addr} {n : Nat} {xs : List S58} (h : Kd.C k58 w A n xs) (i : Int) (h0 : 0 ≤ i) (h1 : i < n) : ∃ ad , A = some ad ∧ w.cell? (ad.add (i.toNat * 3)) = some (.int .i64 (rd_T58 xs i).f0) ∧ w.cell? ⟨(ad.add (i.toNat * 3)).block, (ad.add (i.toNat * 3)).off + 1, none⟩ = some (.int .i64 (rd_T58 xs i).f1) ∧ w.cell? ⟨(ad.add (i.toNat * 3)).block, (ad.add (i.toNat * 3)).off + 2, none⟩ = some (.int .i64 (rd_T58 xs i).f2) := by
  obtain ⟨ad, c, e, _, hK, hc0⟩ := Kd.C_get h z58 i h0 h1
  have hc : ∀ j u, c[j]? = some u → w.cell? (ad.add (i.toNat * 3 + j)) = some u := hc0
  obtain rfl := k58_open hK
  exact ⟨ad, e, hc 0 _ rfl, by rw [← add_field _ _ 1 (by omega)]; exact hc 1 _ rfl, by rw [← add_field _ _ 2 (by omega)]; exact hc 2 _ rfl⟩

structure S79 where
  f0 : Int
  f1 : Int
  f2 : Int
def k79 : Kd S79 := Kd.iso (Kd.pair (Kd.int .i64) (Kd.pair (Kd.int .i64) (Kd.int .i64))) (fun x : S79 => (x.f0, x.f1, x.f2))
theorem k79_openM {w : World} {base : Nat} {ok : Nat → Prop} {x : S79} {cs : List Value} (h : k79.M w base ok x cs) : cs = [.int .i64 x.f0, .int .i64 x.f1, .int .i64 x.f2] := by
  obtain ⟨_, _, rfl, rfl, ⟨_, _, rfl, rfl, rfl⟩⟩ := h
  exact rfl
theorem k79_mkM (w : World) (base : Nat) (ok : Nat → Prop) (x : S79)  : k79.M w base ok x [.int .i64 x.f0, .int .i64 x.f1, .int .i64 x.f2] := ⟨[.int .i64 x.f0], [.int .i64 x.f1, .int .i64 x.f2], rfl, rfl, ⟨[.int .i64 x.f1], [.int .i64 x.f2], rfl, rfl, rfl⟩⟩
structure S162 where
  f0 : Int
  f1 : Int
  f2 : Int
  f3 : Int
def z162 : S162 := ⟨(0 : Int), (0 : Int), (0 : Int), (0 : Int)⟩
def k162 : Kd S162 := Kd.iso (Kd.pair (Kd.int .u8) (Kd.pair (Kd.int .u8) (Kd.pair (Kd.int .u8) (Kd.int .u8)))) (fun x : S162 => (x.f0, x.f1, x.f2, x.f3))
theorem k162_open {w : World} {x : S162} {cs : List Value} (h : k162.K w x cs) : cs = [.int .u8 x.f0, .int .u8 x.f1, .int .u8 x.f2, .int .u8 x.f3] := by
  obtain ⟨_, _, rfl, rfl, ⟨_, _, rfl, rfl, ⟨_, _, rfl, rfl, rfl⟩⟩⟩ := h
  exact rfl
theorem k162_mk (w : World) (x : S162)  : k162.K w x [.int .u8 x.f0, .int .u8 x.f1, .int .u8 x.f2, .int .u8 x.f3] := ⟨[.int .u8 x.f0], [.int .u8 x.f1, .int .u8 x.f2, .int .u8 x.f3], rfl, rfl, ⟨[.int .u8 x.f1], [.int .u8 x.f2, .int .u8 x.f3], rfl, rfl, ⟨[.int .u8 x.f2], [.int .u8 x.f3], rfl, rfl, rfl⟩⟩⟩
def rd_T162 (xs : List S162) (i : Int) : S162 := xs.getD i.toNat z162
theorem at_T162 {w : World} {A : Option Addr} {n : Nat} {xs : List S162} (h : Kd.C k162 w A n xs) (i : Int) (h0 : 0 ≤ i) (h1 : i < n) : ∃ ad , A = some ad ∧ w.cell? (ad.add (i.toNat * 4)) = some (.int .u8 (rd_T162 xs i).f0) ∧ w.cell? ⟨(ad.add (i.toNat * 4)).block, (ad.add (i.toNat * 4)).off + 1, none⟩ = some (.int .u8 (rd_T162 xs i).f1) ∧ w.cell? ⟨(ad.add (i.toNat * 4)).block, (ad.add (i.toNat * 4)).off + 2, none⟩ = some (.int .u8 (rd_T162 xs i).f2) ∧ w.cell? ⟨(ad.add (i.toNat * 4)).block, (ad.add (i.toNat * 4)).off + 3, none⟩ = some (.int .u8 (rd_T162 xs i).f3) := by
  obtain ⟨ad, c, e, _, hK, hc0⟩ := Kd.C_get h z162 i h0 h1
  have hc : ∀ j u, c[j]? = some u → w.cell? (ad.add (i.toNat * 4 + j)) = some u := hc0
  obtain rfl := k162_open hK
  exact ⟨ad, e, hc 0 _ rfl, by rw [← add_field _ _ 1 (by omega)]; exact hc 1 _ rfl, by rw [← add_field _ _ 2 (by omega)]; exact hc 2 _ rfl, by rw [← add_field _ _ 3 (by omega)]; exact hc 3 _ rfl⟩

structure S94 where
  f0 : Int
  f1 : Int
  f2 : Int
def z94 : S94 := ⟨(0 : Int), (0 : Int), (0 : Int)⟩
def k94 : Kd S94 := Kd.iso (Kd.pair (Kd.int .u8) (Kd.pair (Kd.int .u8) (Kd.int .u8))) (fun x : S94 => (x.f0, x.f1, x.f2))
theorem k94_open {w : World} {x : S94} {cs : List Value} (h : k94.K w x cs) : cs = [.int .u8 x.f0, .int .u8 x.f1, .int .u8 x.f2] := by
  obtain ⟨_, _, rfl, rfl, ⟨_, _, rfl, rfl, rfl⟩⟩ := h
  exact rfl
theorem k94_mk (w : World) (x : S94)  : k94.K w x [.int .u8 x.f0, .int .u8 x.f1, .int .u8 x.f2] := ⟨[.int .u8 x.f0], [.int .u8 x.f1, .int .u8 x.f2], rfl, rfl, ⟨[.int .u8 x.f1], [.int .u8 x.f2], rfl, rfl, rfl⟩⟩
def rd_T94 (xs : List S94) (i : Int) : S94 := xs.getD i.toNat z94
theorem at_T94 {w : World} {A : Option Addr} {n : Nat} {xs : List S94} (h : Kd.C k94 w A n xs) (i : Int) (h0 : 0 ≤ i) (h1 : i < n) : ∃ ad , A = some ad ∧ w.cell? (ad.add (i.toNat * 3)) = some (.int .u8 (rd_T94 xs i).f0) ∧ w.cell? ⟨(ad.add (i.toNat * 3)).block, (ad.add (i.toNat * 3)).off + 1, none⟩ = some (.int .u8 (rd_T94 xs i).f1) ∧ w.cell? ⟨(ad.add (i.toNat * 3)).block, (ad.add (i.toNat * 3)).off + 2, none⟩ = some (.int .u8 (rd_T94 xs i).f2) := by
  obtain ⟨ad, c, e, _, hK, hc0⟩ := Kd.C_get h z94 i h0 h1
  have hc : ∀ j u, c[j]? = some u → w.cell? (ad.add (i.toNat * 3 + j)) = some u := hc0
  obtain rfl := k94_open hK
  exact ⟨ad, e, hc 0 _ rfl, by rw [← add_field _ _ 1 (by omega)]; exact hc 1 _ rfl, by rw [← add_field _ _ 2 (by omega)]; exact hc 2 _ rfl⟩

end Go.Proofs.Ytiaiecfnpompcaa.T
namespace Go.Proofs.Ytiaiecfnpompcaa.T
open Go.RowKit Go.Proofs.YtiaiecfnpompcaaW.PrintWords Go.Proofs.YtiaiecfnpompcaaW.PrintLast Go.Proofs.YtiaiecfnpompcaaW.PrintMore
attribute [local go_sem] max2_int min2_int max_two min_two max_three min_three max_four min_four   -- for this text's walks alone
set_option linter.unusedVariables false
set_option linter.unusedSimpArgs false
attribute [local go_sem] wl_100001

def acmelaw12_runs.f (l0 : List (S144)) : Option ((List (S144))) := (some (([] : List (S144)) : List (S144))).bind fun y353 => (if y353.length + l0.length < 3518437208883 then (some (y353 ++ l0)) else (none))
set_option maxHeartbeats 8000000 in
set_option maxRecDepth 100000 in
theorem acmelaw12_runs.calls (A0 : Option Addr) (c0 : Nat) (l0 : List (S144)) (r : List (S144)) (w : World) (hr0 : Kd.C k144 w A0 l0.length l0) (hc0 : l0.length ≤ c0) (h : acmelaw12_runs.f l0 = some r) :
  Calls Try.prog 31 #[.slice A0 l0.length c0] w fun e w' => ∃ v0_ : Value, e = .returned (v0_) ∧ Kd.R k144 144 w' w.heap.size (fun _ => True) v0_ r ∧ Below w.heap.size w w' := by
 have HR0 := Aside0.mk hr0
 have HC0 := Aside0.mk hc0
 clear hr0 hc0
 have HB := Aside0.mk (Below.refl w.heap.size w)
 have H : ((some (([] : List (S144)) : List (S144))).bind fun y353 => (if y353.length + l0.length < 3518437208883 then (some (y353 ++ l0)) else (none))) = some r := h
 clear h
 obtain ⟨y353, hy353⟩ : ∃ y_ : List (S144), y_ = (([] : List (S144))) := ⟨_, rfl⟩
 replace H : (if y353.length + l0.length < 3518437208883 then (some (y353 ++ l0)) else (none)) = some r := by first | (rw [hy353]; with_reducible exact H) | (have H2_ := (Option.bind_some _ _).symm.trans H; rw [hy353]; with_reducible exact H2_) | (have H2_ := (Option.bind_some _ _).symm.trans H; with_reducible exact H2_) | with_reducible exact H | (rw [hy353]; exact H) | exact H
 have Ny353 := Aside0.mk hy353
 clear hy353
 by_cases c2 : y353.length + l0.length < 3518437208883
 ·rw [if_pos c2] at H
  have LMc2 := Aside0.mk c2
  clear c2
  obtain ⟨y356, hy356⟩ : ∃ y_ : List (S144), y_ = (y353 ++ l0) := ⟨_, rfl⟩
  replace H : (some y356) = some r := by first | (rw [hy356]; with_reducible exact H) | (have H2_ := (Option.bind_some _ _).symm.trans H; rw [hy356]; with_reducible exact H2_) | (have H2_ := (Option.bind_some _ _).symm.trans H; with_reducible exact H2_) | with_reducible exact H | (rw [hy356]; exact H) | exact H
  have Ny356 := Aside0.mk hy356
  clear hy356
  obtain rfl := Option.some.inj H
  go_enter Try.func31, Try.ntmps31
  go_wp2_with (first | ((with_reducible refine gate_dst (N := 3) rfl ?_); refine Kd.R_lit k144 _ 144 ?hg (N := 3) ?hd (xs := ([] : List (S144))) (inner := []) (ok := fun _ => True) (okp := fun _ => True) ?hr ?hp (fun _ hk => hk) trivial (Below.refl _ _) (Nat.le_refl _) (by simp) ?_; (case hd => rfl); (case hg => rfl); (case hr => first | (go_simp; done) | (go_simp; rfl)); (case hp => exact (Reps.none _ _)); intro v354 w3 ho4 hb hg_ hnew_; clear hg_ hnew_; (first | rw [← Ny353.out] at ho4 | (simp only [Int.reduceToNat] at ho4; rw [← Ny353.out] at ho4)); have HO355 := Aside0.mk (Kd.R_lower ho4 (below_size HB.out)); replace HB := Aside0.mk (below_step HB.out hb); clear hb ho4) | ((with_reducible refine gate_builtin (b := .append) (xs := #[.tmp 3, .tmp 4]) rfl ?_); at_builtin; refine Kd.R_append_rows k144 (w0 := w) w.heap.size rfl (.tmp 3) (.tmp 4) 56 144 (.agg #[(.int .i64 0), (.int .i64 0), (.int .i64 0), (.int .i64 0), (.int .i64 0)]) 40 rfl Try.underlying56 info144 rfl (by decide) (by omega) v354 y353 l0 _ _ _ (fun _ => True) (fun _ => False) rfl rfl ?aO ?aR (fun _ _ h => h) (fun _ h => h.elim) ?aF ?aB ?aS ?aL ?_; (case aR => repeat (first | exact (Kd.C_below HR0.out HB.out) | (with_reducible refine Kd.C_alloc ?_ _) | (with_reducible refine Kd.C_drewN ?_ _) | (with_reducible refine Kd.C_drew ?_))); (case aB => exact HB.out); (case aF => exact (fun _ _ => trivial)); (case aO => exact (by (with_reducible repeat (first | apply Kd.R_alloc | apply Kd.R_drewN | apply Kd.R_drew)); exact HO355.out)); (case aS => exact (below_size HB.out)); (case aL => have := LMc2.out; omega); intro v357 w5 ho hb hg hat; rw [← Ny356.out] at ho; replace HB := Aside0.mk (hb); have HO358 := Aside0.mk (ho); clear HO355; clear ho hb hg hat))
  go_ret
  exact ⟨_, by first | rfl | (simp [errW_none, errW_some] <;> rfl) | (simp [*, errW_none, errW_some] <;> rfl), by (with_reducible repeat (first | apply Kd.R_alloc | apply Kd.R_drewN | apply Kd.R_drew)); exact HO358.out, by repeat (first | (with_reducible first | exact HB.out | apply below_alloc | apply pw_below_drewN | apply below_drew1) | exact HB.out)⟩
 ·rw [if_neg c2] at H
  exact absurd H (by simp)

end Go.Proofs.Ytiaiecfnpompcaa.T
namespace Go.Proofs.Ytiaiecfnpompcaa.T
open Go.RowKit Go.Proofs.YtiaiecfnpompcaaW.PrintWords Go.Proofs.YtiaiecfnpompcaaW.PrintLast Go.Proofs.YtiaiecfnpompcaaW.PrintMore
attribute [local go_sem] max2_int min2_int max_two min_two max_three min_three max_four min_four   -- for this text's walks alone
set_option linter.unusedVariables false
set_option linter.unusedSimpArgs false
attribute [local go_sem] wl_100001

def acmelaw12_lots.f (l0 : List (S58)) : Option ((List (S58))) := (some (([] : List (S58)) : List (S58))).bind fun y426 => (if y426.length + l0.length < 5864062014805 then (some (y426 ++ l0)) else (none))
set_option maxHeartbeats 8000000 in
set_option maxRecDepth 100000 in
theorem acmelaw12_lots.calls (A0 : Option Addr) (c0 : Nat) (l0 : List (S58)) (r : List (S58)) (w : World) (hr0 : Kd.C k58 w A0 l0.length l0) (hc0 : l0.length ≤ c0) (h : acmelaw12_lots.f l0 = some r) :
  Calls Try.prog 39 #[.slice A0 l0.length c0] w fun e w' => ∃ v0_ : Value, e = .returned (v0_) ∧ Kd.R k58 58 w' w.heap.size (fun _ => True) v0_ r ∧ Below w.heap.size w w' := by
 have HR0 := Aside0.mk hr0
 have HC0 := Aside0.mk hc0
 clear hr0 hc0
 have HB := Aside0.mk (Below.refl w.heap.size w)
 have H : ((some (([] : List (S58)) : List (S58))).bind fun y426 => (if y426.length + l0.length < 5864062014805 then (some (y426 ++ l0)) else (none))) = some r := h
 clear h
 obtain ⟨y426, hy426⟩ : ∃ y_ : List (S58), y_ = (([] : List (S58))) := ⟨_, rfl⟩
 replace H : (if y426.length + l0.length < 5864062014805 then (some (y426 ++ l0)) else (none)) = some r := by first | (rw [hy426]; with_reducible exact H) | (have H2_ := (Option.bind_some _ _).symm.trans H; rw [hy426]; with_reducible exact H2_) | (have H2_ := (Option.bind_some _ _).symm.trans H; with_reducible exact H2_) | with_reducible exact H | (rw [hy426]; exact H) | exact H
 have Ny426 := Aside0.mk hy426
 clear hy426
 by_cases c2 : y426.length + l0.length < 5864062014805
 ·rw [if_pos c2] at H
  have LMc2 := Aside0.mk c2
  clear c2
  obtain ⟨y429, hy429⟩ : ∃ y_ : List (S58), y_ = (y426 ++ l0) := ⟨_, rfl⟩
  replace H : (some y429) = some r := by first | (rw [hy429]; with_reducible exact H) | (have H2_ := (Option.bind_some _ _).symm.trans H; rw [hy429]; with_reducible exact H2_) | (have H2_ := (Option.bind_some _ _).symm.trans H; with_reducible exact H2_) | with_reducible exact H | (rw [hy429]; exact H) | exact H
  have Ny429 := Aside0.mk hy429
  clear hy429
  obtain rfl := Option.some.inj H
  go_enter Try.func39, Try.ntmps39
  go_wp2_with (first | ((with_reducible refine gate_dst (N := 3) rfl ?_); refine Kd.R_lit k58 _ 58 ?hg (N := 3) ?hd (xs := ([] : List (S58))) (inner := []) (ok := fun _ => True) (okp := fun _ => True) ?hr ?hp (fun _ hk => hk) trivial (Below.refl _ _) (Nat.le_refl _) (by simp) ?_; (case hd => rfl); (case hg => rfl); (case hr => first | (go_simp; done) | (go_simp; rfl)); (case hp => exact (Reps.none _ _)); intro v427 w3 ho4 hb hg_ hnew_; clear hg_ hnew_; (first | rw [← Ny426.out] at ho4 | (simp only [Int.reduceToNat] at ho4; rw [← Ny426.out] at ho4)); have HO428 := Aside0.mk (Kd.R_lower ho4 (below_size HB.out)); replace HB := Aside0.mk (below_step HB.out hb); clear hb ho4) | ((with_reducible refine gate_builtin (b := .append) (xs := #[.tmp 3, .tmp 4]) rfl ?_); at_builtin; refine Kd.R_append_rows k58 (w0 := w) w.heap.size rfl (.tmp 3) (.tmp 4) 68 58 (.agg #[(.int .i64 0), (.int .i64 0), (.int .i64 0)]) 24 rfl Try.underlying68 info58 rfl (by decide) (by omega) v427 y426 l0 _ _ _ (fun _ => True) (fun _ => False) rfl rfl ?aO ?aR (fun _ _ h => h) (fun _ h => h.elim) ?aF ?aB ?aS ?aL ?_; (case aR => repeat (first | exact (Kd.C_below HR0.out HB.out) | (with_reducible refine Kd.C_alloc ?_ _) | (with_reducible refine Kd.C_drewN ?_ _) | (with_reducible refine Kd.C_drew ?_))); (case aB => exact HB.out); (case aF => exact (fun _ _ => trivial)); (case aO => exact (by (with_reducible repeat (first | apply Kd.R_alloc | apply Kd.R_drewN | apply Kd.R_drew)); exact HO428.out)); (case aS => exact (below_size HB.out)); (case aL => have := LMc2.out; omega); intro v430 w5 ho hb hg hat; rw [← Ny429.out] at ho; replace HB := Aside0.mk (hb); have HO431 := Aside0.mk (ho); clear HO428; clear ho hb hg hat))
  go_ret
  exact ⟨_, by first | rfl | (simp [errW_none, errW_some] <;> rfl) | (simp [*, errW_none, errW_some] <;> rfl), by (with_reducible repeat (first | apply Kd.R_alloc | apply Kd.R_drewN | apply Kd.R_drew)); exact HO431.out, by repeat (first | (with_reducible first | exact HB.out | apply below_alloc | apply pw_below_drewN | apply below_drew1) | exact HB.out)⟩
 ·rw [if_neg c2] at H
  exact absurd H (by simp)

end Go.Proofs.Ytiaiecfnpompcaa.T
namespace Go.Proofs.Ytiaiecfnpompcaa.T
open Go.RowKit Go.Proofs.YtiaiecfnpompcaaW.PrintWords Go.Proofs.YtiaiecfnpompcaaW.PrintLast Go.Proofs.YtiaiecfnpompcaaW.PrintMore
attribute [local go_sem] max2_int min2_int max_two min_two max_three min_three max_four min_four   -- for this text's walks alone
set_option linter.unusedVariables false
set_option linter.unusedSimpArgs false
attribute [local go_sem] wl_100001

mutual
def acmelaw12_Works_runs.l0 : Nat → List (S144) → Int → List (S162) → List (S94) → Int → Int → Option ((List (S144)))
 | 0, _, _, _, _, _, _ => none
 | k + 1, x3, x5, x192000, x192001, x196000, x196001 => if x5 < (x192000.length : Int) then (if x5 < 10 then (if 0 ≤ x5 then (acmelaw12_Works_runs.j1 k x3 x5 (Int.tmod (wrap64 ((rd_T162 x192000 x5).f0)) 2) x192000 x192001 x196000 x196001 ((rd_T162 x192000 x5).f0) ((rd_T162 x192000 x5).f1) ((rd_T162 x192000 x5).f2) ((rd_T162 x192000 x5).f3)) else (none)) else (some x3)) else (some x3)
def acmelaw12_Works_runs.j1 : Nat → List (S144) → Int → Int → List (S162) → List (S94) → Int → Int → Int → Int → Int → Int → Option ((List (S144)))
 | 0, _, _, _, _, _, _, _, _, _, _, _ => none
 | k + 1, x3, x5, x7, x192000, x192001, x196000, x196001, x198000, x198001, x198002, x198003 => if x7 = 0 then (if x3.length < 3518437208883 then (acmelaw12_Works_runs.l0 k (x3 ++ [(⟨0, wrap64 (x196000 + (Int.tmod (wrap64 (x198001)) 4)), wrap64 ((wrap64 (x196000 + (Int.tmod (wrap64 (x198001)) 4))) + (Int.tmod (wrap64 (x198002)) 6)), Int.tmod (wrap64 (x198003)) 4, Int.tmod (wrap64 (Int.tdiv (wrap64 (x198003)) 16)) 4⟩ : S144)]) (wrap64 (x5 + 1)) x192000 x192001 (wrap64 ((wrap64 ((wrap64 (x196000 + (Int.tmod (wrap64 (x198001)) 4))) + (Int.tmod (wrap64 (x198002)) 6))) + 1)) x196001) else (none)) else (if x7 = 1 then (if x3.length < 3518437208883 then (acmelaw12_Works_runs.l0 k (x3 ++ [(⟨1, wrap64 (x196001 + (Int.tmod (wrap64 (x198001)) 4)), wrap64 ((wrap64 (x196001 + (Int.tmod (wrap64 (x198001)) 4))) + (Int.tmod (wrap64 (x198002)) 6)), Int.tmod (wrap64 (x198003)) 4, Int.tmod (wrap64 (Int.tdiv (wrap64 (x198003)) 16)) 4⟩ : S144)]) (wrap64 (x5 + 1)) x192000 x192001 x196000 (wrap64 ((wrap64 ((wrap64 (x196001 + (Int.tmod (wrap64 (x198001)) 4))) + (Int.tmod (wrap64 (x198002)) 6))) + 1))) else (none)) else (none))
end
def acmelaw12_Works_runs.f (k : Nat) (l0_0 : List (S162)) (l0_1 : List (S94)) : Option ((List (S144))) := acmelaw12_Works_runs.l0 k (([] : List (S144))) 0 l0_0 l0_1 0 0
set_option maxHeartbeats 8000000 in
set_option maxRecDepth 100000 in
theorem acmelaw12_Works_runs.calls (k : Nat) (A0_0 : Option Addr) (c0_0 : Nat) (l0_0 : List (S162)) (A0_1 : Option Addr) (c0_1 : Nat) (l0_1 : List (S94)) (r : List (S144)) (w : World) (hr0_0 : Kd.C k162 w A0_0 l0_0.length l0_0) (hc0_0 : l0_0.length ≤ c0_0) (hr0_1 : Kd.C k94 w A0_1 l0_1.length l0_1) (hc0_1 : l0_1.length ≤ c0_1) (h : acmelaw12_Works_runs.f k l0_0 l0_1 = some r) :
  Calls Try.prog 51 #[.agg #[.slice A0_0 l0_0.length c0_0, .slice A0_1 l0_1.length c0_1]] w fun e w' => ∃ v0_ : Value, e = .returned (v0_) ∧ Kd.R k144 144 w' w.heap.size (fun _ => True) v0_ r ∧ Below w.heap.size w w' := by
 have hu113 := Try.underlying113
 have hu161 := Try.underlying161
 have hu162 := Try.underlying162
 have hu144 := Try.underlying144
 have HR0_0 := Aside0.mk hr0_0
 have HC0_0 := Aside0.mk hc0_0
 clear hr0_0 hc0_0
 have HR0_1 := Aside0.mk hr0_1
 have HC0_1 := Aside0.mk hc0_1
 clear hr0_1 hc0_1
 have HB := Aside0.mk (Below.refl w.heap.size w)
 have H : (acmelaw12_Works_runs.l0 k (([] : List (S144))) 0 l0_0 l0_1 0 0) = some r := h
 clear h
 obtain ⟨y192, hy192⟩ : ∃ y_ : List (S144), y_ = (([] : List (S144))) := ⟨_, rfl⟩
 replace H : (acmelaw12_Works_runs.l0 k y192 0 l0_0 l0_1 0 0) = some r := by first | (rw [hy192]; with_reducible exact H) | (have H2_ := (Option.bind_some _ _).symm.trans H; rw [hy192]; with_reducible exact H2_) | (have H2_ := (Option.bind_some _ _).symm.trans H; with_reducible exact H2_) | with_reducible exact H | (rw [hy192]; exact H) | exact H
 have Ny192 := Aside0.mk hy192
 clear hy192
 have H' := Aside0.mk H
 clear H
 go_enter Try.func51, Try.ntmps51
 go_wp2_with (first | ((with_reducible refine gate_dst (N := 1) rfl ?_); refine box_event ?hg (N := 1) ?hd (cs := #[.slice A0_0 l0_0.length c0_0, .slice A0_1 l0_1.length c0_1]) (t := 113) ?hr ?_; (case hd => rfl); (case hg => rfl); (case hr => first | (go_simp; done) | (go_simp; rfl)); intro gb191 hg w2 hbox hb; have BK191 := Aside0.mk (hbox); have GW191 := Aside0.mk ((by rw [hg]; exact (below_size HB.out) : w.heap.size ≤ gb191)); have GE191 := GW191; replace HB := Aside0.mk (below_step HB.out hb); clear hb hbox hg) | ((with_reducible refine gate_dst (N := 10) rfl ?_); refine Kd.R_lit k144 _ 144 ?hg (N := 10) ?hd (xs := ([] : List (S144))) (inner := []) (ok := fun _ => True) (okp := fun _ => True) ?hr ?hp (fun _ hk => hk) trivial (Below.refl _ _) (Nat.le_refl _) (by simp) ?_; (case hd => rfl); (case hg => rfl); (case hr => first | (go_simp; done) | (go_simp; rfl)); (case hp => exact (Reps.none _ _)); intro v193 w3 ho4 hb hg_ hnew_; clear hg_ hnew_; (first | rw [← Ny192.out] at ho4 | (simp only [Int.reduceToNat] at ho4; rw [← Ny192.out] at ho4)); have HO194 := Aside0.mk (Kd.R_lower ho4 (below_size (by repeat (first | (with_reducible first | exact HB.out | apply below_alloc | apply pw_below_drewN | apply below_drew1 | refine below_set ?_ (Aside0.out (by assumption))) | exact HB.out)))); replace BK191 := Aside0.mk (blk_below (g := gb191) (o := .cells #[.slice A0_0 l0_0.length c0_0, .slice A0_1 l0_1.length c0_1] 113 (0, 0)) (by repeat (first | (with_reducible first | exact BK191.out | refine blk_drewN ?_ _ | refine blk_drew ?_ | refine blk_alloc ?_ _) | exact BK191.out)) hb); replace HB := Aside0.mk (below_step (by repeat (first | (with_reducible first | exact HB.out | apply below_alloc | apply pw_below_drewN | apply below_drew1 | refine below_set ?_ (Aside0.out (by assumption))) | exact HB.out)) hb); clear hb ho4) | ((with_reducible refine gate_dst (N := 4) rfl ?_); refine box_event ?hg (N := 4) ?hd (cs := #[.int .i64 0, .int .i64 0]) (t := 161) ?hr ?_; (case hd => rfl); (case hg => rfl); (case hr => first | (go_simp; done) | (go_simp; rfl)); intro gb195 hg w5 hbox hb; replace HO194 := Aside0.mk (Kd.R_below (by (with_reducible repeat (first | apply Kd.R_alloc | apply Kd.R_drewN | apply Kd.R_drew)); exact HO194.out) hb); have BK195 := Aside0.mk (hbox); have GW195 := Aside0.mk ((by rw [hg]; exact (below_size (by repeat (first | (with_reducible first | exact HB.out | apply below_alloc | apply pw_below_drewN | apply below_drew1 | refine below_set ?_ (Aside0.out (by assumption))) | exact HB.out))) : w.heap.size ≤ gb195)); have GE195 := GW195; replace HB := Aside0.mk (below_step (by repeat (first | (with_reducible first | exact HB.out | apply below_alloc | apply pw_below_drewN | apply below_drew1 | refine below_set ?_ (Aside0.out (by assumption))) | exact HB.out)) hb); have NB191_195 := Aside0.mk ((by rw [hg]; exact Nat.ne_of_lt (blk_lt BK191.out) : gb191 ≠ gb195)); have NB195_191 := Aside0.mk ((by rw [hg]; exact Nat.ne_of_gt (blk_lt BK191.out) : gb195 ≠ gb191)); replace BK191 := Aside0.mk (blk_below (g := gb191) (o := .cells #[.slice A0_0 l0_0.length c0_0, .slice A0_1 l0_1.length c0_1] 113 (0, 0)) (by repeat (first | (with_reducible first | exact BK191.out | refine blk_drewN ?_ _ | refine blk_drew ?_ | refine blk_alloc ?_ _) | exact BK191.out)) hb); clear hb hbox hg; have hnb6 := NB195_191.out; have hnc6 := NB191_195.out; obtain ⟨hcz7_0, hcz7_1⟩ := bc2 BK195.out; obtain ⟨hfz7_0, hfz7_1⟩ := bf2 BK195.out))
 repeat (go_quiet (first | ((with_reducible refine gate_dst (N := 1) rfl ?_); refine box_event ?hg (N := 1) ?hd (cs := #[.slice A0_0 l0_0.length c0_0, .slice A0_1 l0_1.length c0_1]) (t := 113) ?hr ?_; (case hd => rfl); (case hg => rfl); (case hr => first | (go_simp; done) | (go_simp; rfl)); intro gb191 hg w2 hbox hb; have BK191 := Aside0.mk (hbox); have GW191 := Aside0.mk ((by rw [hg]; exact (below_size HB.out) : w.heap.size ≤ gb191)); have GE191 := GW191; replace HB := Aside0.mk (below_step HB.out hb); clear hb hbox hg) | ((with_reducible refine gate_dst (N := 10) rfl ?_); refine Kd.R_lit k144 _ 144 ?hg (N := 10) ?hd (xs := ([] : List (S144))) (inner := []) (ok := fun _ => True) (okp := fun _ => True) ?hr ?hp (fun _ hk => hk) trivial (Below.refl _ _) (Nat.le_refl _) (by simp) ?_; (case hd => rfl); (case hg => rfl); (case hr => first | (go_simp; done) | (go_simp; rfl)); (case hp => exact (Reps.none _ _)); intro v193 w3 ho4 hb hg_ hnew_; clear hg_ hnew_; (first | rw [← Ny192.out] at ho4 | (simp only [Int.reduceToNat] at ho4; rw [← Ny192.out] at ho4)); have HO194 := Aside0.mk (Kd.R_lower ho4 (below_size (by repeat (first | (with_reducible first | exact HB.out | apply below_alloc | apply pw_below_drewN | apply below_drew1 | refine below_set ?_ (Aside0.out (by assumption))) | exact HB.out)))); replace BK191 := Aside0.mk (blk_below (g := gb191) (o := .cells #[.slice A0_0 l0_0.length c0_0, .slice A0_1 l0_1.length c0_1] 113 (0, 0)) (by repeat (first | (with_reducible first | exact BK191.out | refine blk_drewN ?_ _ | refine blk_drew ?_ | refine blk_alloc ?_ _) | exact BK191.out)) hb); replace HB := Aside0.mk (below_step (by repeat (first | (with_reducible first | exact HB.out | apply below_alloc | apply pw_below_drewN | apply below_drew1 | refine below_set ?_ (Aside0.out (by assumption))) | exact HB.out)) hb); clear hb ho4) | ((with_reducible refine gate_dst (N := 4) rfl ?_); refine box_event ?hg (N := 4) ?hd (cs := #[.int .i64 0, .int .i64 0]) (t := 161) ?hr ?_; (case hd => rfl); (case hg => rfl); (case hr => first | (go_simp; done) | (go_simp; rfl)); intro gb195 hg w5 hbox hb; replace HO194 := Aside0.mk (Kd.R_below (by (with_reducible repeat (first | apply Kd.R_alloc | apply Kd.R_drewN | apply Kd.R_drew)); exact HO194.out) hb); have BK195 := Aside0.mk (hbox); have GW195 := Aside0.mk ((by rw [hg]; exact (below_size (by repeat (first | (with_reducible first | exact HB.out | apply below_alloc | apply pw_below_drewN | apply below_drew1 | refine below_set ?_ (Aside0.out (by assumption))) | exact HB.out))) : w.heap.size ≤ gb195)); have GE195 := GW195; replace HB := Aside0.mk (below_step (by repeat (first | (with_reducible first | exact HB.out | apply below_alloc | apply pw_below_drewN | apply below_drew1 | refine below_set ?_ (Aside0.out (by assumption))) | exact HB.out)) hb); have NB191_195 := Aside0.mk ((by rw [hg]; exact Nat.ne_of_lt (blk_lt BK191.out) : gb191 ≠ gb195)); have NB195_191 := Aside0.mk ((by rw [hg]; exact Nat.ne_of_gt (blk_lt BK191.out) : gb195 ≠ gb191)); replace BK191 := Aside0.mk (blk_below (g := gb191) (o := .cells #[.slice A0_0 l0_0.length c0_0, .slice A0_1 l0_1.length c0_1] 113 (0, 0)) (by repeat (first | (with_reducible first | exact BK191.out | refine blk_drewN ?_ _ | refine blk_drew ?_ | refine blk_alloc ?_ _) | exact BK191.out)) hb); clear hb hbox hg; have hnb6 := NB195_191.out; have hnc6 := NB191_195.out; obtain ⟨hcz7_0, hcz7_1⟩ := bc2 BK195.out; obtain ⟨hfz7_0, hfz7_1⟩ := bf2 BK195.out)); try go_wp2_with (first | ((with_reducible refine gate_dst (N := 1) rfl ?_); refine box_event ?hg (N := 1) ?hd (cs := #[.slice A0_0 l0_0.length c0_0, .slice A0_1 l0_1.length c0_1]) (t := 113) ?hr ?_; (case hd => rfl); (case hg => rfl); (case hr => first | (go_simp; done) | (go_simp; rfl)); intro gb191 hg w2 hbox hb; have BK191 := Aside0.mk (hbox); have GW191 := Aside0.mk ((by rw [hg]; exact (below_size HB.out) : w.heap.size ≤ gb191)); have GE191 := GW191; replace HB := Aside0.mk (below_step HB.out hb); clear hb hbox hg) | ((with_reducible refine gate_dst (N := 10) rfl ?_); refine Kd.R_lit k144 _ 144 ?hg (N := 10) ?hd (xs := ([] : List (S144))) (inner := []) (ok := fun _ => True) (okp := fun _ => True) ?hr ?hp (fun _ hk => hk) trivial (Below.refl _ _) (Nat.le_refl _) (by simp) ?_; (case hd => rfl); (case hg => rfl); (case hr => first | (go_simp; done) | (go_simp; rfl)); (case hp => exact (Reps.none _ _)); intro v193 w3 ho4 hb hg_ hnew_; clear hg_ hnew_; (first | rw [← Ny192.out] at ho4 | (simp only [Int.reduceToNat] at ho4; rw [← Ny192.out] at ho4)); have HO194 := Aside0.mk (Kd.R_lower ho4 (below_size (by repeat (first | (with_reducible first | exact HB.out | apply below_alloc | apply pw_below_drewN | apply below_drew1 | refine below_set ?_ (Aside0.out (by assumption))) | exact HB.out)))); replace BK191 := Aside0.mk (blk_below (g := gb191) (o := .cells #[.slice A0_0 l0_0.length c0_0, .slice A0_1 l0_1.length c0_1] 113 (0, 0)) (by repeat (first | (with_reducible first | exact BK191.out | refine blk_drewN ?_ _ | refine blk_drew ?_ | refine blk_alloc ?_ _) | exact BK191.out)) hb); replace HB := Aside0.mk (below_step (by repeat (first | (with_reducible first | exact HB.out | apply below_alloc | apply pw_below_drewN | apply below_drew1 | refine below_set ?_ (Aside0.out (by assumption))) | exact HB.out)) hb); clear hb ho4) | ((with_reducible refine gate_dst (N := 4) rfl ?_); refine box_event ?hg (N := 4) ?hd (cs := #[.int .i64 0, .int .i64 0]) (t := 161) ?hr ?_; (case hd => rfl); (case hg => rfl); (case hr => first | (go_simp; done) | (go_simp; rfl)); intro gb195 hg w5 hbox hb; replace HO194 := Aside0.mk (Kd.R_below (by (with_reducible repeat (first | apply Kd.R_alloc | apply Kd.R_drewN | apply Kd.R_drew)); exact HO194.out) hb); have BK195 := Aside0.mk (hbox); have GW195 := Aside0.mk ((by rw [hg]; exact (below_size (by repeat (first | (with_reducible first | exact HB.out | apply below_alloc | apply pw_below_drewN | apply below_drew1 | refine below_set ?_ (Aside0.out (by assumption))) | exact HB.out))) : w.heap.size ≤ gb195)); have GE195 := GW195; replace HB := Aside0.mk (below_step (by repeat (first | (with_reducible first | exact HB.out | apply below_alloc | apply pw_below_drewN | apply below_drew1 | refine below_set ?_ (Aside0.out (by assumption))) | exact HB.out)) hb); have NB191_195 := Aside0.mk ((by rw [hg]; exact Nat.ne_of_lt (blk_lt BK191.out) : gb191 ≠ gb195)); have NB195_191 := Aside0.mk ((by rw [hg]; exact Nat.ne_of_gt (blk_lt BK191.out) : gb195 ≠ gb191)); replace BK191 := Aside0.mk (blk_below (g := gb191) (o := .cells #[.slice A0_0 l0_0.length c0_0, .slice A0_1 l0_1.length c0_1] 113 (0, 0)) (by repeat (first | (with_reducible first | exact BK191.out | refine blk_drewN ?_ _ | refine blk_drew ?_ | refine blk_alloc ?_ _) | exact BK191.out)) hb); clear hb hbox hg; have hnb6 := NB195_191.out; have hnc6 := NB191_195.out; obtain ⟨hcz7_0, hcz7_1⟩ := bc2 BK195.out; obtain ⟨hfz7_0, hfz7_1⟩ := bf2 BK195.out)))
 go_loopg [3, 5] k (fun kq v3 v5 w' => ∃ (x3_1 : List (S144)) (x5_1 : Int) (x196000_1 : Int) (x196001_1 : Int), v5 = .int .i64 x5_1 ∧ Aside0 (acmelaw12_Works_runs.l0 kq x3_1 x5_1 l0_0 l0_1 x196000_1 x196001_1 = some r) ∧ Aside0 (kq ≤ k) ∧ Aside0 (Kd.R k144 144 w' w.heap.size (fun _ => True) v3 x3_1) ∧ Aside0 (w'.heap[gb191]? = some (.cells #[(.slice A0_0 l0_0.length c0_0), (.slice A0_1 l0_1.length c0_1)] 113 (0, 0))) ∧ Aside0 (w'.heap[gb195]? = some (.cells #[.int .i64 x196000_1, .int .i64 x196001_1] 161 (0, 0))) ∧ Aside0 (Below w.heap.size w w'))
 case atStart => exact ⟨(y192), (0), (0), (0), (by first | rfl | (simp; done) | (simp [*]; done)), H', ⟨Nat.le_refl _⟩, ⟨by (with_reducible repeat (first | apply Kd.R_alloc | apply Kd.R_drewN | apply Kd.R_drew)); exact Kd.R_mono (Kd.R_far (p := ⟨gb195, 1, none⟩) (Kd.R_far (p := ⟨gb195, 0, none⟩) (Kd.R_types HO194.out BK195.out (by decide)) (fun _ hk => hk.2) (.int .i64 0)) (fun _ hk => hk.2) (.int .i64 0)) (fun _ hk => trivial)⟩, ⟨by repeat (first | (with_reducible first | exact BK191.out | refine blk_drewN ?_ _ | refine blk_drew ?_ | refine blk_alloc ?_ _) | refine blk_far ?_ NB191_195.out _ | exact BK191.out)⟩, ⟨by exact bto (bput (bput (BK195.out) _ _) _ _) rfl⟩, ⟨by repeat (first | (with_reducible first | exact HB.out | apply below_alloc | apply pw_below_drewN | apply below_drew1 | refine below_set ?_ (Aside0.out (by assumption))) | exact HB.out)⟩⟩
 case round =>
  clear H'
  try clear p2; try clear c5; try clear c6; try clear hcz7_0; try clear hcz7_1; try clear hfz7_0; try clear hfz7_1
  obtain ⟨x3_1, x5_1, x196000_1, x196001_1, rfl, HA, HK1, HO_3, BK191, BK195, HB⟩ := hrel
  cases gk with
  | zero => exact absurd HA.out (by simp [acmelaw12_Works_runs.l0])
  | succ k1 =>
   have H := HA.out
   clear HA
   simp only [acmelaw12_Works_runs.l0] at H
   by_cases c8 : x5_1 < (l0_0.length : Int)
   ·rw [if_pos c8] at H
    have c8b0 : decide (x5_1 < (l0_0.length : Int)) = true := decide_eq_true c8
    clear c8
    by_cases c9 : x5_1 < 10
    ·rw [if_pos c9] at H
     have c9b0 : decide (x5_1 < 10) = true := decide_eq_true c9
     clear c9
     by_cases c10 : 0 ≤ x5_1
     ·rw [if_pos c10] at H
      have c10b0 : decide (0 ≤ x5_1) = true := decide_eq_true c10
      clear c10
      have HC11 := Aside0.mk H
      clear H
      have hnb12 := NB191_195.out
      have hnc12 := NB195_191.out
      obtain ⟨hcz13_0, hcz13_1⟩ := bc2 BK191.out
      obtain ⟨hfz13_0, hfz13_1⟩ := bf2 BK191.out
      have p196 : 0 ≤ (x5_1 : Int) := of_decide_eq_true ‹_›
      have q196 : x5_1 < (l0_0.length : Int) := of_decide_eq_true ‹_›
      obtain ⟨ad196, e196, hx196_0, hx196_1, hx196_2, hx196_3⟩ := at_T162 HR0_0.out x5_1 p196 q196
      cases e196
      replace hx196_0 := bl_ HB hx196_0
      replace hx196_1 := bl_ HB hx196_1
      replace hx196_2 := bl_ HB hx196_2
      replace hx196_3 := bl_ HB hx196_3
      replace p196 := eq_true p196
      replace q196 := eq_true q196
      go_upto_region 6 with (first | ((with_reducible refine gate_dst (N := 6) rfl ?_); refine box_event ?hg (N := 6) ?hd (cs := #[.int .u8 0, .int .u8 0, .int .u8 0, .int .u8 0]) (t := 162) ?hr ?_; (case hd => rfl); (case hg => rfl); (case hr => first | (go_simp; done) | (go_simp; rfl)); intro gb197 hg w14 hbox hb; replace HO_3 := Aside0.mk (Kd.R_below (by (with_reducible repeat (first | apply Kd.R_alloc | apply Kd.R_drewN | apply Kd.R_drew)); exact HO_3.out) hb); have BK197 := Aside0.mk (hbox); have GW197 := Aside0.mk ((by rw [hg]; exact (below_size (by repeat (first | (with_reducible first | exact HB.out | apply below_alloc | apply pw_below_drewN | apply below_drew1 | refine below_set ?_ (Aside0.out (by assumption))) | exact HB.out))) : w.heap.size ≤ gb197)); have GE197 := GW197; replace HB := Aside0.mk (below_step (by repeat (first | (with_reducible first | exact HB.out | apply below_alloc | apply pw_below_drewN | apply below_drew1 | refine below_set ?_ (Aside0.out (by assumption))) | exact HB.out)) hb); have NB191_197 := Aside0.mk ((by rw [hg]; exact Nat.ne_of_lt (blk_lt BK191.out) : gb191 ≠ gb197)); have NB197_191 := Aside0.mk ((by rw [hg]; exact Nat.ne_of_gt (blk_lt BK191.out) : gb197 ≠ gb191)); replace BK191 := Aside0.mk (blk_below (g := gb191) (o := .cells #[.slice (some ad196) l0_0.length c0_0, .slice A0_1 l0_1.length c0_1] 113 (0, 0)) (by repeat (first | (with_reducible first | exact BK191.out | refine blk_drewN ?_ _ | refine blk_drew ?_ | refine blk_alloc ?_ _) | exact BK191.out)) hb); have NB195_197 := Aside0.mk ((by rw [hg]; exact Nat.ne_of_lt (blk_lt BK195.out) : gb195 ≠ gb197)); have NB197_195 := Aside0.mk ((by rw [hg]; exact Nat.ne_of_gt (blk_lt BK195.out) : gb197 ≠ gb195)); replace BK195 := Aside0.mk (blk_below (g := gb195) (o := .cells #[.int .i64 x196000_1, .int .i64 x196001_1] 161 (0, 0)) (by repeat (first | (with_reducible first | exact BK195.out | refine blk_drewN ?_ _ | refine blk_drew ?_ | refine blk_alloc ?_ _) | exact BK195.out)) hb); clear hb hbox hg; have hnb15 := NB197_191.out; have hnc15 := NB191_197.out; have hnb16 := NB197_195.out; have hnc16 := NB195_197.out; obtain ⟨hcz17_0, hcz17_1, hcz17_2, hcz17_3⟩ := bc4 BK197.out; obtain ⟨hfz17_0, hfz17_1, hfz17_2, hfz17_3⟩ := bf4 BK197.out))
      repeat (go_quiet (first | ((with_reducible refine gate_dst (N := 6) rfl ?_); refine box_event ?hg (N := 6) ?hd (cs := #[.int .u8 0, .int .u8 0, .int .u8 0, .int .u8 0]) (t := 162) ?hr ?_; (case hd => rfl); (case hg => rfl); (case hr => first | (go_simp; done) | (go_simp; rfl)); intro gb197 hg w14 hbox hb; replace HO_3 := Aside0.mk (Kd.R_below (by (with_reducible repeat (first | apply Kd.R_alloc | apply Kd.R_drewN | apply Kd.R_drew)); exact HO_3.out) hb); have BK197 := Aside0.mk (hbox); have GW197 := Aside0.mk ((by rw [hg]; exact (below_size (by repeat (first | (with_reducible first | exact HB.out | apply below_alloc | apply pw_below_drewN | apply below_drew1 | refine below_set ?_ (Aside0.out (by assumption))) | exact HB.out))) : w.heap.size ≤ gb197)); have GE197 := GW197; replace HB := Aside0.mk (below_step (by repeat (first | (with_reducible first | exact HB.out | apply below_alloc | apply pw_below_drewN | apply below_drew1 | refine below_set ?_ (Aside0.out (by assumption))) | exact HB.out)) hb); have NB191_197 := Aside0.mk ((by rw [hg]; exact Nat.ne_of_lt (blk_lt BK191.out) : gb191 ≠ gb197)); have NB197_191 := Aside0.mk ((by rw [hg]; exact Nat.ne_of_gt (blk_lt BK191.out) : gb197 ≠ gb191)); replace BK191 := Aside0.mk (blk_below (g := gb191) (o := .cells #[.slice (some ad196) l0_0.length c0_0, .slice A0_1 l0_1.length c0_1] 113 (0, 0)) (by repeat (first | (with_reducible first | exact BK191.out | refine blk_drewN ?_ _ | refine blk_drew ?_ | refine blk_alloc ?_ _) | exact BK191.out)) hb); have NB195_197 := Aside0.mk ((by rw [hg]; exact Nat.ne_of_lt (blk_lt BK195.out) : gb195 ≠ gb197)); have NB197_195 := Aside0.mk ((by rw [hg]; exact Nat.ne_of_gt (blk_lt BK195.out) : gb197 ≠ gb195)); replace BK195 := Aside0.mk (blk_below (g := gb195) (o := .cells #[.int .i64 x196000_1, .int .i64 x196001_1] 161 (0, 0)) (by repeat (first | (with_reducible first | exact BK195.out | refine blk_drewN ?_ _ | refine blk_drew ?_ | refine blk_alloc ?_ _) | exact BK195.out)) hb); clear hb hbox hg; have hnb15 := NB197_191.out; have hnc15 := NB191_197.out; have hnb16 := NB197_195.out; have hnc16 := NB195_197.out; obtain ⟨hcz17_0, hcz17_1, hcz17_2, hcz17_3⟩ := bc4 BK197.out; obtain ⟨hfz17_0, hfz17_1, hfz17_2, hfz17_3⟩ := bf4 BK197.out)); go_upto_region 6 with (first | ((with_reducible refine gate_dst (N := 6) rfl ?_); refine box_event ?hg (N := 6) ?hd (cs := #[.int .u8 0, .int .u8 0, .int .u8 0, .int .u8 0]) (t := 162) ?hr ?_; (case hd => rfl); (case hg => rfl); (case hr => first | (go_simp; done) | (go_simp; rfl)); intro gb197 hg w14 hbox hb; replace HO_3 := Aside0.mk (Kd.R_below (by (with_reducible repeat (first | apply Kd.R_alloc | apply Kd.R_drewN | apply Kd.R_drew)); exact HO_3.out) hb); have BK197 := Aside0.mk (hbox); have GW197 := Aside0.mk ((by rw [hg]; exact (below_size (by repeat (first | (with_reducible first | exact HB.out | apply below_alloc | apply pw_below_drewN | apply below_drew1 | refine below_set ?_ (Aside0.out (by assumption))) | exact HB.out))) : w.heap.size ≤ gb197)); have GE197 := GW197; replace HB := Aside0.mk (below_step (by repeat (first | (with_reducible first | exact HB.out | apply below_alloc | apply pw_below_drewN | apply below_drew1 | refine below_set ?_ (Aside0.out (by assumption))) | exact HB.out)) hb); have NB191_197 := Aside0.mk ((by rw [hg]; exact Nat.ne_of_lt (blk_lt BK191.out) : gb191 ≠ gb197)); have NB197_191 := Aside0.mk ((by rw [hg]; exact Nat.ne_of_gt (blk_lt BK191.out) : gb197 ≠ gb191)); replace BK191 := Aside0.mk (blk_below (g := gb191) (o := .cells #[.slice (some ad196) l0_0.length c0_0, .slice A0_1 l0_1.length c0_1] 113 (0, 0)) (by repeat (first | (with_reducible first | exact BK191.out | refine blk_drewN ?_ _ | refine blk_drew ?_ | refine blk_alloc ?_ _) | exact BK191.out)) hb); have NB195_197 := Aside0.mk ((by rw [hg]; exact Nat.ne_of_lt (blk_lt BK195.out) : gb195 ≠ gb197)); have NB197_195 := Aside0.mk ((by rw [hg]; exact Nat.ne_of_gt (blk_lt BK195.out) : gb197 ≠ gb195)); replace BK195 := Aside0.mk (blk_below (g := gb195) (o := .cells #[.int .i64 x196000_1, .int .i64 x196001_1] 161 (0, 0)) (by repeat (first | (with_reducible first | exact BK195.out | refine blk_drewN ?_ _ | refine blk_drew ?_ | refine blk_alloc ?_ _) | exact BK195.out)) hb); clear hb hbox hg; have hnb15 := NB197_191.out; have hnc15 := NB191_197.out; have hnb16 := NB197_195.out; have hnc16 := NB195_197.out; obtain ⟨hcz17_0, hcz17_1, hcz17_2, hcz17_3⟩ := bc4 BK197.out; obtain ⟨hfz17_0, hfz17_1, hfz17_2, hfz17_3⟩ := bf4 BK197.out)))
      (try simp only [Act.put, sa_, s0_, s1_])
      go_cut [7] (fun v7 wc => ∃ (kq : Nat) (x7_10 : Int), v7 = .int .i64 x7_10 ∧ Aside0 (acmelaw12_Works_runs.j1 kq x3_1 x5_1 x7_10 l0_0 l0_1 x196000_1 x196001_1 ((rd_T162 l0_0 x5_1).f0) ((rd_T162 l0_0 x5_1).f1) ((rd_T162 l0_0 x5_1).f2) ((rd_T162 l0_0 x5_1).f3) = some r) ∧ Aside0 (kq ≤ k1) ∧ Aside0 (Kd.R k144 144 wc w.heap.size (fun _ => True) u3 x3_1) ∧ Aside0 (wc.heap[gb191]? = some (.cells #[(.slice (some ad196) l0_0.length c0_0), (.slice A0_1 l0_1.length c0_1)] 113 (0, 0))) ∧ Aside0 (wc.heap[gb195]? = some (.cells #[.int .i64 x196000_1, .int .i64 x196001_1] 161 (0, 0))) ∧ Aside0 (wc.heap[gb197]? = some (.cells #[.int .u8 ((rd_T162 l0_0 x5_1).f0), .int .u8 ((rd_T162 l0_0 x5_1).f1), .int .u8 ((rd_T162 l0_0 x5_1).f2), .int .u8 ((rd_T162 l0_0 x5_1).f3)] 162 (0, 0))) ∧ Aside0 (Below w.heap.size w wc))
      case first =>
       have H := HC11.out
       clear HC11
       have H' := Aside0.mk H
       clear H
       have hnb18 := NB197_191.out
       have hnc18 := NB191_197.out
       have hnb19 := NB197_195.out
       have hnc19 := NB195_197.out
       obtain ⟨hcz20_0, hcz20_1, hcz20_2, hcz20_3⟩ := bc4 BK197.out
       obtain ⟨hfz20_0, hfz20_1, hfz20_2, hfz20_3⟩ := bf4 BK197.out
       go_wp2
       repeat (go_quiet (fail); try go_wp2)
       go_meet
       case rel => exact ⟨_, (Int.tmod (wrap64 ((rd_T162 l0_0 x5_1).f0)) 2), (by first | rfl | (simp; done) | (simp [*]; done)), H', ⟨by have := HK1.out; first | omega | exact Nat.le_refl _⟩, ⟨by (with_reducible repeat (first | apply Kd.R_alloc | apply Kd.R_drewN | apply Kd.R_drew)); exact Kd.R_mono (Kd.R_far (p := ⟨gb197, 3, none⟩) (Kd.R_far (p := ⟨gb197, 2, none⟩) (Kd.R_far (p := ⟨gb197, 1, none⟩) (Kd.R_far (p := ⟨gb197, 0, none⟩) (Kd.R_types HO_3.out BK197.out (by decide)) (fun _ hk => hk.2) (.int .u8 ((rd_T162 l0_0 x5_1).f0))) (fun _ hk => hk.2) (.int .u8 ((rd_T162 l0_0 x5_1).f1))) (fun _ hk => hk.2) (.int .u8 ((rd_T162 l0_0 x5_1).f2))) (fun _ hk => hk.2) (.int .u8 ((rd_T162 l0_0 x5_1).f3))) (fun _ hk => trivial)⟩, ⟨by repeat (first | (with_reducible first | exact BK191.out | refine blk_drewN ?_ _ | refine blk_drew ?_ | refine blk_alloc ?_ _) | refine blk_far ?_ NB191_197.out _ | exact BK191.out)⟩, ⟨by repeat (first | (with_reducible first | exact BK195.out | refine blk_drewN ?_ _ | refine blk_drew ?_ | refine blk_alloc ?_ _) | refine blk_far ?_ NB195_197.out _ | exact BK195.out)⟩, ⟨by exact bto (bput (bput (bput (bput (BK197.out) _ _) _ _) _ _) _ _) rfl⟩, ⟨by repeat (first | (with_reducible first | exact HB.out | apply below_alloc | apply pw_below_drewN | apply below_drew1 | refine below_set ?_ (Aside0.out (by assumption))) | exact HB.out)⟩⟩
      case rest =>
       clear HC11
       try clear c1; try clear p1; try clear q1; try clear hx1; try clear p2; try clear c5; try clear c6; try clear p6; try clear c8; try clear c8b0; try clear c9; try clear c9b0; try clear c10; try clear c10b0; try clear c12; try clear c15; try clear c16; try clear c18; try clear c19; try clear p19; try clear q19; try clear hx19; try clear hcz13_0; try clear hcz13_1; try clear hcz17_0; try clear hcz17_1; try clear hcz17_2; try clear hcz17_3; try clear hcz20_0; try clear hcz20_1; try clear hcz20_2; try clear hcz20_3; try clear hcz7_0; try clear hcz7_1; try clear hfz13_0; try clear hfz13_1; try clear hfz17_0; try clear hfz17_1; try clear hfz17_2; try clear hfz17_3; try clear hfz20_0; try clear hfz20_1; try clear hfz20_2; try clear hfz20_3; try clear hfz7_0; try clear hfz7_1; try clear hx196_0; try clear hx196_1; try clear hx196_2; try clear hx196_3; try clear p196; try clear p2; try clear q196
       obtain ⟨kq, x7_10, rfl, HA, HJ10, HO_3, BK191, BK195, BK197, HB⟩ := hcut
       cases kq with
       | zero => exact absurd HA.out (by simp [acmelaw12_Works_runs.j1])
       | succ kj10 =>
        have H := HA.out
        clear HA
        simp only [acmelaw12_Works_runs.j1] at H
        by_cases c21 : x7_10 = 0
        ·subst c21
         have H1 : (if x3_1.length < 3518437208883 then (acmelaw12_Works_runs.l0 kj10 (x3_1 ++ [(⟨0, wrap64 (x196000_1 + (Int.tmod (wrap64 (((rd_T162 l0_0 x5_1).f1))) 4)), wrap64 ((wrap64 (x196000_1 + (Int.tmod (wrap64 (((rd_T162 l0_0 x5_1).f1))) 4))) + (Int.tmod (wrap64 (((rd_T162 l0_0 x5_1).f2))) 6)), Int.tmod (wrap64 (((rd_T162 l0_0 x5_1).f3))) 4, Int.tmod (wrap64 (Int.tdiv (wrap64 (((rd_T162 l0_0 x5_1).f3))) 16)) 4⟩ : S144)]) (wrap64 (x5_1 + 1)) l0_0 l0_1 (wrap64 ((wrap64 ((wrap64 (x196000_1 + (Int.tmod (wrap64 (((rd_T162 l0_0 x5_1).f1))) 4))) + (Int.tmod (wrap64 (((rd_T162 l0_0 x5_1).f2))) 6))) + 1)) x196001_1) else (none)) = some r := by rw [if_pos rfl] at H; exact H
         clear H
         have H := H1
         clear H1
         by_cases c22 : x3_1.length < 3518437208883
         ·rw [if_pos c22] at H
          have LMc22 := Aside0.mk c22
          clear c22
          obtain ⟨y198, hy198⟩ : ∃ y_ : List (S144), y_ = (x3_1 ++ [(⟨0, wrap64 (x196000_1 + (Int.tmod (wrap64 (((rd_T162 l0_0 x5_1).f1))) 4)), wrap64 ((wrap64 (x196000_1 + (Int.tmod (wrap64 (((rd_T162 l0_0 x5_1).f1))) 4))) + (Int.tmod (wrap64 (((rd_T162 l0_0 x5_1).f2))) 6)), Int.tmod (wrap64 (((rd_T162 l0_0 x5_1).f3))) 4, Int.tmod (wrap64 (Int.tdiv (wrap64 (((rd_T162 l0_0 x5_1).f3))) 16)) 4⟩ : S144)]) := ⟨_, rfl⟩
          replace H : (acmelaw12_Works_runs.l0 kj10 y198 (wrap64 (x5_1 + 1)) l0_0 l0_1 (wrap64 ((wrap64 ((wrap64 (x196000_1 + (Int.tmod (wrap64 (((rd_T162 l0_0 x5_1).f1))) 4))) + (Int.tmod (wrap64 (((rd_T162 l0_0 x5_1).f2))) 6))) + 1)) x196001_1) = some r := by first | (rw [hy198]; with_reducible exact H) | (have H2_ := (Option.bind_some _ _).symm.trans H; rw [hy198]; with_reducible exact H2_) | (have H2_ := (Option.bind_some _ _).symm.trans H; with_reducible exact H2_) | with_reducible exact H | (rw [hy198]; exact H) | exact H
          have Ny198 := Aside0.mk hy198
          clear hy198
          have H' := Aside0.mk H
          clear H
          have hnb23 := NB195_191.out
          have hnc23 := NB191_195.out
          have hnb24 := NB195_197.out
          have hnc24 := NB197_195.out
          obtain ⟨hcz25_0, hcz25_1⟩ := bc2 BK195.out
          obtain ⟨hfz25_0, hfz25_1⟩ := bf2 BK195.out
          have hnb26 := NB197_191.out
          have hnc26 := NB191_197.out
          obtain ⟨hcz27_0, hcz27_1, hcz27_2, hcz27_3⟩ := bc4 BK197.out
          obtain ⟨hfz27_0, hfz27_1, hfz27_2, hfz27_3⟩ := bf4 BK197.out
          try go_wp2
          go_quiet (fail)
          go_upto_region 9 with (fail)
          generalize hfr : wrap64 (x196000_1 + (Int.tmod (wrap64 (((rd_T162 l0_0 x5_1).f1))) 4)) = fr at H' Ny198 ⊢
          generalize htt : wrap64 (fr + (Int.tmod (wrap64 (((rd_T162 l0_0 x5_1).f2))) 6)) = tt at H' Ny198 ⊢
          clear hfr htt
          go_wp2_with (first | ((with_reducible refine gate_builtin (b := .append) (xs := #[.tmp 47, .tmp 61]) rfl ?_); at_builtin; refine Kd.R_append k144 (w0 := w) w.heap.size rfl (.tmp 47) (.tmp 61) 56 144 (.agg #[(.int .i64 0), (.int .i64 0), (.int .i64 0), (.int .i64 0), (.int .i64 0)]) 40 rfl Try.underlying56 info144 rfl (by decide) (by omega) u3 x3_1 (⟨0, fr, tt, Int.tmod (wrap64 (((rd_T162 l0_0 x5_1).f3))) 4, Int.tmod (wrap64 (Int.tdiv (wrap64 (((rd_T162 l0_0 x5_1).f3))) 16)) 4⟩ : S144) [.int .i64 0, .int .i64 (fr), .int .i64 (tt), .int .i64 (Int.tmod (wrap64 (((rd_T162 l0_0 x5_1).f3))) 4), .int .i64 (Int.tmod (wrap64 (Int.tdiv (wrap64 (((rd_T162 l0_0 x5_1).f3))) 16)) 4)] (fun _ => True) (fun _ => False) rfl (by first | (go_simp; done) | (go_simp; rfl)) ?aP (fun _ hk => hk.elim) ?aF ?aO ?aB ?aS ?aL ?_; (case aP => exact k144_mkM _ _ _ (⟨0, fr, tt, Int.tmod (wrap64 (((rd_T162 l0_0 x5_1).f3))) 4, Int.tmod (wrap64 (Int.tdiv (wrap64 (((rd_T162 l0_0 x5_1).f3))) 16)) 4⟩ : S144)); (case aB => exact (by repeat (first | (with_reducible first | exact HB.out | apply below_alloc | apply pw_below_drewN | apply below_drew1 | refine below_set ?_ (Aside0.out (by assumption))) | exact HB.out))); (case aF => exact (fun _ _ => trivial)); (case aO => exact (by (with_reducible repeat (first | apply Kd.R_alloc | apply Kd.R_drewN | apply Kd.R_drew)); exact HO_3.out)); (case aS => exact (below_size (by repeat (first | (with_reducible first | exact HB.out | apply below_alloc | apply pw_below_drewN | apply below_drew1 | refine below_set ?_ (Aside0.out (by assumption))) | exact HB.out)))); (case aL => have := LMc22.out; omega); intro v199 w28 ho hb hg hat; rw [← Ny198.out] at ho; replace BK191 := Aside0.mk (blk_grown (g := gb191) (o := .cells #[.slice (some ad196) l0_0.length c0_0, .slice A0_1 l0_1.length c0_1] 113 (0, 0)) (by repeat (first | (with_reducible first | exact BK191.out | refine blk_drewN ?_ _ | refine blk_drew ?_ | refine blk_alloc ?_ _) | exact BK191.out)) hg (Kd.R_ne HO_3.out BK191.out (by decide))); replace BK195 := Aside0.mk (blk_grown (g := gb195) (o := .cells #[.int .i64 x196000_1, .int .i64 x196001_1] 161 (0, 0)) (by repeat (first | (with_reducible first | exact BK195.out | refine blk_drewN ?_ _ | refine blk_drew ?_ | refine blk_alloc ?_ _) | exact BK195.out)) hg (Kd.R_ne HO_3.out BK195.out (by decide))); replace BK197 := Aside0.mk (blk_grown (g := gb197) (o := .cells #[.int .u8 ((rd_T162 l0_0 x5_1).f0), .int .u8 ((rd_T162 l0_0 x5_1).f1), .int .u8 ((rd_T162 l0_0 x5_1).f2), .int .u8 ((rd_T162 l0_0 x5_1).f3)] 162 (0, 0)) (by repeat (first | (with_reducible first | exact BK197.out | refine blk_drewN ?_ _ | refine blk_drew ?_ | refine blk_alloc ?_ _) | exact BK197.out)) hg (Kd.R_ne HO_3.out BK197.out (by decide))); replace HB := Aside0.mk (hb); have HO200 := Aside0.mk (ho); clear HO_3; clear ho hb hg hat; obtain ⟨hcz29_0, hcz29_1⟩ := bc2 BK195.out; obtain ⟨hfz29_0, hfz29_1⟩ := bf2 BK195.out))
          go_roundg kj10
          case measure => have := HK1.out; have := HJ10.out; omega
          case rel => exact ⟨(y198), (wrap64 (x5_1 + 1)), (wrap64 ((tt) + 1)), (x196001_1), (by first | rfl | (simp; done) | (simp [*]; done)), H', ⟨by have := HK1.out; have := HJ10.out; omega⟩, ⟨by (with_reducible repeat (first | apply Kd.R_alloc | apply Kd.R_drewN | apply Kd.R_drew)); exact Kd.R_mono (Kd.R_far (p := ⟨gb195, 0, none⟩) (Kd.R_types HO200.out BK195.out (by decide)) (fun _ hk => hk.2) (.int .i64 (wrap64 ((tt) + 1)))) (fun _ hk => trivial)⟩, ⟨by repeat (first | (with_reducible first | exact BK191.out | refine blk_drewN ?_ _ | refine blk_drew ?_ | refine blk_alloc ?_ _) | refine blk_far ?_ NB191_195.out _ | exact BK191.out)⟩, ⟨by exact bto (bput (BK195.out) _ _) rfl⟩, ⟨by repeat (first | (with_reducible first | exact HB.out | apply below_alloc | apply pw_below_drewN | apply below_drew1 | refine below_set ?_ (Aside0.out (by assumption))) | exact HB.out)⟩⟩
         ·rw [if_neg c22] at H
          exact absurd H (by simp)
        ·rw [if_neg c21] at H
         clear c21
         by_cases c30 : x7_10 = 1
         ·subst c30
          have H1 : (if x3_1.length < 3518437208883 then (acmelaw12_Works_runs.l0 kj10 (x3_1 ++ [(⟨1, wrap64 (x196001_1 + (Int.tmod (wrap64 (((rd_T162 l0_0 x5_1).f1))) 4)), wrap64 ((wrap64 (x196001_1 + (Int.tmod (wrap64 (((rd_T162 l0_0 x5_1).f1))) 4))) + (Int.tmod (wrap64 (((rd_T162 l0_0 x5_1).f2))) 6)), Int.tmod (wrap64 (((rd_T162 l0_0 x5_1).f3))) 4, Int.tmod (wrap64 (Int.tdiv (wrap64 (((rd_T162 l0_0 x5_1).f3))) 16)) 4⟩ : S144)]) (wrap64 (x5_1 + 1)) l0_0 l0_1 x196000_1 (wrap64 ((wrap64 ((wrap64 (x196001_1 + (Int.tmod (wrap64 (((rd_T162 l0_0 x5_1).f1))) 4))) + (Int.tmod (wrap64 (((rd_T162 l0_0 x5_1).f2))) 6))) + 1))) else (none)) = some r := by rw [if_pos rfl] at H; exact H
          clear H
          have H := H1
          clear H1
          by_cases c31 : x3_1.length < 3518437208883
          ·rw [if_pos c31] at H
           have LMc31 := Aside0.mk c31
           clear c31
           obtain ⟨y201, hy201⟩ : ∃ y_ : List (S144), y_ = (x3_1 ++ [(⟨1, wrap64 (x196001_1 + (Int.tmod (wrap64 (((rd_T162 l0_0 x5_1).f1))) 4)), wrap64 ((wrap64 (x196001_1 + (Int.tmod (wrap64 (((rd_T162 l0_0 x5_1).f1))) 4))) + (Int.tmod (wrap64 (((rd_T162 l0_0 x5_1).f2))) 6)), Int.tmod (wrap64 (((rd_T162 l0_0 x5_1).f3))) 4, Int.tmod (wrap64 (Int.tdiv (wrap64 (((rd_T162 l0_0 x5_1).f3))) 16)) 4⟩ : S144)]) := ⟨_, rfl⟩
           replace H : (acmelaw12_Works_runs.l0 kj10 y201 (wrap64 (x5_1 + 1)) l0_0 l0_1 x196000_1 (wrap64 ((wrap64 ((wrap64 (x196001_1 + (Int.tmod (wrap64 (((rd_T162 l0_0 x5_1).f1))) 4))) + (Int.tmod (wrap64 (((rd_T162 l0_0 x5_1).f2))) 6))) + 1))) = some r := by first | (rw [hy201]; with_reducible exact H) | (have H2_ := (Option.bind_some _ _).symm.trans H; rw [hy201]; with_reducible exact H2_) | (have H2_ := (Option.bind_some _ _).symm.trans H; with_reducible exact H2_) | with_reducible exact H | (rw [hy201]; exact H) | exact H
           have Ny201 := Aside0.mk hy201
           clear hy201
           have H' := Aside0.mk H
           clear H
           have hnb32 := NB195_191.out
           have hnc32 := NB191_195.out
           have hnb33 := NB195_197.out
           have hnc33 := NB197_195.out
           obtain ⟨hcz34_0, hcz34_1⟩ := bc2 BK195.out
           obtain ⟨hfz34_0, hfz34_1⟩ := bf2 BK195.out
           have hnb35 := NB197_191.out
           have hnc35 := NB191_197.out
           obtain ⟨hcz36_0, hcz36_1, hcz36_2, hcz36_3⟩ := bc4 BK197.out
           obtain ⟨hfz36_0, hfz36_1, hfz36_2, hfz36_3⟩ := bf4 BK197.out
           try go_wp2
           go_quiet (fail)
           go_upto_region 9 with (fail)
           generalize hfr : wrap64 (x196001_1 + (Int.tmod (wrap64 (((rd_T162 l0_0 x5_1).f1))) 4)) = fr at H' Ny201 ⊢
           generalize htt : wrap64 (fr + (Int.tmod (wrap64 (((rd_T162 l0_0 x5_1).f2))) 6)) = tt at H' Ny201 ⊢
           clear hfr htt
           go_wp2_with (first | ((with_reducible refine gate_builtin (b := .append) (xs := #[.tmp 47, .tmp 61]) rfl ?_); at_builtin; refine Kd.R_append k144 (w0 := w) w.heap.size rfl (.tmp 47) (.tmp 61) 56 144 (.agg #[(.int .i64 0), (.int .i64 0), (.int .i64 0), (.int .i64 0), (.int .i64 0)]) 40 rfl Try.underlying56 info144 rfl (by decide) (by omega) u3 x3_1 (⟨1, fr, tt, Int.tmod (wrap64 (((rd_T162 l0_0 x5_1).f3))) 4, Int.tmod (wrap64 (Int.tdiv (wrap64 (((rd_T162 l0_0 x5_1).f3))) 16)) 4⟩ : S144) [.int .i64 1, .int .i64 (fr), .int .i64 (tt), .int .i64 (Int.tmod (wrap64 (((rd_T162 l0_0 x5_1).f3))) 4), .int .i64 (Int.tmod (wrap64 (Int.tdiv (wrap64 (((rd_T162 l0_0 x5_1).f3))) 16)) 4)] (fun _ => True) (fun _ => False) rfl (by first | (go_simp; done) | (go_simp; rfl)) ?aP (fun _ hk => hk.elim) ?aF ?aO ?aB ?aS ?aL ?_; (case aP => exact k144_mkM _ _ _ (⟨1, fr, tt, Int.tmod (wrap64 (((rd_T162 l0_0 x5_1).f3))) 4, Int.tmod (wrap64 (Int.tdiv (wrap64 (((rd_T162 l0_0 x5_1).f3))) 16)) 4⟩ : S144)); (case aB => exact (by repeat (first | (with_reducible first | exact HB.out | apply below_alloc | apply pw_below_drewN | apply below_drew1 | refine below_set ?_ (Aside0.out (by assumption))) | exact HB.out))); (case aF => exact (fun _ _ => trivial)); (case aO => exact (by (with_reducible repeat (first | apply Kd.R_alloc | apply Kd.R_drewN | apply Kd.R_drew)); exact HO_3.out)); (case aS => exact (below_size (by repeat (first | (with_reducible first | exact HB.out | apply below_alloc | apply pw_below_drewN | apply below_drew1 | refine below_set ?_ (Aside0.out (by assumption))) | exact HB.out)))); (case aL => have := LMc31.out; omega); intro v202 w37 ho hb hg hat; rw [← Ny201.out] at ho; replace BK191 := Aside0.mk (blk_grown (g := gb191) (o := .cells #[.slice (some ad196) l0_0.length c0_0, .slice A0_1 l0_1.length c0_1] 113 (0, 0)) (by repeat (first | (with_reducible first | exact BK191.out | refine blk_drewN ?_ _ | refine blk_drew ?_ | refine blk_alloc ?_ _) | exact BK191.out)) hg (Kd.R_ne HO_3.out BK191.out (by decide))); replace BK195 := Aside0.mk (blk_grown (g := gb195) (o := .cells #[.int .i64 x196000_1, .int .i64 x196001_1] 161 (0, 0)) (by repeat (first | (with_reducible first | exact BK195.out | refine blk_drewN ?_ _ | refine blk_drew ?_ | refine blk_alloc ?_ _) | exact BK195.out)) hg (Kd.R_ne HO_3.out BK195.out (by decide))); replace BK197 := Aside0.mk (blk_grown (g := gb197) (o := .cells #[.int .u8 ((rd_T162 l0_0 x5_1).f0), .int .u8 ((rd_T162 l0_0 x5_1).f1), .int .u8 ((rd_T162 l0_0 x5_1).f2), .int .u8 ((rd_T162 l0_0 x5_1).f3)] 162 (0, 0)) (by repeat (first | (with_reducible first | exact BK197.out | refine blk_drewN ?_ _ | refine blk_drew ?_ | refine blk_alloc ?_ _) | exact BK197.out)) hg (Kd.R_ne HO_3.out BK197.out (by decide))); replace HB := Aside0.mk (hb); have HO203 := Aside0.mk (ho); clear HO_3; clear ho hb hg hat; obtain ⟨hcz38_0, hcz38_1⟩ := bc2 BK195.out; obtain ⟨hfz38_0, hfz38_1⟩ := bf2 BK195.out))
           go_roundg kj10
           case measure => have := HK1.out; have := HJ10.out; omega
           case rel => exact ⟨(y201), (wrap64 (x5_1 + 1)), (x196000_1), (wrap64 ((tt) + 1)), (by first | rfl | (simp; done) | (simp [*]; done)), H', ⟨by have := HK1.out; have := HJ10.out; omega⟩, ⟨by (with_reducible repeat (first | apply Kd.R_alloc | apply Kd.R_drewN | apply Kd.R_drew)); exact Kd.R_mono (Kd.R_far (p := ⟨gb195, 1, none⟩) (Kd.R_types HO203.out BK195.out (by decide)) (fun _ hk => hk.2) (.int .i64 (wrap64 ((tt) + 1)))) (fun _ hk => trivial)⟩, ⟨by repeat (first | (with_reducible first | exact BK191.out | refine blk_drewN ?_ _ | refine blk_drew ?_ | refine blk_alloc ?_ _) | refine blk_far ?_ NB191_195.out _ | exact BK191.out)⟩, ⟨by exact bto (bput (BK195.out) _ _) rfl⟩, ⟨by repeat (first | (with_reducible first | exact HB.out | apply below_alloc | apply pw_below_drewN | apply below_drew1 | refine below_set ?_ (Aside0.out (by assumption))) | exact HB.out)⟩⟩
          ·rw [if_neg c31] at H
           exact absurd H (by simp)
         ·rw [if_neg c30] at H
          exact absurd H (by simp)
     ·rw [if_neg c10] at H
      exact absurd H (by simp)
    ·rw [if_neg c9] at H
     have c9b0 : decide (x5_1 < 10) = false := decide_eq_false c9
     clear c9
     obtain rfl := Option.some.inj H
     have hnb39 := NB191_195.out
     have hnc39 := NB195_191.out
     obtain ⟨hcz40_0, hcz40_1⟩ := bc2 BK191.out
     obtain ⟨hfz40_0, hfz40_1⟩ := bf2 BK191.out
     go_wp2
     repeat (go_quiet (fail); try go_wp2)
     go_ret
     exact ⟨_, by first | rfl | (simp [errW_none, errW_some] <;> rfl) | (simp [*, errW_none, errW_some] <;> rfl), by (with_reducible repeat (first | apply Kd.R_alloc | apply Kd.R_drewN | apply Kd.R_drew)); exact HO_3.out, by repeat (first | (with_reducible first | exact HB.out | apply below_alloc | apply pw_below_drewN | apply below_drew1 | refine below_set ?_ (Aside0.out (by assumption))) | exact HB.out)⟩
   ·rw [if_neg c8] at H
    have c8b0 : decide (x5_1 < (l0_0.length : Int)) = false := decide_eq_false c8
    clear c8
    obtain rfl := Option.some.inj H
    have hnb41 := NB191_195.out
    have hnc41 := NB195_191.out
    obtain ⟨hcz42_0, hcz42_1⟩ := bc2 BK191.out
    obtain ⟨hfz42_0, hfz42_1⟩ := bf2 BK191.out
    go_wp2
    repeat (go_quiet (fail); try go_wp2)
    go_ret
    exact ⟨_, by first | rfl | (simp [errW_none, errW_some] <;> rfl) | (simp [*, errW_none, errW_some] <;> rfl), by (with_reducible repeat (first | apply Kd.R_alloc | apply Kd.R_drewN | apply Kd.R_drew)); exact HO_3.out, by repeat (first | (with_reducible first | exact HB.out | apply below_alloc | apply pw_below_drewN | apply below_drew1 | refine below_set ?_ (Aside0.out (by assumption))) | exact HB.out)⟩

end Go.Proofs.Ytiaiecfnpompcaa.T
namespace Go.Proofs.Ytiaiecfnpompcaa.T
open Go.RowKit Go.Proofs.YtiaiecfnpompcaaW.PrintWords Go.Proofs.YtiaiecfnpompcaaW.PrintLast Go.Proofs.YtiaiecfnpompcaaW.PrintMore
attribute [local go_sem] max2_int min2_int max_two min_two max_three min_three max_four min_four   -- for this text's walks alone
set_option linter.unusedVariables false
set_option linter.unusedSimpArgs false
attribute [local go_sem] wl_100001

def acmelaw12_Works_lots.l0 : Nat → List (S58) → Int → List (S162) → List (S94) → Option ((List (S58)))
 | 0, _, _, _, _ => none
 | k + 1, x3, x4, x575000, x575001 => if x4 < (x575001.length : Int) then (if x4 < 8 then (if 0 ≤ x4 then (if x3.length < 5864062014805 then (acmelaw12_Works_lots.l0 k (x3 ++ [(⟨Int.tmod (wrap64 ((rd_T94 x575001 x4).f0)) 2, Int.tmod (wrap64 ((rd_T94 x575001 x4).f1)) 25, wrap64 ((Int.tmod (wrap64 ((rd_T94 x575001 x4).f1)) 25) + (Int.tmod (wrap64 ((rd_T94 x575001 x4).f2)) 12))⟩ : S58)]) (wrap64 (x4 + 1)) x575000 x575001) else (none)) else (none)) else (some x3)) else (some x3)
def acmelaw12_Works_lots.f (k : Nat) (l0_0 : List (S162)) (l0_1 : List (S94)) : Option ((List (S58))) := acmelaw12_Works_lots.l0 k (([] : List (S58))) 0 l0_0 l0_1
set_option maxHeartbeats 8000000 in
set_option maxRecDepth 100000 in
theorem acmelaw12_Works_lots.calls (k : Nat) (A0_0 : Option Addr) (c0_0 : Nat) (l0_0 : List (S162)) (A0_1 : Option Addr) (c0_1 : Nat) (l0_1 : List (S94)) (r : List (S58)) (w : World) (hr0_0 : Kd.C k162 w A0_0 l0_0.length l0_0) (hc0_0 : l0_0.length ≤ c0_0) (hr0_1 : Kd.C k94 w A0_1 l0_1.length l0_1) (hc0_1 : l0_1.length ≤ c0_1) (h : acmelaw12_Works_lots.f k l0_0 l0_1 = some r) :
  Calls Try.prog 52 #[.agg #[.slice A0_0 l0_0.length c0_0, .slice A0_1 l0_1.length c0_1]] w fun e w' => ∃ v0_ : Value, e = .returned (v0_) ∧ Kd.R k58 58 w' w.heap.size (fun _ => True) v0_ r ∧ Below w.heap.size w w' := by
 have hu113 := Try.underlying113
 have hu94 := Try.underlying94
 have hu58 := Try.underlying58
 have HR0_0 := Aside0.mk hr0_0
 have HC0_0 := Aside0.mk hc0_0
 clear hr0_0 hc0_0
 have HR0_1 := Aside0.mk hr0_1
 have HC0_1 := Aside0.mk hc0_1
 clear hr0_1 hc0_1
 have HB := Aside0.mk (Below.refl w.heap.size w)
 have H : (acmelaw12_Works_lots.l0 k (([] : List (S58))) 0 l0_0 l0_1) = some r := h
 clear h
 obtain ⟨y575, hy575⟩ : ∃ y_ : List (S58), y_ = (([] : List (S58))) := ⟨_, rfl⟩
 replace H : (acmelaw12_Works_lots.l0 k y575 0 l0_0 l0_1) = some r := by first | (rw [hy575]; with_reducible exact H) | (have H2_ := (Option.bind_some _ _).symm.trans H; rw [hy575]; with_reducible exact H2_) | (have H2_ := (Option.bind_some _ _).symm.trans H; with_reducible exact H2_) | with_reducible exact H | (rw [hy575]; exact H) | exact H
 have Ny575 := Aside0.mk hy575
 clear hy575
 have H' := Aside0.mk H
 clear H
 go_enter Try.func52, Try.ntmps52
 go_wp2_with (first | ((with_reducible refine gate_dst (N := 1) rfl ?_); refine box_event ?hg (N := 1) ?hd (cs := #[.slice A0_0 l0_0.length c0_0, .slice A0_1 l0_1.length c0_1]) (t := 113) ?hr ?_; (case hd => rfl); (case hg => rfl); (case hr => first | (go_simp; done) | (go_simp; rfl)); intro gb574 hg w2 hbox hb; have BK574 := Aside0.mk (hbox); have GW574 := Aside0.mk ((by rw [hg]; exact (below_size HB.out) : w.heap.size ≤ gb574)); have GE574 := GW574; replace HB := Aside0.mk (below_step HB.out hb); clear hb hbox hg) | ((with_reducible refine gate_dst (N := 7) rfl ?_); refine Kd.R_lit k58 _ 58 ?hg (N := 7) ?hd (xs := ([] : List (S58))) (inner := []) (ok := fun _ => True) (okp := fun _ => True) ?hr ?hp (fun _ hk => hk) trivial (Below.refl _ _) (Nat.le_refl _) (by simp) ?_; (case hd => rfl); (case hg => rfl); (case hr => first | (go_simp; done) | (go_simp; rfl)); (case hp => exact (Reps.none _ _)); intro v576 w3 ho4 hb hg_ hnew_; clear hg_ hnew_; (first | rw [← Ny575.out] at ho4 | (simp only [Int.reduceToNat] at ho4; rw [← Ny575.out] at ho4)); have HO577 := Aside0.mk (Kd.R_lower ho4 (below_size (by repeat (first | (with_reducible first | exact HB.out | apply below_alloc | apply pw_below_drewN | apply below_drew1 | refine below_set ?_ (Aside0.out (by assumption))) | exact HB.out)))); replace BK574 := Aside0.mk (blk_below (g := gb574) (o := .cells #[.slice A0_0 l0_0.length c0_0, .slice A0_1 l0_1.length c0_1] 113 (0, 0)) (by repeat (first | (with_reducible first | exact BK574.out | refine blk_drewN ?_ _ | refine blk_drew ?_ | refine blk_alloc ?_ _) | exact BK574.out)) hb); replace HB := Aside0.mk (below_step (by repeat (first | (with_reducible first | exact HB.out | apply below_alloc | apply pw_below_drewN | apply below_drew1 | refine below_set ?_ (Aside0.out (by assumption))) | exact HB.out)) hb); clear hb ho4))
 go_loopg [3, 4] k (fun kq v3 v4 w' => ∃ (x3_1 : List (S58)) (x4_1 : Int), v4 = .int .i64 x4_1 ∧ Aside0 (acmelaw12_Works_lots.l0 kq x3_1 x4_1 l0_0 l0_1 = some r) ∧ Aside0 (kq ≤ k) ∧ Aside0 (Kd.R k58 58 w' w.heap.size (fun _ => True) v3 x3_1) ∧ Aside0 (w'.heap[gb574]? = some (.cells #[(.slice A0_0 l0_0.length c0_0), (.slice A0_1 l0_1.length c0_1)] 113 (0, 0))) ∧ Aside0 (Below w.heap.size w w'))
 case atStart => exact ⟨(y575), (0), (by first | rfl | (simp; done) | (simp [*]; done)), H', ⟨Nat.le_refl _⟩, ⟨by (with_reducible repeat (first | apply Kd.R_alloc | apply Kd.R_drewN | apply Kd.R_drew)); exact HO577.out⟩, BK574, ⟨by repeat (first | (with_reducible first | exact HB.out | apply below_alloc | apply pw_below_drewN | apply below_drew1 | refine below_set ?_ (Aside0.out (by assumption))) | exact HB.out)⟩⟩
 case round =>
  clear H'
  try clear p2
  obtain ⟨x3_1, x4_1, rfl, HA, HK1, HO_3, BK574, HB⟩ := hrel
  cases gk with
  | zero => exact absurd HA.out (by simp [acmelaw12_Works_lots.l0])
  | succ k1 =>
   have H := HA.out
   clear HA
   simp only [acmelaw12_Works_lots.l0] at H
   by_cases c5 : x4_1 < (l0_1.length : Int)
   ·rw [if_pos c5] at H
    have c5b0 : decide (x4_1 < (l0_1.length : Int)) = true := decide_eq_true c5
    clear c5
    by_cases c6 : x4_1 < 8
    ·rw [if_pos c6] at H
     have c6b0 : decide (x4_1 < 8) = true := decide_eq_true c6
     clear c6
     by_cases c7 : 0 ≤ x4_1
     ·rw [if_pos c7] at H
      have c7b0 : decide (0 ≤ x4_1) = true := decide_eq_true c7
      clear c7
      by_cases c8 : x3_1.length < 5864062014805
      ·rw [if_pos c8] at H
       have LMc8 := Aside0.mk c8
       clear c8
       obtain ⟨y580, hy580⟩ : ∃ y_ : List (S58), y_ = (x3_1 ++ [(⟨Int.tmod (wrap64 ((rd_T94 l0_1 x4_1).f0)) 2, Int.tmod (wrap64 ((rd_T94 l0_1 x4_1).f1)) 25, wrap64 ((Int.tmod (wrap64 ((rd_T94 l0_1 x4_1).f1)) 25) + (Int.tmod (wrap64 ((rd_T94 l0_1 x4_1).f2)) 12))⟩ : S58)]) := ⟨_, rfl⟩
       replace H : (acmelaw12_Works_lots.l0 k1 y580 (wrap64 (x4_1 + 1)) l0_0 l0_1) = some r := by first | (rw [hy580]; with_reducible exact H) | (have H2_ := (Option.bind_some _ _).symm.trans H; rw [hy580]; with_reducible exact H2_) | (have H2_ := (Option.bind_some _ _).symm.trans H; with_reducible exact H2_) | with_reducible exact H | (rw [hy580]; exact H) | exact H
       have Ny580 := Aside0.mk hy580
       clear hy580
       have H' := Aside0.mk H
       clear H
       obtain ⟨hcz9_0, hcz9_1⟩ := bc2 BK574.out
       obtain ⟨hfz9_0, hfz9_1⟩ := bf2 BK574.out
       have p578 : 0 ≤ (x4_1 : Int) := of_decide_eq_true ‹_›
       have q578 : x4_1 < (l0_1.length : Int) := of_decide_eq_true ‹_›
       obtain ⟨ad578, e578, hx578_0, hx578_1, hx578_2⟩ := at_T94 HR0_1.out x4_1 p578 q578
       cases e578
       replace hx578_0 := bl_ HB hx578_0
       replace hx578_1 := bl_ HB hx578_1
       replace hx578_2 := bl_ HB hx578_2
       replace p578 := eq_true p578
       replace q578 := eq_true q578
       go_wp2_with (first | ((with_reducible refine gate_dst (N := 5) rfl ?_); refine box_event ?hg (N := 5) ?hd (cs := #[.int .u8 0, .int .u8 0, .int .u8 0]) (t := 94) ?hr ?_; (case hd => rfl); (case hg => rfl); (case hr => first | (go_simp; done) | (go_simp; rfl)); intro gb579 hg w10 hbox hb; replace HO_3 := Aside0.mk (Kd.R_below (by (with_reducible repeat (first | apply Kd.R_alloc | apply Kd.R_drewN | apply Kd.R_drew)); exact HO_3.out) hb); have BK579 := Aside0.mk (hbox); have GW579 := Aside0.mk ((by rw [hg]; exact (below_size (by repeat (first | (with_reducible first | exact HB.out | apply below_alloc | apply pw_below_drewN | apply below_drew1 | refine below_set ?_ (Aside0.out (by assumption))) | exact HB.out))) : w.heap.size ≤ gb579)); have GE579 := GW579; replace HB := Aside0.mk (below_step (by repeat (first | (with_reducible first | exact HB.out | apply below_alloc | apply pw_below_drewN | apply below_drew1 | refine below_set ?_ (Aside0.out (by assumption))) | exact HB.out)) hb); have NB574_579 := Aside0.mk ((by rw [hg]; exact Nat.ne_of_lt (blk_lt BK574.out) : gb574 ≠ gb579)); have NB579_574 := Aside0.mk ((by rw [hg]; exact Nat.ne_of_gt (blk_lt BK574.out) : gb579 ≠ gb574)); replace BK574 := Aside0.mk (blk_below (g := gb574) (o := .cells #[.slice A0_0 l0_0.length c0_0, .slice (some ad578) l0_1.length c0_1] 113 (0, 0)) (by repeat (first | (with_reducible first | exact BK574.out | refine blk_drewN ?_ _ | refine blk_drew ?_ | refine blk_alloc ?_ _) | exact BK574.out)) hb); clear hb hbox hg; have hnb11 := NB579_574.out; have hnc11 := NB574_579.out; obtain ⟨hcz12_0, hcz12_1, hcz12_2⟩ := bc3 BK579.out; obtain ⟨hfz12_0, hfz12_1, hfz12_2⟩ := bf3 BK579.out) | ((with_reducible refine gate_builtin (b := .append) (xs := #[.tmp 28, .tmp 41]) rfl ?_); at_builtin; refine Kd.R_append k58 (w0 := w) w.heap.size rfl (.tmp 28) (.tmp 41) 68 58 (.agg #[(.int .i64 0), (.int .i64 0), (.int .i64 0)]) 24 rfl Try.underlying68 info58 rfl (by decide) (by omega) u3 x3_1 (⟨Int.tmod (wrap64 ((rd_T94 l0_1 x4_1).f0)) 2, Int.tmod (wrap64 ((rd_T94 l0_1 x4_1).f1)) 25, wrap64 ((Int.tmod (wrap64 ((rd_T94 l0_1 x4_1).f1)) 25) + (Int.tmod (wrap64 ((rd_T94 l0_1 x4_1).f2)) 12))⟩ : S58) [.int .i64 (Int.tmod (wrap64 ((rd_T94 l0_1 x4_1).f0)) 2), .int .i64 (Int.tmod (wrap64 ((rd_T94 l0_1 x4_1).f1)) 25), .int .i64 (wrap64 ((Int.tmod (wrap64 ((rd_T94 l0_1 x4_1).f1)) 25) + (Int.tmod (wrap64 ((rd_T94 l0_1 x4_1).f2)) 12)))] (fun _ => True) (fun _ => False) rfl (by first | (go_simp; done) | (go_simp; rfl)) ?aP (fun _ hk => hk.elim) ?aF ?aO ?aB ?aS ?aL ?_; (case aP => exact k58_mkM _ _ _ (⟨Int.tmod (wrap64 ((rd_T94 l0_1 x4_1).f0)) 2, Int.tmod (wrap64 ((rd_T94 l0_1 x4_1).f1)) 25, wrap64 ((Int.tmod (wrap64 ((rd_T94 l0_1 x4_1).f1)) 25) + (Int.tmod (wrap64 ((rd_T94 l0_1 x4_1).f2)) 12))⟩ : S58)); (case aB => exact (by repeat (first | (with_reducible first | exact HB.out | apply below_alloc | apply pw_below_drewN | apply below_drew1 | refine below_set ?_ (Aside0.out (by assumption))) | exact HB.out))); (case aF => exact (fun _ _ => trivial)); (case aO => exact (by (with_reducible repeat (first | apply Kd.R_alloc | apply Kd.R_drewN | apply Kd.R_drew)); exact Kd.R_mono (Kd.R_far (p := ⟨gb579, 2, none⟩) (Kd.R_far (p := ⟨gb579, 1, none⟩) (Kd.R_far (p := ⟨gb579, 0, none⟩) (Kd.R_types HO_3.out BK579.out (by decide)) (fun _ hk => hk.2) (.int .u8 ((rd_T94 l0_1 x4_1).f0))) (fun _ hk => hk.2) (.int .u8 ((rd_T94 l0_1 x4_1).f1))) (fun _ hk => hk.2) (.int .u8 ((rd_T94 l0_1 x4_1).f2))) (fun _ hk => trivial))); (case aS => exact (below_size (by repeat (first | (with_reducible first | exact HB.out | apply below_alloc | apply pw_below_drewN | apply below_drew1 | refine below_set ?_ (Aside0.out (by assumption))) | exact HB.out)))); (case aL => have := LMc8.out; omega); intro v581 w13 ho hb hg hat; rw [← Ny580.out] at ho; replace BK574 := Aside0.mk (blk_grown (g := gb574) (o := .cells #[.slice A0_0 l0_0.length c0_0, .slice (some ad578) l0_1.length c0_1] 113 (0, 0)) (by repeat (first | (with_reducible first | exact BK574.out | refine blk_drewN ?_ _ | refine blk_drew ?_ | refine blk_alloc ?_ _) | refine blk_far ?_ NB574_579.out _ | exact BK574.out)) hg (Kd.R_ne HO_3.out BK574.out (by decide))); replace BK579 := Aside0.mk (blk_grown (g := gb579) (o := .cells #[.int .u8 ((rd_T94 l0_1 x4_1).f0), .int .u8 ((rd_T94 l0_1 x4_1).f1), .int .u8 ((rd_T94 l0_1 x4_1).f2)] 94 (0, 0)) (by exact bto (bput (bput (bput (BK579.out) _ _) _ _) _ _) rfl) hg (Kd.R_ne HO_3.out BK579.out (by decide))); replace HB := Aside0.mk (hb); have HO582 := Aside0.mk (ho); clear HO_3; clear ho hb hg hat))
       go_roundg k1
       case measure => have := HK1.out; omega
       case rel => exact ⟨(y580), (wrap64 (x4_1 + 1)), (by first | rfl | (simp; done) | (simp [*]; done)), H', ⟨by have := HK1.out; omega⟩, ⟨by (with_reducible repeat (first | apply Kd.R_alloc | apply Kd.R_drewN | apply Kd.R_drew)); exact HO582.out⟩, BK574, ⟨by repeat (first | (with_reducible first | exact HB.out | apply below_alloc | apply pw_below_drewN | apply below_drew1 | refine below_set ?_ (Aside0.out (by assumption))) | exact HB.out)⟩⟩
      ·rw [if_neg c8] at H
       exact absurd H (by simp)
     ·rw [if_neg c7] at H
      exact absurd H (by simp)
    ·rw [if_neg c6] at H
     have c6b0 : decide (x4_1 < 8) = false := decide_eq_false c6
     clear c6
     obtain rfl := Option.some.inj H
     obtain ⟨hcz14_0, hcz14_1⟩ := bc2 BK574.out
     obtain ⟨hfz14_0, hfz14_1⟩ := bf2 BK574.out
     go_wp2
     go_ret
     exact ⟨_, by first | rfl | (simp [errW_none, errW_some] <;> rfl) | (simp [*, errW_none, errW_some] <;> rfl), by (with_reducible repeat (first | apply Kd.R_alloc | apply Kd.R_drewN | apply Kd.R_drew)); exact HO_3.out, by repeat (first | (with_reducible first | exact HB.out | apply below_alloc | apply pw_below_drewN | apply below_drew1 | refine below_set ?_ (Aside0.out (by assumption))) | exact HB.out)⟩
   ·rw [if_neg c5] at H
    have c5b0 : decide (x4_1 < (l0_1.length : Int)) = false := decide_eq_false c5
    clear c5
    obtain rfl := Option.some.inj H
    obtain ⟨hcz15_0, hcz15_1⟩ := bc2 BK574.out
    obtain ⟨hfz15_0, hfz15_1⟩ := bf2 BK574.out
    go_wp2
    go_ret
    exact ⟨_, by first | rfl | (simp [errW_none, errW_some] <;> rfl) | (simp [*, errW_none, errW_some] <;> rfl), by (with_reducible repeat (first | apply Kd.R_alloc | apply Kd.R_drewN | apply Kd.R_drew)); exact HO_3.out, by repeat (first | (with_reducible first | exact HB.out | apply below_alloc | apply pw_below_drewN | apply below_drew1 | refine below_set ?_ (Aside0.out (by assumption))) | exact HB.out)⟩

end Go.Proofs.Ytiaiecfnpompcaa.T
