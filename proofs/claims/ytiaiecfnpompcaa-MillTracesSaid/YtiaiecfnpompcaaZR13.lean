-- cut down, squeezed and laid together by pack.py (a program of this repository) out of this seat's texts
import Derived.Below
import Derived.Deep.Draws
import Derived.Deep.AppendLies
import Derived.Maps.AppendAt
import Derived.OwnWalk
import Derived.Laws.BytesArg
import Derived.Laws.MakeOwn
import Derived.Laws.OwnMore
import Derived.Deep.OwnRows
import Derived.Tactics
import Derived.Lib.ConvBytes
import Derived.Laws.Slices
import Derived.WalkKit
import Derived.KernelRfl
import Derived.RowKit3
import Derived.Deep.LoopGhost
import Derived.Deep.QuietTactic
import Derived.BigQuiet
import Derived.WideLaws
import Derived.Deep.DeepCutAuto
import Derived.Deep.CutBlock
import Derived.Deep.RegionHeld3
import Derived.Laws.Rows
import Derived.Lib.AppendStr
import Derived.ArgAppend
import Derived.Laws.IdiomCopy
import Derived.OrdersHeld
import Derived.Laws.BitsLemmas
import Derived.RowKit
import Derived.Test.YtiaiecfnpompcaaProg
import Derived.ChangeKeysEq
import Derived.Test.YtiaiecfnpompcaaZR2
import Derived.Test.YtiaiecfnpompcaaZR3
import Derived.Test.YtiaiecfnpompcaaZR9
import Derived.Test.YtiaiecfnpompcaaZR4
import Derived.Test.YtiaiecfnpompcaaZR12
import Derived.Test.YtiaiecfnpompcaaZR8
import Derived.Test.YtiaiecfnpompcaaZR6
import Derived.Test.YtiaiecfnpompcaaZR7
import Derived.Test.YtiaiecfnpompcaaZR11
import Derived.Test.YtiaiecfnpompcaaZR5
import Derived.Test.YtiaiecfnpompcaaZR10
import Derived.Test.YtiaiecfnpompcaaZR1
namespace Go.Proofs.Ytiaiecfnpompcaa.T
open Go.RowKit Go.Proofs.YtiaiecfnpompcaaW.PrintWords Go.Proofs.YtiaiecfnpompcaaW.PrintLast Go.Proofs.YtiaiecfnpompcaaW.PrintMore
attribute [local go_sem] XX XW X6 X5 XQ XP X0 XZ
set_option linter.unusedVariables false
set_option linter.unusedSimpArgs false
attribute [local go_sem] XO



theorem Xih : (Try.prog.info? 3).map (fun i => (i.zero, i.size, i.bytes)) = some (some (.int .i64 0), 1, 8) := by kernel_rfl
theorem Xit : (Try.prog.info? 58).map (fun i => (i.zero, i.size, i.bytes)) = some (some (.agg #[(.int .i64 0), (.int .i64 0), (.int .i64 0)]), 3, 24) := by kernel_rfl
theorem Xis : (Try.prog.info? 62).map (fun i => (i.zero, i.size, i.bytes)) = some (some (.slice none 0 0), 1, 24) := by kernel_rfl
theorem Xae : (Try.prog.info? 79).map (fun i => (i.zero, i.size, i.bytes)) = some (some (.agg #[(.int .i64 0), (.int .i64 0), (.int .i64 0)]), 3, 24) := by kernel_rfl
theorem XfO : (Try.prog.info? 144).map (fun i => (i.zero, i.size, i.bytes)) = some (some (.agg #[(.int .i64 0), (.int .i64 0), (.int .i64 0), (.int .i64 0), (.int .i64 0)]), 5, 40) := by kernel_rfl
structure S46 where
  f0 : Int
  f1 : Int
structure S144 where
  f0 : Int
  f1 : Int
  f2 : Int
  f3 : Int
  f4 : Int
def z144 : S144 := ⟨(0 : Int), (0 : Int), (0 : Int), (0 : Int), (0 : Int)⟩
def k144 : Kd S144 := Kd.iso (Kd.pair (Kd.int .i64) (Kd.pair (Kd.int .i64) (Kd.pair (Kd.int .i64) (Kd.pair (Kd.int .i64) (Kd.int .i64))))) (fun x : S144 => (x.f0, x.f1, x.f2, x.f3, x.f4))
theorem Xgz {w : World} {x : S144} {cs : List Value} (h : k144.K w x cs) : cs = [.int .i64 x.f0, .int .i64 x.f1, .int .i64 x.f2, .int .i64 x.f3, .int .i64 x.f4] := by
  obtain ⟨_, _, rfl, rfl, ⟨_, _, rfl, rfl, ⟨_, _, rfl, rfl, ⟨_, _, rfl, rfl, rfl⟩⟩⟩⟩ := h
  exact rfl
theorem XhV (w : World) (x : S144)  : k144.K w x [.int .i64 x.f0, .int .i64 x.f1, .int .i64 x.f2, .int .i64 x.f3, .int .i64 x.f4] := ⟨[.int .i64 x.f0], [.int .i64 x.f1, .int .i64 x.f2, .int .i64 x.f3, .int .i64 x.f4], rfl, rfl, ⟨[.int .i64 x.f1], [.int .i64 x.f2, .int .i64 x.f3, .int .i64 x.f4], rfl, rfl, ⟨[.int .i64 x.f2], [.int .i64 x.f3, .int .i64 x.f4], rfl, rfl, ⟨[.int .i64 x.f3], [.int .i64 x.f4], rfl, rfl, rfl⟩⟩⟩⟩
def Xc (xs : List S144) (i : Int) : S144 := xs.getD i.toNat z144
theorem Yb {w : World} {A : Option Addr} {n : Nat} {xs : List S144} (h : Kd.C k144 w A n xs) (i : Int) (h0 : 0 ≤ i) (h1 : i < n) : ∃ ad , A = some ad ∧ w.cell? (ad.add (i.toNat * 5)) = some (.int .i64 (Xc xs i).f0) ∧ w.cell? ⟨(ad.add (i.toNat * 5)).block, (ad.add (i.toNat * 5)).off + 1, none⟩ = some (.int .i64 (Xc xs i).f1) ∧ w.cell? ⟨(ad.add (i.toNat * 5)).block, (ad.add (i.toNat * 5)).off + 2, none⟩ = some (.int .i64 (Xc xs i).f2) ∧ w.cell? ⟨(ad.add (i.toNat * 5)).block, (ad.add (i.toNat * 5)).off + 3, none⟩ = some (.int .i64 (Xc xs i).f3) ∧ w.cell? ⟨(ad.add (i.toNat * 5)).block, (ad.add (i.toNat * 5)).off + 4, none⟩ = some (.int .i64 (Xc xs i).f4) := by
  obtain ⟨ad, c, e, _, hK, hc0⟩ := Kd.C_get h z144 i h0 h1
  have hc : ∀ j u, c[j]? = some u → w.cell? (ad.add (i.toNat * 5 + j)) = some u := hc0
  obtain rfl := Xgz hK
  exact ⟨ad, e, hc 0 _ rfl, by rw [← Je _ _ 1 (by omega)]; exact hc 1 _ rfl, by rw [← Je _ _ 2 (by omega)]; exact hc 2 _ rfl, by rw [← Je _ _ 3 (by omega)]; exact hc 3 _ rfl, by rw [← Je _ _ 4 (by omega)]; exact hc 4 _ rfl⟩

structure S58 where
  f0 : Int
  f1 : Int
  f2 : Int
def z58 : S58 := ⟨(0 : Int), (0 : Int), (0 : Int)⟩
def k58 : Kd S58 := Kd.iso (Kd.pair (Kd.int .i64) (Kd.pair (Kd.int .i64) (Kd.int .i64))) (fun x : S58 => (x.f0, x.f1, x.f2))
theorem XcQ : Kd.Heap k58 := Kd.heap_iso _ (Kd.heap_pair (Kd.heap_int .i64) (Kd.heap_pair (Kd.heap_int .i64) (Kd.heap_int .i64)))
theorem Xhd {w : World} {x : S58} {cs : List Value} (h : k58.K w x cs) : cs = [.int .i64 x.f0, .int .i64 x.f1, .int .i64 x.f2] := by
  obtain ⟨_, _, rfl, rfl, ⟨_, _, rfl, rfl, rfl⟩⟩ := h
  exact rfl
theorem Xir (w : World) (x : S58)  : k58.K w x [.int .i64 x.f0, .int .i64 x.f1, .int .i64 x.f2] := ⟨[.int .i64 x.f0], [.int .i64 x.f1, .int .i64 x.f2], rfl, rfl, ⟨[.int .i64 x.f1], [.int .i64 x.f2], rfl, rfl, rfl⟩⟩
def XJ (xs : List S58) (i : Int) : S58 := xs.getD i.toNat z58
theorem YW {w : World} {A : Option Addr} {n : Nat} {xs : List S58} (h : Kd.C k58 w A n xs) (i : Int) (h0 : 0 ≤ i) (h1 : i < n) : ∃ ad , A = some ad ∧ w.cell? (ad.add (i.toNat * 3)) = some (.int .i64 (XJ xs i).f0) ∧ w.cell? ⟨(ad.add (i.toNat * 3)).block, (ad.add (i.toNat * 3)).off + 1, none⟩ = some (.int .i64 (XJ xs i).f1) ∧ w.cell? ⟨(ad.add (i.toNat * 3)).block, (ad.add (i.toNat * 3)).off + 2, none⟩ = some (.int .i64 (XJ xs i).f2) := by
  obtain ⟨ad, c, e, _, hK, hc0⟩ := Kd.C_get h z58 i h0 h1
  have hc : ∀ j u, c[j]? = some u → w.cell? (ad.add (i.toNat * 3 + j)) = some u := hc0
  obtain rfl := Xhd hK
  exact ⟨ad, e, hc 0 _ rfl, by rw [← Je _ _ 1 (by omega)]; exact hc 1 _ rfl, by rw [← Je _ _ 2 (by omega)]; exact hc 2 _ rfl⟩

def Yv (xs : List (List S58)) (i : Int) : (List S58) := xs.getD i.toNat ([] : List S58)
theorem Xar {w : World} {A : Option Addr} {n : Nat} {xs : List (List S58)} (h : Kd.C (Kd.slice 58 k58) w A n xs) (i : Int) (h0 : 0 ≤ i) (h1 : i < n) : ∃ ad A0 c0, A = some ad ∧ w.cell? (ad.add i.toNat) = some (.slice A0 (Yv xs i).length c0) ∧ (Yv xs i).length ≤ c0 ∧ k58.C w A0 (Yv xs i).length (Yv xs i) := by
  obtain ⟨ad, c, e, _, hK, hc0⟩ := Kd.C_get h ([] : List S58) i h0 h1
  have hc : ∀ j u, c[j]? = some u → w.cell? (ad.add (i.toNat * 1 + j)) = some u := hc0
  obtain ⟨A0, c0, rfl, l0, g0⟩ := hK
  exact ⟨ad, A0, c0, e, by have hq := hc 0 _ rfl; rwa [Nat.mul_one, Nat.add_zero] at hq, l0, g0⟩

structure S79 where
  f0 : Int
  f1 : Int
  f2 : Int
def z79 : S79 := ⟨(0 : Int), (0 : Int), (0 : Int)⟩
def k79 : Kd S79 := Kd.iso (Kd.pair (Kd.int .i64) (Kd.pair (Kd.int .i64) (Kd.int .i64))) (fun x : S79 => (x.f0, x.f1, x.f2))
theorem Xhc {w : World} {x : S79} {cs : List Value} (h : k79.K w x cs) : cs = [.int .i64 x.f0, .int .i64 x.f1, .int .i64 x.f2] := by
  obtain ⟨_, _, rfl, rfl, ⟨_, _, rfl, rfl, rfl⟩⟩ := h
  exact rfl
theorem XbD (w : World) (base : Nat) (ok : Nat → Prop) (x : S79)  : k79.M w base ok x [.int .i64 x.f0, .int .i64 x.f1, .int .i64 x.f2] := ⟨[.int .i64 x.f0], [.int .i64 x.f1, .int .i64 x.f2], rfl, rfl, ⟨[.int .i64 x.f1], [.int .i64 x.f2], rfl, rfl, rfl⟩⟩
def Xn (xs : List S79) (i : Int) : S79 := xs.getD i.toNat z79
theorem Jx {w : World} {A : Option Addr} {n : Nat} {xs : List S79} (h : Kd.C k79 w A n xs) (i : Int) (h0 : 0 ≤ i) (h1 : i < n) : ∃ ad , A = some ad ∧ w.cell? (ad.add (i.toNat * 3)) = some (.int .i64 (Xn xs i).f0) ∧ w.cell? ⟨(ad.add (i.toNat * 3)).block, (ad.add (i.toNat * 3)).off + 1, none⟩ = some (.int .i64 (Xn xs i).f1) ∧ w.cell? ⟨(ad.add (i.toNat * 3)).block, (ad.add (i.toNat * 3)).off + 2, none⟩ = some (.int .i64 (Xn xs i).f2) := by
  obtain ⟨ad, c, e, _, hK, hc0⟩ := Kd.C_get h z79 i h0 h1
  have hc : ∀ j u, c[j]? = some u → w.cell? (ad.add (i.toNat * 3 + j)) = some u := hc0
  obtain rfl := Xhc hK
  exact ⟨ad, e, hc 0 _ rfl, by rw [← Je _ _ 1 (by omega)]; exact hc 1 _ rfl, by rw [← Je _ _ 2 (by omega)]; exact hc 2 _ rfl⟩

def XA (xs : List (List S79)) (i : Int) : (List S79) := xs.getD i.toNat ([] : List S79)
theorem XaB {w : World} {A : Option Addr} {n : Nat} {xs : List (List S79)} (h : Kd.C (Kd.slice 79 k79) w A n xs) (i : Int) (h0 : 0 ≤ i) (h1 : i < n) : ∃ ad A0 c0, A = some ad ∧ w.cell? (ad.add i.toNat) = some (.slice A0 (XA xs i).length c0) ∧ (XA xs i).length ≤ c0 ∧ k79.C w A0 (XA xs i).length (XA xs i) := by
  obtain ⟨ad, c, e, _, hK, hc0⟩ := Kd.C_get h ([] : List S79) i h0 h1
  have hc : ∀ j u, c[j]? = some u → w.cell? (ad.add (i.toNat * 1 + j)) = some u := hc0
  obtain ⟨A0, c0, rfl, l0, g0⟩ := hK
  exact ⟨ad, A0, c0, e, by have hq := hc 0 _ rfl; rwa [Nat.mul_one, Nat.add_zero] at hq, l0, g0⟩

end Go.Proofs.Ytiaiecfnpompcaa.T
namespace Go.Proofs.Ytiaiecfnpompcaa.T
open Go.RowKit Go.Proofs.YtiaiecfnpompcaaW.PrintWords Go.Proofs.YtiaiecfnpompcaaW.PrintLast Go.Proofs.YtiaiecfnpompcaaW.PrintMore
set_option linter.unusedVariables false
def sqR : Code → Code
 | .seq _ b => b
 | c => c
def sqL : Code → Code
 | .seq a _ => a
 | c => c
def nR : Nat → Code → Code
 | 0, c => c
 | n + 1, c => nR n (sqR c)
section
variable {P : Program} {ops : Array Oper} {Q : Exit → Act → World → Prop} {md : Region.Mode} {S : World → Prop} {ds : List Nat} {oi : Oper} {v : Value} {fuel : Nat} {l l' : Array Bool} {a a' : Act} {w : World} {T : Bool × List (List Nat × List Nat)} {B : List Nat}
theorem pu_ (i : Nat) (N : Tmp) (HT : Xa (rtab md ops = T)) (h : XF P md ops Q S ds fuel l' a' w) (hi : ops[i]? = some oi := by rfl) (hN : oi.dst = some N := by rfl) (hl : l.setIfInBounds i true = l' := by (simp only [sa_, s0_, s1_]; rfl))
  (hc : anyT T l.toList l'.toList i = true := by kernel_rfl) (hQ : ∀ c a w, Q (.panic c) (a.put oi.dst v) w → Q (.panic c) a w := by exact fun _ _ _ h => h) (hg : Region.wanted oi (yielded ops a.tmps) = true := by rfl)
  (hy : ∀ w, (execOp a.eval oi).run P w = .ok (.value v) w := by (intro w'; go_simp; with_reducible rfl)) (ha : a.put (some N) v = a' := by (simp only [Act.put, sa_, s0_, s1_, XR, XS]; rfl)) : XF P md ops Q S ds (fuel + 1) l a w :=
 Xa0 l' hi hN (Xak HT.out hc) hQ (Or.inl ⟨hg, hy⟩) ha h
theorem pv_ (i : Nat) (N : Tmp) (h : XF P md ops Q S ds fuel l' a' w) (hi : ops[i]? = some oi := by rfl) (hN : oi.dst = some N := by rfl) (hl : l.setIfInBounds i true = l' := by (simp only [sa_, s0_, s1_]; rfl))
  (hc : anyB md ops l l' i = true := by kernel_rfl) (hQ : ∀ c a w, Q (.panic c) (a.put oi.dst v) w → Q (.panic c) a w := by exact fun _ _ _ h => h) (hg : Region.wanted oi (yielded ops a.tmps) = true := by rfl)
  (hy : ∀ w, (execOp a.eval oi).run P w = .ok (.value v) w := by (intro w'; go_simp; with_reducible rfl)) (ha : a.put (some N) v = a' := by (simp only [Act.put, sa_, s0_, s1_, XR, XS]; rfl)) : XF P md ops Q S ds (fuel + 1) l a w :=
 Xa0 l' hi hN hc hQ (Or.inl ⟨hg, hy⟩) ha h
theorem po_ (i : Nat) (N : Tmp) (HT : Xa (rtab md ops = T)) (h : XF P md ops Q S ds fuel l' a' w) (hi : ops[i]? = some oi := by rfl) (hN : oi.dst = some N := by rfl) (hl : l.setIfInBounds i true = l' := by (simp only [sa_, s0_, s1_]; rfl))
  (hc : anyT T l.toList l'.toList i = true := by kernel_rfl) (hQ : ∀ c a w, Q (.panic c) (a.put oi.dst undef) w → Q (.panic c) a w := by exact fun _ _ _ h => h) (hg : Region.wanted oi (yielded ops a.tmps) = false := by rfl)
  (ha : a.put (some N) undef = a' := by (simp only [Act.put, sa_, s0_, s1_, XR, XS]; rfl)) : XF P md ops Q S ds (fuel + 1) l a w :=
 Xa0 l' hi hN (Xak HT.out hc) hQ (Or.inr ⟨hg, rfl⟩) ha h
theorem tw_ (i : Nat) (N : Tmp) (HT : Xa (rtab md ops = T)) (HW : Xa (YI T.2 B = true)) (hH : S w) (h : XF P md ops Q S ds fuel l' a' w) (hi : ops[i]? = some oi := by rfl) (hN : oi.dst = some N := by rfl) (hl : l.setIfInBounds i true = l' := by (simp only [sa_, s0_, s1_]; rfl))
  (hc : XgU T B ds l.toList l'.toList i = true := by kernel_rfl) (hQ : ∀ c a w, Q (.panic c) (a.put oi.dst v) w → Q (.panic c) a w := by exact fun _ _ _ h => h) (hg : Region.wanted oi (yielded ops a.tmps) = true := by rfl)
  (hy : ∀ w, S w → (execOp a.eval oi).run P w = .ok (.value v) w := by (intro w' hS_; go_simp; with_reducible rfl)) (ha : a.put (some N) v = a' := by (simp only [Act.put, sa_, s0_, s1_, XR, XS]; rfl)) : XF P md ops Q S ds (fuel + 1) l a w :=
 Xcd l' hi hN (JF HT.out HW.out hc) hQ (Or.inl ⟨hg, hy⟩) hH ha h
theorem tv_ (i : Nat) (N : Tmp) (hH : S w) (h : XF P md ops Q S ds fuel l' a' w) (hi : ops[i]? = some oi := by rfl) (hN : oi.dst = some N := by rfl) (hl : l.setIfInBounds i true = l' := by (simp only [sa_, s0_, s1_]; rfl))
  (hc : Xds md ops ds l l' i = true := by kernel_rfl) (hQ : ∀ c a w, Q (.panic c) (a.put oi.dst v) w → Q (.panic c) a w := by exact fun _ _ _ h => h) (hg : Region.wanted oi (yielded ops a.tmps) = true := by rfl)
  (hy : ∀ w, S w → (execOp a.eval oi).run P w = .ok (.value v) w := by (intro w' hS_; go_simp; with_reducible rfl)) (ha : a.put (some N) v = a' := by (simp only [Act.put, sa_, s0_, s1_, XR, XS]; rfl)) : XF P md ops Q S ds (fuel + 1) l a w :=
 Xcd l' hi hN hc hQ (Or.inl ⟨hg, hy⟩) hH ha h
end
theorem xo_ {p q : Prop} (h : Xa p) (hs : p → q := by (intro h_; (with_reducible repeat (first | apply Kd.V_alloc | apply Kd.V_drewN | apply Kd.V_drew | apply Kd.N_alloc | apply Kd.N_drewN | apply Kd.N_drew)); exact h_)) : q := hs h.out
theorem fx_ {α : Sort _} {a b : α} (h : a = b := by first | rfl | (simp; done) | (simp [*]; done)) : a = b := h
theorem cA_ {p q : Prop} (h : p) (hs : p → q := by (intro h_; repeat (first | exact h_ | (with_reducible refine Kd.C_alloc ?_ _) | (with_reducible refine Kd.C_drewN ?_ _) | (with_reducible refine Kd.C_drew ?_)))) : q := hs h
theorem rb_ {α : Type} {d : Kd α} {e base : Nat} {ok : Nat → Prop} {W W1 W' : World} {v : Value} {xs : List α} (h : Xa (Kd.R d e W base ok v xs)) (hb : Below W1.heap.size W1 W') (hs : Below W.heap.size W W1 := by (with_reducible repeat (first | apply Xs | apply Xo | apply Xl)); exact Below.refl _ _) : Xa (Kd.R d e W' base ok v xs) := ⟨Kd.R_below (ro_ h hs) hb⟩
theorem kb_ {W W1 W' : World} {g : Nat} {o : Obj} (h : Xa (W.heap[g]? = some o)) (hb : Below W1.heap.size W1 W') (hs : W.heap[g]? = some o → W1.heap[g]? = some o := by intro h_; repeat (first | (with_reducible first | exact h_ | refine XaW ?_ _ | refine X3 ?_ | refine Yi ?_ _) | exact h_)) : Xa (W'.heap[g]? = some o) := ⟨Xu (bk_ h hs) hb⟩
theorem sb_ {w W W1 W' : World} (h : Xa (Below w.heap.size w W)) (hb : Below W1.heap.size W1 W') (hs : Below w.heap.size w W → Below w.heap.size w W1 := by intro h_; repeat (first | (with_reducible first | exact h_ | apply Xs | apply Xo | apply Xl | refine XC ?_ (Xa.out (by assumption))) | exact h_)) : Xa (Below w.heap.size w W') := ⟨Xi (hb_ h hs) hb⟩
end Go.Proofs.Ytiaiecfnpompcaa.T
namespace Go.Proofs.Ytiaiecfnpompcaa.T
open Go.RowKit Go.Proofs.YtiaiecfnpompcaaW.PrintWords Go.Proofs.YtiaiecfnpompcaaW.PrintLast Go.Proofs.YtiaiecfnpompcaaW.PrintMore
attribute [local go_sem] XX XW X6 X5 XQ XP X0 XZ
set_option linter.unusedVariables false
set_option linter.unusedSimpArgs false
attribute [local go_sem] XO

def XV.l0 : Nat → List Int → List Int → Int → Option (Bool)
 | 0, _, _, _ => none
 | k + 1, x0, x1, x5 => if x5 < (x0.length : Int) then (if 0 ≤ x5 then (if x5 < (x1.length : Int) then (if (rd x0 x5) = (rd x1 x5) then (XV.l0 k x0 x1 (wrap64 (x5 + 1))) else (some false)) else (none)) else (none)) else (some true)
def XV.f (k : Nat) (l0 : List Int) (l1 : List Int) : Option (Bool) := if (l0.length : Int) = (l1.length : Int) then (XV.l0 k l0 l1 0) else (some false)
set_option maxHeartbeats 8000000 in
set_option maxRecDepth 100000 in
theorem XV.calls (k : Nat) (A0 : Option Addr) (c0 : Nat) (l0 : List Int) (A1 : Option Addr) (c1 : Nat) (l1 : List Int) (r : Bool) (w : World) (hr0 : Kd.C (Kd.int .i64) w A0 l0.length l0) (hc0 : l0.length ≤ c0) (hr1 : Kd.C (Kd.int .i64) w A1 l1.length l1) (hc1 : l1.length ≤ c1) (h : XV.f k l0 l1 = some r) :
  Calls Try.prog 18 #[.slice A0 l0.length c0, .slice A1 l1.length c1] w fun e w' => e = .returned (.bool r) ∧ Xq w w' := by
 have HR0 := Xa.mk hr0
 have HC0 := Xa.mk hc0
 clear hr0 hc0
 have HR1 := Xa.mk hr1
 have HC1 := Xa.mk hc1
 clear hr1 hc1
 have H : (if (l0.length : Int) = (l1.length : Int) then (XV.l0 k l0 l1 0) else (some false)) = some r := h
 clear h
 by_cases c3 : (l0.length : Int) = (l1.length : Int)
 ·rw [if_pos c3] at H
  have c3b0 : ((l0.length : Int) == (l1.length : Int)) = true := beq_iff_eq.mpr c3
  have c3b1 : ((l0.length : Int) != (l1.length : Int)) = false := bne_eq_false_iff_eq.mpr c3
  have c3b2 : (l0.length == l1.length) = true := by first | simpa using c3 | (simp at c3 ⊢; omega)
  clear c3
  have H' := Xa.mk H
  clear H
  go_enter Try.func18, Try.ntmps18
  go_wp2
  repeat (go_quiet (fail); try go_wp2)
  go_loopg [5] k (fun kq v5 w' => ∃ (x5_1 : Int), v5 = .int .i64 x5_1 ∧ Xa (XV.l0 kq l0 l1 x5_1 = some r) ∧ Xa (kq ≤ k) ∧ Xq w w')
  case atStart => exact ⟨(0), fx_, H', ⟨Nat.le_refl _⟩, by repeat (first | exact Xq.refl _ | apply Xq.step)⟩
  case round =>
   clear H'
   try clear c1; try clear p2; try clear c3; try clear c3b0; try clear c3b1; try clear c3b2
   obtain ⟨x5_1, rfl, HA, HK1, ⟨m1, rfl⟩⟩ := hrel
   cases gk with
   | zero => exact absurd HA.out (by simp [XV.l0])
   | succ k1 =>
    have H := HA.out
    clear HA
    simp only [XV.l0] at H
    by_cases c4 : x5_1 < (l0.length : Int)
    ·rw [if_pos c4] at H
     have c4b0 : decide (x5_1 < (l0.length : Int)) = true := decide_eq_true c4
     clear c4
     by_cases c5 : 0 ≤ x5_1
     ·rw [if_pos c5] at H
      have c5b0 : decide (0 ≤ x5_1) = true := decide_eq_true c5
      clear c5
      by_cases c6 : x5_1 < (l1.length : Int)
      ·rw [if_pos c6] at H
       have c6b0 : decide (x5_1 < (l1.length : Int)) = true := decide_eq_true c6
       clear c6
       by_cases c7 : (rd l0 x5_1) = (rd l1 x5_1)
       ·rw [if_pos c7] at H
        have c7b0 : ((rd l0 x5_1) == (rd l1 x5_1)) = true := beq_iff_eq.mpr c7
        have c7b1 : ((rd l0 x5_1) != (rd l1 x5_1)) = false := bne_eq_false_iff_eq.mpr c7
        clear c7
        have H' := Xa.mk H
        clear H
        have p198 : 0 ≤ (x5_1 : Int) := of_decide_eq_true ‹_›
        have q198 : x5_1 < (l0.length : Int) := of_decide_eq_true ‹_›
        obtain ⟨ad198, e198, hx198_0⟩ := Kd.at_int HR0.out x5_1 p198 q198
        cases e198
        replace p198 := eq_true p198
        replace q198 := eq_true q198
        have p199 : 0 ≤ (x5_1 : Int) := of_decide_eq_true ‹_›
        have q199 : x5_1 < (l1.length : Int) := of_decide_eq_true ‹_›
        obtain ⟨ad199, e199, hx199_0⟩ := Kd.at_int HR1.out x5_1 p199 q199
        cases e199
        replace p199 := eq_true p199
        replace q199 := eq_true q199
        go_wp2
        repeat (go_quiet (fail); try go_wp2)
        go_roundg k1
        case measure => have := HK1.out; omega
        case rel => exact ⟨(wrap64 (x5_1 + 1)), fx_, H', ⟨by have := HK1.out; omega⟩, by repeat (first | exact Xq.refl _ | apply Xq.step)⟩
       ·rw [if_neg c7] at H
        have c7b0 : ((rd l0 x5_1) == (rd l1 x5_1)) = false := beq_eq_false_iff_ne.mpr c7
        have c7b1 : ((rd l0 x5_1) != (rd l1 x5_1)) = true := bne_iff_ne.mpr c7
        obtain rfl := Option.some.inj H
        have p198 : 0 ≤ (x5_1 : Int) := of_decide_eq_true ‹_›
        have q198 : x5_1 < (l0.length : Int) := of_decide_eq_true ‹_›
        obtain ⟨ad198, e198, hx198_0⟩ := Kd.at_int HR0.out x5_1 p198 q198
        cases e198
        replace p198 := eq_true p198
        replace q198 := eq_true q198
        have p199 : 0 ≤ (x5_1 : Int) := of_decide_eq_true ‹_›
        have q199 : x5_1 < (l1.length : Int) := of_decide_eq_true ‹_›
        obtain ⟨ad199, e199, hx199_0⟩ := Kd.at_int HR1.out x5_1 p199 q199
        cases e199
        replace p199 := eq_true p199
        replace q199 := eq_true q199
        go_wp2
        repeat (go_quiet (fail); try go_wp2)
        go_ret
        exact ⟨by first | rfl | (simp; done) | (simp [*]; done), by repeat (first | exact Xq.refl _ | apply Xq.step)⟩
      ·rw [if_neg c6] at H
       exact absurd H (by simp)
     ·rw [if_neg c5] at H
      exact absurd H (by simp)
    ·rw [if_neg c4] at H
     have c4b0 : decide (x5_1 < (l0.length : Int)) = false := decide_eq_false c4
     clear c4
     obtain rfl := Option.some.inj H
     go_wp2
     repeat (go_quiet (fail); try go_wp2)
     go_ret
     exact ⟨by first | rfl | (simp; done) | (simp [*]; done), by repeat (first | exact Xq.refl _ | apply Xq.step)⟩
 ·rw [if_neg c3] at H
  have c3b0 : ((l0.length : Int) == (l1.length : Int)) = false := beq_eq_false_iff_ne.mpr c3
  have c3b1 : ((l0.length : Int) != (l1.length : Int)) = true := bne_iff_ne.mpr c3
  have c3b2 : (l0.length == l1.length) = false := by first | simpa using c3 | (simp at c3 ⊢; omega)
  obtain rfl := Option.some.inj H
  go_enter Try.func18, Try.ntmps18
  go_wp2
  repeat (go_quiet (fail); try go_wp2)
  go_ret
  exact ⟨by first | rfl | (simp; done) | (simp [*]; done), by repeat (first | exact Xq.refl _ | apply Xq.step)⟩

end Go.Proofs.Ytiaiecfnpompcaa.T
namespace Go.Proofs.Ytiaiecfnpompcaa.T
open Go.RowKit Go.Proofs.YtiaiecfnpompcaaW.PrintWords Go.Proofs.YtiaiecfnpompcaaW.PrintLast Go.Proofs.YtiaiecfnpompcaaW.PrintMore
attribute [local go_sem] XX XW X6 X5 XQ XP X0 XZ
set_option linter.unusedVariables false
set_option linter.unusedSimpArgs false
attribute [local go_sem] XO

mutual
def Xv.l0 : Nat → List (S144) → List (List (S58)) → Int → Option (Bool)
 | 0, _, _, _ => none
 | k + 1, x0, x1, x5 => if x5 < (x1.length : Int) then (Xv.j1 k x0 x1 x5 (decide (x5 < 5))) else (Xv.j1 k x0 x1 x5 false)
def Xv.j1 : Nat → List (S144) → List (List (S58)) → Int → Bool → Option (Bool)
 | 0, _, _, _, _ => none
 | k + 1, x0, x1, x5, x13 => if x13 = true then (if 0 ≤ x5 then (if x5 < (x1.length : Int) then (if ((Yv x1 x5).length : Int) > 8 then (if ((Yv x1 x5).length : Int) ≤ 40 then (some true) else (if ((Yv x1 x5).length : Int) > 45 then (some true) else (Xv.l0 k x0 x1 (wrap64 (x5 + 1))))) else (if ((Yv x1 x5).length : Int) > 45 then (some true) else (Xv.l0 k x0 x1 (wrap64 (x5 + 1))))) else (none)) else (none)) else (if (x0.length : Int) > 65 then (some true) else (if (x0.length : Int) > 12 then (if (x0.length : Int) ≤ 60 then (some true) else (some (decide ((x1.length : Int) > 5)))) else (some (decide ((x1.length : Int) > 5)))))
end
def Xv.f (k : Nat) (l0 : List (S144)) (l1 : List (List (S58))) : Option (Bool) := Xv.l0 k l0 l1 0
set_option maxHeartbeats 8000000 in
set_option maxRecDepth 100000 in
theorem Xv.calls (k : Nat) (A0 : Option Addr) (c0 : Nat) (l0 : List (S144)) (A1 : Option Addr) (c1 : Nat) (l1 : List (List (S58))) (r : Bool) (w : World) (hr0 : Kd.C k144 w A0 l0.length l0) (hc0 : l0.length ≤ c0) (hr1 : Kd.C (Kd.slice 58 k58) w A1 l1.length l1) (hc1 : l1.length ≤ c1) (h : Xv.f k l0 l1 = some r) :
  Calls Try.prog 30 #[.slice A0 l0.length c0, .slice A1 l1.length c1] w fun e w' => e = .returned (.bool r) ∧ Xq w w' := by
 have HR0 := Xa.mk hr0
 have HC0 := Xa.mk hc0
 clear hr0 hc0
 have HR1 := Xa.mk hr1
 have HC1 := Xa.mk hc1
 clear hr1 hc1
 have H : (Xv.l0 k l0 l1 0) = some r := h
 clear h
 have H' := Xa.mk H
 clear H
 go_enter Try.func30, Try.ntmps30
 go_wp2
 go_loopg [5] k (fun kq v5 w' => ∃ (x5_1 : Int), v5 = .int .i64 x5_1 ∧ Xa (Xv.l0 kq l0 l1 x5_1 = some r) ∧ Xa (kq ≤ k) ∧ Xq w w')
 case atStart => exact ⟨(0), fx_, H', ⟨Nat.le_refl _⟩, by repeat (first | exact Xq.refl _ | apply Xq.step)⟩
 case round =>
  clear H'
  try clear c1; try clear p2
  obtain ⟨x5_1, rfl, HA, HK1, ⟨m1, rfl⟩⟩ := hrel
  cases gk with
  | zero => exact absurd HA.out (by simp [Xv.l0])
  | succ k1 =>
   have H := HA.out
   clear HA
   simp only [Xv.l0] at H
   have HC3 := Xa.mk H
   clear H
   go_upto_region 2 with (fail)
   go_cut [13] (fun v13 wc => ∃ (kq : Nat) (x13_2 : Bool), v13 = .bool x13_2 ∧ Xa (Xv.j1 kq l0 l1 x5_1 x13_2 = some r) ∧ Xa (kq ≤ k1) ∧ Xq w wc)
   case first =>
    have H := HC3.out
    clear HC3
    by_cases c4 : x5_1 < (l1.length : Int)
    ·rw [if_pos c4] at H
     have c4b0 : decide (x5_1 < (l1.length : Int)) = true := decide_eq_true c4
     clear c4
     (first | rw [c4b0] | (simp only [XR, XS]; rw [c4b0]) | skip)
     have H' := Xa.mk H
     clear H
     go_wp2
     go_meet
     case rel => exact ⟨_, (decide (x5_1 < 5)), fx_, H', ⟨by have := HK1.out; first | omega | exact Nat.le_refl _⟩, by repeat (first | exact Xq.refl _ | apply Xq.step)⟩
    ·rw [if_neg c4] at H
     have c4b0 : decide (x5_1 < (l1.length : Int)) = false := decide_eq_false c4
     clear c4
     (first | rw [c4b0] | (simp only [XR, XS]; rw [c4b0]) | skip)
     have H' := Xa.mk H
     clear H
     go_wp2
     go_meet
     case rel => exact ⟨_, (false), fx_, H', ⟨by have := HK1.out; first | omega | exact Nat.le_refl _⟩, by repeat (first | exact Xq.refl _ | apply Xq.step)⟩
   case rest =>
    clear HC3
    try clear c1; try clear p2; try clear c3; try clear c4; try clear c4b0; try clear p2
    obtain ⟨kq, x13_2, rfl, HA, HJ2, ⟨mc2, rfl⟩⟩ := hcut
    cases kq with
    | zero => exact absurd HA.out (by simp [Xv.j1])
    | succ kj2 =>
     have H := HA.out
     clear HA
     simp only [Xv.j1] at H
     by_cases c5 : x13_2 = true
     ·subst c5
      have H1 : (if 0 ≤ x5_1 then (if x5_1 < (l1.length : Int) then (if ((Yv l1 x5_1).length : Int) > 8 then (if ((Yv l1 x5_1).length : Int) ≤ 40 then (some true) else (if ((Yv l1 x5_1).length : Int) > 45 then (some true) else (Xv.l0 kj2 l0 l1 (wrap64 (x5_1 + 1))))) else (if ((Yv l1 x5_1).length : Int) > 45 then (some true) else (Xv.l0 kj2 l0 l1 (wrap64 (x5_1 + 1))))) else (none)) else (none)) = some r := by rw [if_pos rfl] at H; exact H
      clear H
      have H := H1
      clear H1
      by_cases c6 : 0 ≤ x5_1
      ·rw [if_pos c6] at H
       have c6b0 : decide (0 ≤ x5_1) = true := decide_eq_true c6
       clear c6
       by_cases c7 : x5_1 < (l1.length : Int)
       ·rw [if_pos c7] at H
        have c7b0 : decide (x5_1 < (l1.length : Int)) = true := decide_eq_true c7
        clear c7
        by_cases c8 : ((Yv l1 x5_1).length : Int) > 8
        ·rw [if_pos c8] at H
         have c8b0 : decide (8 < ((Yv l1 x5_1).length : Int)) = true := decide_eq_true c8
         have c8b1 : decide (8 < (Yv l1 x5_1).length) = true := decide_eq_true (by omega)
         clear c8
         by_cases c9 : ((Yv l1 x5_1).length : Int) ≤ 40
         ·rw [if_pos c9] at H
          have c9b0 : decide (((Yv l1 x5_1).length : Int) ≤ 40) = true := decide_eq_true c9
          have c9b1 : decide ((Yv l1 x5_1).length ≤ 40) = true := decide_eq_true (by omega)
          clear c9
          obtain rfl := Option.some.inj H
          have p349 : 0 ≤ (x5_1 : Int) := of_decide_eq_true ‹_›
          have q349 : x5_1 < (l1.length : Int) := of_decide_eq_true ‹_›
          obtain ⟨ad349, A349_0, c349_0, e349, hx349_0, hl349_0, hi349_0⟩ := Xar HR1.out x5_1 p349 q349
          cases e349
          have HR349_0 := Xa.mk hi349_0
          have HC349_0 := Xa.mk hl349_0
          clear hi349_0 hl349_0
          replace p349 := eq_true p349
          replace q349 := eq_true q349
          have p350 : 0 ≤ (x5_1 : Int) := of_decide_eq_true ‹_›
          have q350 : x5_1 < (l1.length : Int) := of_decide_eq_true ‹_›
          obtain ⟨ad350, A350_0, c350_0, e350, hx350_0, hl350_0, hi350_0⟩ := Xar HR1.out x5_1 p350 q350
          obtain rfl : ad349 = ad350 := (by injection e350)
          have HR350_0 := Xa.mk hi350_0
          have HC350_0 := Xa.mk hl350_0
          clear hi350_0 hl350_0
          replace p350 := eq_true p350
          replace q350 := eq_true q350
          have ea_ := Option.some.inj (hx349_0.symm.trans hx350_0)
          injection ea_ with ea_ en_ ec_
          subst ea_
          subst ec_
          clear en_
          go_wp2
          go_ret
          exact ⟨by first | rfl | (simp; done) | (simp [*]; done), by repeat (first | exact Xq.refl _ | apply Xq.step)⟩
         ·rw [if_neg c9] at H
          have c9b0 : decide (((Yv l1 x5_1).length : Int) ≤ 40) = false := decide_eq_false c9
          have c9b1 : decide ((Yv l1 x5_1).length ≤ 40) = false := decide_eq_false (by omega)
          clear c9
          by_cases c10 : ((Yv l1 x5_1).length : Int) > 45
          ·rw [if_pos c10] at H
           have c10b0 : decide (45 < ((Yv l1 x5_1).length : Int)) = true := decide_eq_true c10
           have c10b1 : decide (45 < (Yv l1 x5_1).length) = true := decide_eq_true (by omega)
           clear c10
           obtain rfl := Option.some.inj H
           have p349 : 0 ≤ (x5_1 : Int) := of_decide_eq_true ‹_›
           have q349 : x5_1 < (l1.length : Int) := of_decide_eq_true ‹_›
           obtain ⟨ad349, A349_0, c349_0, e349, hx349_0, hl349_0, hi349_0⟩ := Xar HR1.out x5_1 p349 q349
           cases e349
           have HR349_0 := Xa.mk hi349_0
           have HC349_0 := Xa.mk hl349_0
           clear hi349_0 hl349_0
           replace p349 := eq_true p349
           replace q349 := eq_true q349
           have p350 : 0 ≤ (x5_1 : Int) := of_decide_eq_true ‹_›
           have q350 : x5_1 < (l1.length : Int) := of_decide_eq_true ‹_›
           obtain ⟨ad350, A350_0, c350_0, e350, hx350_0, hl350_0, hi350_0⟩ := Xar HR1.out x5_1 p350 q350
           obtain rfl : ad349 = ad350 := (by injection e350)
           have HR350_0 := Xa.mk hi350_0
           have HC350_0 := Xa.mk hl350_0
           clear hi350_0 hl350_0
           replace p350 := eq_true p350
           replace q350 := eq_true q350
           have ea_ := Option.some.inj (hx349_0.symm.trans hx350_0)
           injection ea_ with ea_ en_ ec_
           subst ea_
           subst ec_
           clear en_
           have p351 : 0 ≤ (x5_1 : Int) := of_decide_eq_true ‹_›
           have q351 : x5_1 < (l1.length : Int) := of_decide_eq_true ‹_›
           obtain ⟨ad351, A351_0, c351_0, e351, hx351_0, hl351_0, hi351_0⟩ := Xar HR1.out x5_1 p351 q351
           obtain rfl : ad349 = ad351 := (by injection e351)
           have HR351_0 := Xa.mk hi351_0
           have HC351_0 := Xa.mk hl351_0
           clear hi351_0 hl351_0
           replace p351 := eq_true p351
           replace q351 := eq_true q351
           have ea_ := Option.some.inj (hx349_0.symm.trans hx351_0)
           injection ea_ with ea_ en_ ec_
           subst ea_
           subst ec_
           clear en_
           go_wp2
           go_ret
           exact ⟨by first | rfl | (simp; done) | (simp [*]; done), by repeat (first | exact Xq.refl _ | apply Xq.step)⟩
          ·rw [if_neg c10] at H
           have c10b0 : decide (45 < ((Yv l1 x5_1).length : Int)) = false := decide_eq_false c10
           have c10b1 : decide (45 < (Yv l1 x5_1).length) = false := decide_eq_false (by omega)
           clear c10
           have H' := Xa.mk H
           clear H
           have p349 : 0 ≤ (x5_1 : Int) := of_decide_eq_true ‹_›
           have q349 : x5_1 < (l1.length : Int) := of_decide_eq_true ‹_›
           obtain ⟨ad349, A349_0, c349_0, e349, hx349_0, hl349_0, hi349_0⟩ := Xar HR1.out x5_1 p349 q349
           cases e349
           have HR349_0 := Xa.mk hi349_0
           have HC349_0 := Xa.mk hl349_0
           clear hi349_0 hl349_0
           replace p349 := eq_true p349
           replace q349 := eq_true q349
           have p350 : 0 ≤ (x5_1 : Int) := of_decide_eq_true ‹_›
           have q350 : x5_1 < (l1.length : Int) := of_decide_eq_true ‹_›
           obtain ⟨ad350, A350_0, c350_0, e350, hx350_0, hl350_0, hi350_0⟩ := Xar HR1.out x5_1 p350 q350
           obtain rfl : ad349 = ad350 := (by injection e350)
           have HR350_0 := Xa.mk hi350_0
           have HC350_0 := Xa.mk hl350_0
           clear hi350_0 hl350_0
           replace p350 := eq_true p350
           replace q350 := eq_true q350
           have ea_ := Option.some.inj (hx349_0.symm.trans hx350_0)
           injection ea_ with ea_ en_ ec_
           subst ea_
           subst ec_
           clear en_
           have p351 : 0 ≤ (x5_1 : Int) := of_decide_eq_true ‹_›
           have q351 : x5_1 < (l1.length : Int) := of_decide_eq_true ‹_›
           obtain ⟨ad351, A351_0, c351_0, e351, hx351_0, hl351_0, hi351_0⟩ := Xar HR1.out x5_1 p351 q351
           obtain rfl : ad349 = ad351 := (by injection e351)
           have HR351_0 := Xa.mk hi351_0
           have HC351_0 := Xa.mk hl351_0
           clear hi351_0 hl351_0
           replace p351 := eq_true p351
           replace q351 := eq_true q351
           have ea_ := Option.some.inj (hx349_0.symm.trans hx351_0)
           injection ea_ with ea_ en_ ec_
           subst ea_
           subst ec_
           clear en_
           go_wp2
           go_roundg kj2
           case measure => have := HK1.out; have := HJ2.out; omega
           case rel => exact ⟨(wrap64 (x5_1 + 1)), fx_, H', ⟨by have := HK1.out; have := HJ2.out; omega⟩, by repeat (first | exact Xq.refl _ | apply Xq.step)⟩
        ·rw [if_neg c8] at H
         have c8b0 : decide (8 < ((Yv l1 x5_1).length : Int)) = false := decide_eq_false c8
         have c8b1 : decide (8 < (Yv l1 x5_1).length) = false := decide_eq_false (by omega)
         clear c8
         by_cases c11 : ((Yv l1 x5_1).length : Int) > 45
         ·rw [if_pos c11] at H
          have c11b0 : decide (45 < ((Yv l1 x5_1).length : Int)) = true := decide_eq_true c11
          have c11b1 : decide (45 < (Yv l1 x5_1).length) = true := decide_eq_true (by omega)
          clear c11
          obtain rfl := Option.some.inj H
          have p349 : 0 ≤ (x5_1 : Int) := of_decide_eq_true ‹_›
          have q349 : x5_1 < (l1.length : Int) := of_decide_eq_true ‹_›
          obtain ⟨ad349, A349_0, c349_0, e349, hx349_0, hl349_0, hi349_0⟩ := Xar HR1.out x5_1 p349 q349
          cases e349
          have HR349_0 := Xa.mk hi349_0
          have HC349_0 := Xa.mk hl349_0
          clear hi349_0 hl349_0
          replace p349 := eq_true p349
          replace q349 := eq_true q349
          have p352 : 0 ≤ (x5_1 : Int) := of_decide_eq_true ‹_›
          have q352 : x5_1 < (l1.length : Int) := of_decide_eq_true ‹_›
          obtain ⟨ad352, A352_0, c352_0, e352, hx352_0, hl352_0, hi352_0⟩ := Xar HR1.out x5_1 p352 q352
          obtain rfl : ad349 = ad352 := (by injection e352)
          have HR352_0 := Xa.mk hi352_0
          have HC352_0 := Xa.mk hl352_0
          clear hi352_0 hl352_0
          replace p352 := eq_true p352
          replace q352 := eq_true q352
          have ea_ := Option.some.inj (hx349_0.symm.trans hx352_0)
          injection ea_ with ea_ en_ ec_
          subst ea_
          subst ec_
          clear en_
          go_wp2
          go_ret
          exact ⟨by first | rfl | (simp; done) | (simp [*]; done), by repeat (first | exact Xq.refl _ | apply Xq.step)⟩
         ·rw [if_neg c11] at H
          have c11b0 : decide (45 < ((Yv l1 x5_1).length : Int)) = false := decide_eq_false c11
          have c11b1 : decide (45 < (Yv l1 x5_1).length) = false := decide_eq_false (by omega)
          clear c11
          have H' := Xa.mk H
          clear H
          have p349 : 0 ≤ (x5_1 : Int) := of_decide_eq_true ‹_›
          have q349 : x5_1 < (l1.length : Int) := of_decide_eq_true ‹_›
          obtain ⟨ad349, A349_0, c349_0, e349, hx349_0, hl349_0, hi349_0⟩ := Xar HR1.out x5_1 p349 q349
          cases e349
          have HR349_0 := Xa.mk hi349_0
          have HC349_0 := Xa.mk hl349_0
          clear hi349_0 hl349_0
          replace p349 := eq_true p349
          replace q349 := eq_true q349
          have p352 : 0 ≤ (x5_1 : Int) := of_decide_eq_true ‹_›
          have q352 : x5_1 < (l1.length : Int) := of_decide_eq_true ‹_›
          obtain ⟨ad352, A352_0, c352_0, e352, hx352_0, hl352_0, hi352_0⟩ := Xar HR1.out x5_1 p352 q352
          obtain rfl : ad349 = ad352 := (by injection e352)
          have HR352_0 := Xa.mk hi352_0
          have HC352_0 := Xa.mk hl352_0
          clear hi352_0 hl352_0
          replace p352 := eq_true p352
          replace q352 := eq_true q352
          have ea_ := Option.some.inj (hx349_0.symm.trans hx352_0)
          injection ea_ with ea_ en_ ec_
          subst ea_
          subst ec_
          clear en_
          go_wp2
          go_roundg kj2
          case measure => have := HK1.out; have := HJ2.out; omega
          case rel => exact ⟨(wrap64 (x5_1 + 1)), fx_, H', ⟨by have := HK1.out; have := HJ2.out; omega⟩, by repeat (first | exact Xq.refl _ | apply Xq.step)⟩
       ·rw [if_neg c7] at H
        exact absurd H (by simp)
      ·rw [if_neg c6] at H
       exact absurd H (by simp)
     ·replace c5 := Bool.eq_false_iff.mpr c5
      subst c5
      have H1 : (if (l0.length : Int) > 65 then (some true) else (if (l0.length : Int) > 12 then (if (l0.length : Int) ≤ 60 then (some true) else (some (decide ((l1.length : Int) > 5)))) else (some (decide ((l1.length : Int) > 5))))) = some r := by rw [if_neg (show ¬ (false = true) by decide)] at H; exact H
      clear H
      have H := H1
      clear H1
      by_cases c12 : (l0.length : Int) > 65
      ·rw [if_pos c12] at H
       have c12b0 : decide (65 < (l0.length : Int)) = true := decide_eq_true c12
       have c12b1 : decide (65 < l0.length) = true := decide_eq_true (by omega)
       clear c12
       obtain rfl := Option.some.inj H
       go_wp2
       go_ret
       exact ⟨by first | rfl | (simp; done) | (simp [*]; done), by repeat (first | exact Xq.refl _ | apply Xq.step)⟩
      ·rw [if_neg c12] at H
       have c12b0 : decide (65 < (l0.length : Int)) = false := decide_eq_false c12
       have c12b1 : decide (65 < l0.length) = false := decide_eq_false (by omega)
       clear c12
       by_cases c13 : (l0.length : Int) > 12
       ·rw [if_pos c13] at H
        have c13b0 : decide (12 < (l0.length : Int)) = true := decide_eq_true c13
        have c13b1 : decide (12 < l0.length) = true := decide_eq_true (by omega)
        clear c13
        by_cases c14 : (l0.length : Int) ≤ 60
        ·rw [if_pos c14] at H
         have c14b0 : decide ((l0.length : Int) ≤ 60) = true := decide_eq_true c14
         have c14b1 : decide (l0.length ≤ 60) = true := decide_eq_true (by omega)
         clear c14
         obtain rfl := Option.some.inj H
         go_wp2
         go_ret
         exact ⟨by first | rfl | (simp; done) | (simp [*]; done), by repeat (first | exact Xq.refl _ | apply Xq.step)⟩
        ·rw [if_neg c14] at H
         have c14b0 : decide ((l0.length : Int) ≤ 60) = false := decide_eq_false c14
         have c14b1 : decide (l0.length ≤ 60) = false := decide_eq_false (by omega)
         clear c14
         obtain rfl := Option.some.inj H
         go_wp2
         go_ret
         exact ⟨by first | rfl | (simp; done) | (simp [*]; done), by repeat (first | exact Xq.refl _ | apply Xq.step)⟩
       ·rw [if_neg c13] at H
        have c13b0 : decide (12 < (l0.length : Int)) = false := decide_eq_false c13
        have c13b1 : decide (12 < l0.length) = false := decide_eq_false (by omega)
        clear c13
        obtain rfl := Option.some.inj H
        go_wp2
        go_ret
        exact ⟨by first | rfl | (simp; done) | (simp [*]; done), by repeat (first | exact Xq.refl _ | apply Xq.step)⟩

end Go.Proofs.Ytiaiecfnpompcaa.T
namespace Go.Proofs.Ytiaiecfnpompcaa.T
open Go.RowKit Go.Proofs.YtiaiecfnpompcaaW.PrintWords Go.Proofs.YtiaiecfnpompcaaW.PrintLast Go.Proofs.YtiaiecfnpompcaaW.PrintMore
attribute [local go_sem] XX XW X6 X5 XQ XP X0 XZ
set_option linter.unusedVariables false
set_option linter.unusedSimpArgs false
attribute [local go_sem] XO

def YE.f (l0 : List (S144)) : Option ((List (S144))) := (some (([] : List (S144)) : List (S144))).bind fun y353 => (if y353.length + l0.length < 3518437208883 then (some (y353 ++ l0)) else (none))
set_option maxHeartbeats 8000000 in
set_option maxRecDepth 100000 in
theorem YE.calls (A0 : Option Addr) (c0 : Nat) (l0 : List (S144)) (r : List (S144)) (w : World) (hr0 : Kd.C k144 w A0 l0.length l0) (hc0 : l0.length ≤ c0) (h : YE.f l0 = some r) :
  Calls Try.prog 31 #[.slice A0 l0.length c0] w fun e w' => ∃ v0_ : Value, e = .returned (v0_) ∧ Kd.R k144 144 w' w.heap.size (fun _ => True) v0_ r ∧ Below w.heap.size w w' := by
 have HR0 := Xa.mk hr0
 have HC0 := Xa.mk hc0
 clear hr0 hc0
 have HB := Xa.mk (Below.refl w.heap.size w)
 have H : ((some (([] : List (S144)) : List (S144))).bind fun y353 => (if y353.length + l0.length < 3518437208883 then (some (y353 ++ l0)) else (none))) = some r := h
 clear h
 obtain ⟨y353, hy353⟩ : ∃ y_ : List (S144), y_ = (([] : List (S144))) := ⟨_, rfl⟩
 replace H : (if y353.length + l0.length < 3518437208883 then (some (y353 ++ l0)) else (none)) = some r := by first | (rw [hy353]; with_reducible exact H) | (have H2_ := (Option.bind_some _ _).symm.trans H; rw [hy353]; with_reducible exact H2_) | (have H2_ := (Option.bind_some _ _).symm.trans H; with_reducible exact H2_) | with_reducible exact H | (rw [hy353]; exact H) | exact H
 have Ny353 := Xa.mk hy353
 clear hy353
 by_cases c2 : y353.length + l0.length < 3518437208883
 ·rw [if_pos c2] at H
  have LMc2 := Xa.mk c2
  clear c2
  obtain ⟨y356, hy356⟩ : ∃ y_ : List (S144), y_ = (y353 ++ l0) := ⟨_, rfl⟩
  replace H : (some y356) = some r := by first | (rw [hy356]; with_reducible exact H) | (have H2_ := (Option.bind_some _ _).symm.trans H; rw [hy356]; with_reducible exact H2_) | (have H2_ := (Option.bind_some _ _).symm.trans H; with_reducible exact H2_) | with_reducible exact H | (rw [hy356]; exact H) | exact H
  have Ny356 := Xa.mk hy356
  clear hy356
  obtain rfl := Option.some.inj H
  go_enter Try.func31, Try.ntmps31
  go_wp2_with (first | ((with_reducible refine Xz (N := 3) rfl ?_); refine Kd.R_lit k144 _ 144 ?hg (N := 3) ?hd (xs := ([] : List (S144))) (inner := []) (ok := fun _ => True) (okp := fun _ => True) ?hr ?hp (fun _ hk => hk) trivial (Below.refl _ _) (Nat.le_refl _) (by simp) ?_; (case hd => rfl); (case hg => rfl); (case hr => first | (go_simp; done) | (go_simp; rfl)); (case hp => exact (Reps.none _ _)); intro v354 w3 ho4 hb hg_ hnew_; clear hg_ hnew_; (first | rw [← Ny353.out] at ho4 | (simp only [Int.reduceToNat] at ho4; rw [← Ny353.out] at ho4)); have HO355 := Xa.mk (Kd.R_lower ho4 (Xg HB.out)); replace HB := Xa.mk (Xi HB.out hb); clear hb ho4) | ((with_reducible refine YJ (b := .append) (xs := #[.tmp 3, .tmp 4]) rfl ?_); at_builtin; refine Kd.R_append_rows k144 (w0 := w) w.heap.size rfl (.tmp 3) (.tmp 4) 56 144 (.agg #[(.int .i64 0), (.int .i64 0), (.int .i64 0), (.int .i64 0), (.int .i64 0)]) 40 rfl Try.underlying56 XfO rfl (by decide) (by omega) v354 y353 l0 _ _ _ (fun _ => True) (fun _ => False) rfl rfl ?aO ?aR (fun _ _ h => h) (fun _ h => h.elim) ?aF ?aB ?aS ?aL ?_; (case aR => repeat (first | exact (Kd.C_below HR0.out HB.out) | (with_reducible refine Kd.C_alloc ?_ _) | (with_reducible refine Kd.C_drewN ?_ _) | (with_reducible refine Kd.C_drew ?_))); (case aB => exact HB.out); (case aF => exact (fun _ _ => trivial)); (case aO => exact (by (with_reducible repeat (first | apply Kd.R_alloc | apply Kd.R_drewN | apply Kd.R_drew)); exact HO355.out)); (case aS => exact (Xg HB.out)); (case aL => have := LMc2.out; omega); intro v357 w5 ho hb hg hat; rw [← Ny356.out] at ho; replace HB := Xa.mk (hb); have HO358 := Xa.mk (ho); clear HO355; clear ho hb hg hat))
  go_ret
  exact ⟨_, by first | rfl | (simp [errW_none, errW_some] <;> rfl) | (simp [*, errW_none, errW_some] <;> rfl), by (with_reducible repeat (first | apply Kd.R_alloc | apply Kd.R_drewN | apply Kd.R_drew)); exact HO358.out, by repeat (first | (with_reducible first | exact HB.out | apply Xs | apply Xo | apply Xl) | exact HB.out)⟩
 ·rw [if_neg c2] at H
  exact absurd H (by simp)

end Go.Proofs.Ytiaiecfnpompcaa.T
namespace Go.Proofs.Ytiaiecfnpompcaa.T
open Go.RowKit Go.Proofs.YtiaiecfnpompcaaW.PrintWords Go.Proofs.YtiaiecfnpompcaaW.PrintLast Go.Proofs.YtiaiecfnpompcaaW.PrintMore
attribute [local go_sem] XX XW X6 X5 XQ XP X0 XZ
set_option linter.unusedVariables false
set_option linter.unusedSimpArgs false
attribute [local go_sem] XO

def Xj.f (a0 : Int) (a1 : Int) (a2 : Int) : Option (Bool) := if a0 ≥ a1 then (some (decide (a0 ≤ a2))) else (some false)
set_option maxHeartbeats 8000000 in
set_option maxRecDepth 100000 in
theorem Xj.calls (a0 : Int) (a1 : Int) (a2 : Int) (r : Bool) (w : World) (h : Xj.f a0 a1 a2 = some r) :
  Calls Try.prog 19 #[.int .i64 a0, .int .i64 a1, .int .i64 a2] w fun e w' => e = .returned (.bool r) ∧ Xq w w' := by
 have H : (if a0 ≥ a1 then (some (decide (a0 ≤ a2))) else (some false)) = some r := h
 clear h
 by_cases c4 : a0 ≥ a1
 ·rw [if_pos c4] at H
  have c4b0 : decide (a1 ≤ a0) = true := decide_eq_true c4
  clear c4
  obtain rfl := Option.some.inj H
  go_enter Try.func19, Try.ntmps19
  go_wp2
  go_ret
  exact ⟨by first | rfl | (simp; done) | (simp [*]; done), by repeat (first | exact Xq.refl _ | apply Xq.step)⟩
 ·rw [if_neg c4] at H
  have c4b0 : decide (a1 ≤ a0) = false := decide_eq_false c4
  clear c4
  obtain rfl := Option.some.inj H
  go_enter Try.func19, Try.ntmps19
  go_wp2
  go_ret
  exact ⟨by first | rfl | (simp; done) | (simp [*]; done), by repeat (first | exact Xq.refl _ | apply Xq.step)⟩

end Go.Proofs.Ytiaiecfnpompcaa.T
namespace Go.Proofs.Ytiaiecfnpompcaa.T
open Go.RowKit Go.Proofs.YtiaiecfnpompcaaW.PrintWords Go.Proofs.YtiaiecfnpompcaaW.PrintLast Go.Proofs.YtiaiecfnpompcaaW.PrintMore
attribute [local go_sem] XX XW X6 X5 XQ XP X0 XZ
set_option linter.unusedVariables false
set_option linter.unusedSimpArgs false
attribute [local go_sem] XO

mutual
def Xk.l0 : Nat → List (S144) → Int → Option (Int)
 | 0, _, _ => none
 | k + 1, x0, x3 => if x3 < (x0.length : Int) then (if 0 ≤ x3 then ((Xj.f ((Xc x0 x3).f0) 0 1000).bind fun t361 => (if t361 = true then ((Xj.f ((Xc x0 x3).f3) 0 1000).bind fun t362 => (if t362 = true then ((Xj.f ((Xc x0 x3).f4) 0 1000).bind fun t363 => (if t363 = true then ((Xj.f ((Xc x0 x3).f1) 0 ((Xc x0 x3).f2)).bind fun t364 => (if t364 = true then (Xk.j1 k x0 x3 (decide (((Xc x0 x3).f2) > 100000)) ((Xc x0 x3).f0) ((Xc x0 x3).f1) ((Xc x0 x3).f2) ((Xc x0 x3).f3) ((Xc x0 x3).f4)) else (Xk.j1 k x0 x3 true ((Xc x0 x3).f0) ((Xc x0 x3).f1) ((Xc x0 x3).f2) ((Xc x0 x3).f3) ((Xc x0 x3).f4)))) else (Xk.j1 k x0 x3 true ((Xc x0 x3).f0) ((Xc x0 x3).f1) ((Xc x0 x3).f2) ((Xc x0 x3).f3) ((Xc x0 x3).f4)))) else (Xk.j1 k x0 x3 true ((Xc x0 x3).f0) ((Xc x0 x3).f1) ((Xc x0 x3).f2) ((Xc x0 x3).f3) ((Xc x0 x3).f4)))) else (Xk.j1 k x0 x3 true ((Xc x0 x3).f0) ((Xc x0 x3).f1) ((Xc x0 x3).f2) ((Xc x0 x3).f3) ((Xc x0 x3).f4)))) else (none)) else (some 0)
def Xk.j1 : Nat → List (S144) → Int → Bool → Int → Int → Int → Int → Int → Option (Int)
 | 0, _, _, _, _, _, _, _, _ => none
 | k + 1, x0, x3, x47, x361000, x361001, x361002, x361003, x361004 => if x47 = true then (some 2) else (Xk.l1 k x0 x3 0 x361000 x361001 x361002 x361003 x361004)
def Xk.l1 : Nat → List (S144) → Int → Int → Int → Int → Int → Int → Int → Option (Int)
 | 0, _, _, _, _, _, _, _, _ => none
 | k + 1, x0, x3, x5, x361000, x361001, x361002, x361003, x361004 => if x5 < x3 then (if 0 ≤ x5 then (if x5 < (x0.length : Int) then (if ((Xc x0 x5).f0) = x361000 then (if ((Xc x0 x5).f1) ≤ x361002 then (if x361001 ≤ ((Xc x0 x5).f2) then (some 6) else (Xk.l1 k x0 x3 (wrap64 (x5 + 1)) x361000 x361001 x361002 x361003 x361004)) else (Xk.l1 k x0 x3 (wrap64 (x5 + 1)) x361000 x361001 x361002 x361003 x361004)) else (Xk.l1 k x0 x3 (wrap64 (x5 + 1)) x361000 x361001 x361002 x361003 x361004)) else (none)) else (none)) else (Xk.l0 k x0 (wrap64 (x3 + 1)))
end
def Xk.f (k : Nat) (l0 : List (S144)) : Option (Int) := if (l0.length : Int) > 60 then (some 5) else (Xk.l0 k l0 0)
set_option maxHeartbeats 8000000 in
set_option maxRecDepth 100000 in
theorem Xk.calls (k : Nat) (A0 : Option Addr) (c0 : Nat) (l0 : List (S144)) (r : Int) (w : World) (hr0 : Kd.C k144 w A0 l0.length l0) (hc0 : l0.length ≤ c0) (h : Xk.f k l0 = some r) :
  Calls Try.prog 34 #[.slice A0 l0.length c0] w fun e w' => e = .returned (.int .i64 r) ∧ Below w.heap.size w w' := by
 have hu144 := Try.underlying144
 have HR0 := Xa.mk hr0
 have HC0 := Xa.mk hc0
 clear hr0 hc0
 have HB := Xa.mk (Below.refl w.heap.size w)
 have H : (if (l0.length : Int) > 60 then (some 5) else (Xk.l0 k l0 0)) = some r := h
 clear h
 by_cases c2 : (l0.length : Int) > 60
 ·rw [if_pos c2] at H
  have c2b0 : decide (60 < (l0.length : Int)) = true := decide_eq_true c2
  have c2b1 : decide (60 < l0.length) = true := decide_eq_true (by omega)
  clear c2
  obtain rfl := Option.some.inj H
  go_enter Try.func34, Try.ntmps34
  go_wp2
  repeat (go_quiet (fail); try go_wp2)
  go_ret
  exact ⟨by first | rfl | (simp [errW_none, errW_some] <;> rfl) | (simp [*, errW_none, errW_some] <;> rfl), by repeat (first | (with_reducible first | exact HB.out | apply Xs | apply Xo | apply Xl) | exact HB.out)⟩
 ·rw [if_neg c2] at H
  have c2b0 : decide (60 < (l0.length : Int)) = false := decide_eq_false c2
  have c2b1 : decide (60 < l0.length) = false := decide_eq_false (by omega)
  clear c2
  have H' := Xa.mk H
  clear H
  go_enter Try.func34, Try.ntmps34
  go_wp2
  repeat (go_quiet (fail); try go_wp2)
  go_loopg [3] k (fun kq v3 w' => ∃ (x3_1 : Int), v3 = .int .i64 x3_1 ∧ Xa (Xk.l0 kq l0 x3_1 = some r) ∧ Xa (kq ≤ k) ∧ Xa (Below w.heap.size w w'))
  case atStart => exact ⟨(0), fx_, H', ⟨Nat.le_refl _⟩, ⟨hb_ HB⟩⟩
  case round =>
   clear H'
   clear c2b0 c2b1
   obtain ⟨x3_1, rfl, HA, HK1, HB⟩ := hrel
   cases gk with
   | zero => exact absurd HA.out (by simp [Xk.l0])
   | succ k1 =>
    have H := HA.out
    clear HA
    simp only [Xk.l0] at H
    by_cases c3 : x3_1 < (l0.length : Int)
    ·rw [if_pos c3] at H
     have c3b0 : decide (x3_1 < (l0.length : Int)) = true := decide_eq_true c3
     clear c3
     by_cases c4 : 0 ≤ x3_1
     ·rw [if_pos c4] at H
      have c4b0 : decide (0 ≤ x3_1) = true := decide_eq_true c4
      clear c4
      have HC5 := Xa.mk H
      clear H
      have p359 : 0 ≤ (x3_1 : Int) := of_decide_eq_true ‹_›
      have q359 : x3_1 < (l0.length : Int) := of_decide_eq_true ‹_›
      obtain ⟨ad359, e359, hx359_0, hx359_1, hx359_2, hx359_3, hx359_4⟩ := Yb HR0.out x3_1 p359 q359
      cases e359
      replace hx359_0 := bl_ HB hx359_0
      replace hx359_1 := bl_ HB hx359_1
      replace hx359_2 := bl_ HB hx359_2
      replace hx359_3 := bl_ HB hx359_3
      replace hx359_4 := bl_ HB hx359_4
      replace p359 := eq_true p359
      replace q359 := eq_true q359
      go_upto_region 7 with (first | ((with_reducible refine Xz (N := 4) rfl ?_); refine XH ?hg (N := 4) ?hd (cs := #[.int .i64 0, .int .i64 0, .int .i64 0, .int .i64 0, .int .i64 0]) (t := 144) ?hr ?_; (case hd => rfl); (case hg => rfl); (case hr => first | (go_simp; done) | (go_simp; rfl)); intro gb360 hg w6 hbox hb; have BK360 := Xa.mk (hbox); have GW360 := Xa.mk ((by rw [hg]; exact (Xg HB.out) : w.heap.size ≤ gb360)); have GE360 := GW360; replace HB := Xa.mk (Xi HB.out hb); clear hb hbox hg; obtain ⟨hcz7_0, hcz7_1, hcz7_2, hcz7_3, hcz7_4⟩ := bc5 BK360.out; obtain ⟨hfz7_0, hfz7_1, hfz7_2, hfz7_3, hfz7_4⟩ := bf5 BK360.out))
      repeat (go_quiet (first | ((with_reducible refine Xz (N := 4) rfl ?_); refine XH ?hg (N := 4) ?hd (cs := #[.int .i64 0, .int .i64 0, .int .i64 0, .int .i64 0, .int .i64 0]) (t := 144) ?hr ?_; (case hd => rfl); (case hg => rfl); (case hr => first | (go_simp; done) | (go_simp; rfl)); intro gb360 hg w6 hbox hb; have BK360 := Xa.mk (hbox); have GW360 := Xa.mk ((by rw [hg]; exact (Xg HB.out) : w.heap.size ≤ gb360)); have GE360 := GW360; replace HB := Xa.mk (Xi HB.out hb); clear hb hbox hg; obtain ⟨hcz7_0, hcz7_1, hcz7_2, hcz7_3, hcz7_4⟩ := bc5 BK360.out; obtain ⟨hfz7_0, hfz7_1, hfz7_2, hfz7_3, hfz7_4⟩ := bf5 BK360.out)); go_upto_region 7 with (first | ((with_reducible refine Xz (N := 4) rfl ?_); refine XH ?hg (N := 4) ?hd (cs := #[.int .i64 0, .int .i64 0, .int .i64 0, .int .i64 0, .int .i64 0]) (t := 144) ?hr ?_; (case hd => rfl); (case hg => rfl); (case hr => first | (go_simp; done) | (go_simp; rfl)); intro gb360 hg w6 hbox hb; have BK360 := Xa.mk (hbox); have GW360 := Xa.mk ((by rw [hg]; exact (Xg HB.out) : w.heap.size ≤ gb360)); have GE360 := GW360; replace HB := Xa.mk (Xi HB.out hb); clear hb hbox hg; obtain ⟨hcz7_0, hcz7_1, hcz7_2, hcz7_3, hcz7_4⟩ := bc5 BK360.out; obtain ⟨hfz7_0, hfz7_1, hfz7_2, hfz7_3, hfz7_4⟩ := bf5 BK360.out)))
      (try simp only [Act.put, sa_, s0_, s1_])
      go_cut [47] (fun v47 wc => ∃ (kq : Nat) (x47_4 : Bool), v47 = .bool x47_4 ∧ Xa (Xk.j1 kq l0 x3_1 x47_4 ((Xc l0 x3_1).f0) ((Xc l0 x3_1).f1) ((Xc l0 x3_1).f2) ((Xc l0 x3_1).f3) ((Xc l0 x3_1).f4) = some r) ∧ Xa (kq ≤ k1) ∧ Xa (wc.heap[gb360]? = some (.cells #[.int .i64 ((Xc l0 x3_1).f0), .int .i64 ((Xc l0 x3_1).f1), .int .i64 ((Xc l0 x3_1).f2), .int .i64 ((Xc l0 x3_1).f3), .int .i64 ((Xc l0 x3_1).f4)] 144 (0, 0))) ∧ Xa (Below w.heap.size w wc))
      case first =>
       have H := HC5.out
       clear HC5
       replace H := Option.bind_eq_some_iff.mp H
       obtain ⟨t361, A80, H⟩ := H; (try dsimp only at H)
       have A8 := Xa.mk A80
       clear A80
       by_cases c9 : t361 = true
       ·subst c9
        have H1 : ((Xj.f ((Xc l0 x3_1).f3) 0 1000).bind fun t362 => (if t362 = true then ((Xj.f ((Xc l0 x3_1).f4) 0 1000).bind fun t363 => (if t363 = true then ((Xj.f ((Xc l0 x3_1).f1) 0 ((Xc l0 x3_1).f2)).bind fun t364 => (if t364 = true then (Xk.j1 k1 l0 x3_1 (decide (((Xc l0 x3_1).f2) > 100000)) ((Xc l0 x3_1).f0) ((Xc l0 x3_1).f1) ((Xc l0 x3_1).f2) ((Xc l0 x3_1).f3) ((Xc l0 x3_1).f4)) else (Xk.j1 k1 l0 x3_1 true ((Xc l0 x3_1).f0) ((Xc l0 x3_1).f1) ((Xc l0 x3_1).f2) ((Xc l0 x3_1).f3) ((Xc l0 x3_1).f4)))) else (Xk.j1 k1 l0 x3_1 true ((Xc l0 x3_1).f0) ((Xc l0 x3_1).f1) ((Xc l0 x3_1).f2) ((Xc l0 x3_1).f3) ((Xc l0 x3_1).f4)))) else (Xk.j1 k1 l0 x3_1 true ((Xc l0 x3_1).f0) ((Xc l0 x3_1).f1) ((Xc l0 x3_1).f2) ((Xc l0 x3_1).f3) ((Xc l0 x3_1).f4)))) = some r := by rw [if_pos rfl] at H; exact H
        clear H
        have H := H1
        clear H1
        replace H := Option.bind_eq_some_iff.mp H
        obtain ⟨t362, A100, H⟩ := H; (try dsimp only at H)
        have A10 := Xa.mk A100
        clear A100
        by_cases c11 : t362 = true
        ·subst c11
         have H1 : ((Xj.f ((Xc l0 x3_1).f4) 0 1000).bind fun t363 => (if t363 = true then ((Xj.f ((Xc l0 x3_1).f1) 0 ((Xc l0 x3_1).f2)).bind fun t364 => (if t364 = true then (Xk.j1 k1 l0 x3_1 (decide (((Xc l0 x3_1).f2) > 100000)) ((Xc l0 x3_1).f0) ((Xc l0 x3_1).f1) ((Xc l0 x3_1).f2) ((Xc l0 x3_1).f3) ((Xc l0 x3_1).f4)) else (Xk.j1 k1 l0 x3_1 true ((Xc l0 x3_1).f0) ((Xc l0 x3_1).f1) ((Xc l0 x3_1).f2) ((Xc l0 x3_1).f3) ((Xc l0 x3_1).f4)))) else (Xk.j1 k1 l0 x3_1 true ((Xc l0 x3_1).f0) ((Xc l0 x3_1).f1) ((Xc l0 x3_1).f2) ((Xc l0 x3_1).f3) ((Xc l0 x3_1).f4)))) = some r := by rw [if_pos rfl] at H; exact H
         clear H
         have H := H1
         clear H1
         replace H := Option.bind_eq_some_iff.mp H
         obtain ⟨t363, A120, H⟩ := H; (try dsimp only at H)
         have A12 := Xa.mk A120
         clear A120
         by_cases c13 : t363 = true
         ·subst c13
          have H1 : ((Xj.f ((Xc l0 x3_1).f1) 0 ((Xc l0 x3_1).f2)).bind fun t364 => (if t364 = true then (Xk.j1 k1 l0 x3_1 (decide (((Xc l0 x3_1).f2) > 100000)) ((Xc l0 x3_1).f0) ((Xc l0 x3_1).f1) ((Xc l0 x3_1).f2) ((Xc l0 x3_1).f3) ((Xc l0 x3_1).f4)) else (Xk.j1 k1 l0 x3_1 true ((Xc l0 x3_1).f0) ((Xc l0 x3_1).f1) ((Xc l0 x3_1).f2) ((Xc l0 x3_1).f3) ((Xc l0 x3_1).f4)))) = some r := by rw [if_pos rfl] at H; exact H
          clear H
          have H := H1
          clear H1
          replace H := Option.bind_eq_some_iff.mp H
          obtain ⟨t364, A140, H⟩ := H; (try dsimp only at H)
          have A14 := Xa.mk A140
          clear A140
          by_cases c15 : t364 = true
          ·subst c15
           have H1 : (Xk.j1 k1 l0 x3_1 (decide (((Xc l0 x3_1).f2) > 100000)) ((Xc l0 x3_1).f0) ((Xc l0 x3_1).f1) ((Xc l0 x3_1).f2) ((Xc l0 x3_1).f3) ((Xc l0 x3_1).f4)) = some r := by rw [if_pos rfl] at H; exact H
           clear H
           have H := H1
           clear H1
           have H' := Xa.mk H
           clear H
           obtain ⟨hcz16_0, hcz16_1, hcz16_2, hcz16_3, hcz16_4⟩ := bc5 BK360.out
           obtain ⟨hfz16_0, hfz16_1, hfz16_2, hfz16_3, hfz16_4⟩ := bf5 BK360.out
           go_wp2_with (first | (go_at_call 19; (with_reducible refine (Xj.calls ((Xc l0 x3_1).f0) 0 1000 true _ A8.out).mono ?_); rintro e w' ⟨rfl, ⟨nd, rfl⟩⟩; (try first | exact ⟨rfl, _, World.drewN_drewN _ _ _⟩ | exact ⟨rfl, _, Eq.trans (World.drewN_drewN _ _ _) (congrArg (World.drewN _) (Nat.add_assoc _ _ _))⟩)) | (go_at_call 19; (with_reducible refine (Xj.calls ((Xc l0 x3_1).f3) 0 1000 true _ A10.out).mono ?_); rintro e w' ⟨rfl, ⟨nd, rfl⟩⟩; (try first | exact ⟨rfl, _, World.drewN_drewN _ _ _⟩ | exact ⟨rfl, _, Eq.trans (World.drewN_drewN _ _ _) (congrArg (World.drewN _) (Nat.add_assoc _ _ _))⟩)) | (go_at_call 19; (with_reducible refine (Xj.calls ((Xc l0 x3_1).f4) 0 1000 true _ A12.out).mono ?_); rintro e w' ⟨rfl, ⟨nd, rfl⟩⟩; (try first | exact ⟨rfl, _, World.drewN_drewN _ _ _⟩ | exact ⟨rfl, _, Eq.trans (World.drewN_drewN _ _ _) (congrArg (World.drewN _) (Nat.add_assoc _ _ _))⟩)) | (go_at_call 19; (with_reducible refine (Xj.calls ((Xc l0 x3_1).f1) 0 ((Xc l0 x3_1).f2) true _ A14.out).mono ?_); rintro e w' ⟨rfl, ⟨nd, rfl⟩⟩; (try first | exact ⟨rfl, _, World.drewN_drewN _ _ _⟩ | exact ⟨rfl, _, Eq.trans (World.drewN_drewN _ _ _) (congrArg (World.drewN _) (Nat.add_assoc _ _ _))⟩)))
           repeat (go_quiet (first | (go_at_call 19; (with_reducible refine (Xj.calls ((Xc l0 x3_1).f0) 0 1000 true _ A8.out).mono ?_); rintro e w' ⟨rfl, ⟨nd, rfl⟩⟩; (try first | exact ⟨rfl, _, World.drewN_drewN _ _ _⟩ | exact ⟨rfl, _, Eq.trans (World.drewN_drewN _ _ _) (congrArg (World.drewN _) (Nat.add_assoc _ _ _))⟩)) | (go_at_call 19; (with_reducible refine (Xj.calls ((Xc l0 x3_1).f3) 0 1000 true _ A10.out).mono ?_); rintro e w' ⟨rfl, ⟨nd, rfl⟩⟩; (try first | exact ⟨rfl, _, World.drewN_drewN _ _ _⟩ | exact ⟨rfl, _, Eq.trans (World.drewN_drewN _ _ _) (congrArg (World.drewN _) (Nat.add_assoc _ _ _))⟩)) | (go_at_call 19; (with_reducible refine (Xj.calls ((Xc l0 x3_1).f4) 0 1000 true _ A12.out).mono ?_); rintro e w' ⟨rfl, ⟨nd, rfl⟩⟩; (try first | exact ⟨rfl, _, World.drewN_drewN _ _ _⟩ | exact ⟨rfl, _, Eq.trans (World.drewN_drewN _ _ _) (congrArg (World.drewN _) (Nat.add_assoc _ _ _))⟩)) | (go_at_call 19; (with_reducible refine (Xj.calls ((Xc l0 x3_1).f1) 0 ((Xc l0 x3_1).f2) true _ A14.out).mono ?_); rintro e w' ⟨rfl, ⟨nd, rfl⟩⟩; (try first | exact ⟨rfl, _, World.drewN_drewN _ _ _⟩ | exact ⟨rfl, _, Eq.trans (World.drewN_drewN _ _ _) (congrArg (World.drewN _) (Nat.add_assoc _ _ _))⟩))); try go_wp2_with (first | (go_at_call 19; (with_reducible refine (Xj.calls ((Xc l0 x3_1).f0) 0 1000 true _ A8.out).mono ?_); rintro e w' ⟨rfl, ⟨nd, rfl⟩⟩; (try first | exact ⟨rfl, _, World.drewN_drewN _ _ _⟩ | exact ⟨rfl, _, Eq.trans (World.drewN_drewN _ _ _) (congrArg (World.drewN _) (Nat.add_assoc _ _ _))⟩)) | (go_at_call 19; (with_reducible refine (Xj.calls ((Xc l0 x3_1).f3) 0 1000 true _ A10.out).mono ?_); rintro e w' ⟨rfl, ⟨nd, rfl⟩⟩; (try first | exact ⟨rfl, _, World.drewN_drewN _ _ _⟩ | exact ⟨rfl, _, Eq.trans (World.drewN_drewN _ _ _) (congrArg (World.drewN _) (Nat.add_assoc _ _ _))⟩)) | (go_at_call 19; (with_reducible refine (Xj.calls ((Xc l0 x3_1).f4) 0 1000 true _ A12.out).mono ?_); rintro e w' ⟨rfl, ⟨nd, rfl⟩⟩; (try first | exact ⟨rfl, _, World.drewN_drewN _ _ _⟩ | exact ⟨rfl, _, Eq.trans (World.drewN_drewN _ _ _) (congrArg (World.drewN _) (Nat.add_assoc _ _ _))⟩)) | (go_at_call 19; (with_reducible refine (Xj.calls ((Xc l0 x3_1).f1) 0 ((Xc l0 x3_1).f2) true _ A14.out).mono ?_); rintro e w' ⟨rfl, ⟨nd, rfl⟩⟩; (try first | exact ⟨rfl, _, World.drewN_drewN _ _ _⟩ | exact ⟨rfl, _, Eq.trans (World.drewN_drewN _ _ _) (congrArg (World.drewN _) (Nat.add_assoc _ _ _))⟩))))
           go_meet
           case rel => exact ⟨_, (decide (((Xc l0 x3_1).f2) > 100000)), fx_, H', ⟨by have := HK1.out; first | omega | exact Nat.le_refl _⟩, ⟨by exact bto (bput (bput (bput (bput (bput (BK360.out) _ _) _ _) _ _) _ _) _ _) rfl⟩, ⟨hb_ HB⟩⟩
          ·replace c15 := Bool.eq_false_iff.mpr c15
           subst c15
           have H1 : (Xk.j1 k1 l0 x3_1 true ((Xc l0 x3_1).f0) ((Xc l0 x3_1).f1) ((Xc l0 x3_1).f2) ((Xc l0 x3_1).f3) ((Xc l0 x3_1).f4)) = some r := by rw [if_neg (show ¬ (false = true) by decide)] at H; exact H
           clear H
           have H := H1
           clear H1
           have H' := Xa.mk H
           clear H
           obtain ⟨hcz17_0, hcz17_1, hcz17_2, hcz17_3, hcz17_4⟩ := bc5 BK360.out
           obtain ⟨hfz17_0, hfz17_1, hfz17_2, hfz17_3, hfz17_4⟩ := bf5 BK360.out
           go_wp2_with (first | (go_at_call 19; (with_reducible refine (Xj.calls ((Xc l0 x3_1).f0) 0 1000 true _ A8.out).mono ?_); rintro e w' ⟨rfl, ⟨nd, rfl⟩⟩; (try first | exact ⟨rfl, _, World.drewN_drewN _ _ _⟩ | exact ⟨rfl, _, Eq.trans (World.drewN_drewN _ _ _) (congrArg (World.drewN _) (Nat.add_assoc _ _ _))⟩)) | (go_at_call 19; (with_reducible refine (Xj.calls ((Xc l0 x3_1).f3) 0 1000 true _ A10.out).mono ?_); rintro e w' ⟨rfl, ⟨nd, rfl⟩⟩; (try first | exact ⟨rfl, _, World.drewN_drewN _ _ _⟩ | exact ⟨rfl, _, Eq.trans (World.drewN_drewN _ _ _) (congrArg (World.drewN _) (Nat.add_assoc _ _ _))⟩)) | (go_at_call 19; (with_reducible refine (Xj.calls ((Xc l0 x3_1).f4) 0 1000 true _ A12.out).mono ?_); rintro e w' ⟨rfl, ⟨nd, rfl⟩⟩; (try first | exact ⟨rfl, _, World.drewN_drewN _ _ _⟩ | exact ⟨rfl, _, Eq.trans (World.drewN_drewN _ _ _) (congrArg (World.drewN _) (Nat.add_assoc _ _ _))⟩)) | (go_at_call 19; (with_reducible refine (Xj.calls ((Xc l0 x3_1).f1) 0 ((Xc l0 x3_1).f2) false _ A14.out).mono ?_); rintro e w' ⟨rfl, ⟨nd, rfl⟩⟩; (try first | exact ⟨rfl, _, World.drewN_drewN _ _ _⟩ | exact ⟨rfl, _, Eq.trans (World.drewN_drewN _ _ _) (congrArg (World.drewN _) (Nat.add_assoc _ _ _))⟩)))
           repeat (go_quiet (first | (go_at_call 19; (with_reducible refine (Xj.calls ((Xc l0 x3_1).f0) 0 1000 true _ A8.out).mono ?_); rintro e w' ⟨rfl, ⟨nd, rfl⟩⟩; (try first | exact ⟨rfl, _, World.drewN_drewN _ _ _⟩ | exact ⟨rfl, _, Eq.trans (World.drewN_drewN _ _ _) (congrArg (World.drewN _) (Nat.add_assoc _ _ _))⟩)) | (go_at_call 19; (with_reducible refine (Xj.calls ((Xc l0 x3_1).f3) 0 1000 true _ A10.out).mono ?_); rintro e w' ⟨rfl, ⟨nd, rfl⟩⟩; (try first | exact ⟨rfl, _, World.drewN_drewN _ _ _⟩ | exact ⟨rfl, _, Eq.trans (World.drewN_drewN _ _ _) (congrArg (World.drewN _) (Nat.add_assoc _ _ _))⟩)) | (go_at_call 19; (with_reducible refine (Xj.calls ((Xc l0 x3_1).f4) 0 1000 true _ A12.out).mono ?_); rintro e w' ⟨rfl, ⟨nd, rfl⟩⟩; (try first | exact ⟨rfl, _, World.drewN_drewN _ _ _⟩ | exact ⟨rfl, _, Eq.trans (World.drewN_drewN _ _ _) (congrArg (World.drewN _) (Nat.add_assoc _ _ _))⟩)) | (go_at_call 19; (with_reducible refine (Xj.calls ((Xc l0 x3_1).f1) 0 ((Xc l0 x3_1).f2) false _ A14.out).mono ?_); rintro e w' ⟨rfl, ⟨nd, rfl⟩⟩; (try first | exact ⟨rfl, _, World.drewN_drewN _ _ _⟩ | exact ⟨rfl, _, Eq.trans (World.drewN_drewN _ _ _) (congrArg (World.drewN _) (Nat.add_assoc _ _ _))⟩))); try go_wp2_with (first | (go_at_call 19; (with_reducible refine (Xj.calls ((Xc l0 x3_1).f0) 0 1000 true _ A8.out).mono ?_); rintro e w' ⟨rfl, ⟨nd, rfl⟩⟩; (try first | exact ⟨rfl, _, World.drewN_drewN _ _ _⟩ | exact ⟨rfl, _, Eq.trans (World.drewN_drewN _ _ _) (congrArg (World.drewN _) (Nat.add_assoc _ _ _))⟩)) | (go_at_call 19; (with_reducible refine (Xj.calls ((Xc l0 x3_1).f3) 0 1000 true _ A10.out).mono ?_); rintro e w' ⟨rfl, ⟨nd, rfl⟩⟩; (try first | exact ⟨rfl, _, World.drewN_drewN _ _ _⟩ | exact ⟨rfl, _, Eq.trans (World.drewN_drewN _ _ _) (congrArg (World.drewN _) (Nat.add_assoc _ _ _))⟩)) | (go_at_call 19; (with_reducible refine (Xj.calls ((Xc l0 x3_1).f4) 0 1000 true _ A12.out).mono ?_); rintro e w' ⟨rfl, ⟨nd, rfl⟩⟩; (try first | exact ⟨rfl, _, World.drewN_drewN _ _ _⟩ | exact ⟨rfl, _, Eq.trans (World.drewN_drewN _ _ _) (congrArg (World.drewN _) (Nat.add_assoc _ _ _))⟩)) | (go_at_call 19; (with_reducible refine (Xj.calls ((Xc l0 x3_1).f1) 0 ((Xc l0 x3_1).f2) false _ A14.out).mono ?_); rintro e w' ⟨rfl, ⟨nd, rfl⟩⟩; (try first | exact ⟨rfl, _, World.drewN_drewN _ _ _⟩ | exact ⟨rfl, _, Eq.trans (World.drewN_drewN _ _ _) (congrArg (World.drewN _) (Nat.add_assoc _ _ _))⟩))))
           go_meet
           case rel => exact ⟨_, (true), fx_, H', ⟨by have := HK1.out; first | omega | exact Nat.le_refl _⟩, ⟨by exact bto (bput (bput (bput (bput (bput (BK360.out) _ _) _ _) _ _) _ _) _ _) rfl⟩, ⟨hb_ HB⟩⟩
         ·replace c13 := Bool.eq_false_iff.mpr c13
          subst c13
          have H1 : (Xk.j1 k1 l0 x3_1 true ((Xc l0 x3_1).f0) ((Xc l0 x3_1).f1) ((Xc l0 x3_1).f2) ((Xc l0 x3_1).f3) ((Xc l0 x3_1).f4)) = some r := by rw [if_neg (show ¬ (false = true) by decide)] at H; exact H
          clear H
          have H := H1
          clear H1
          have H' := Xa.mk H
          clear H
          obtain ⟨hcz18_0, hcz18_1, hcz18_2, hcz18_3, hcz18_4⟩ := bc5 BK360.out
          obtain ⟨hfz18_0, hfz18_1, hfz18_2, hfz18_3, hfz18_4⟩ := bf5 BK360.out
          go_wp2_with (first | (go_at_call 19; (with_reducible refine (Xj.calls ((Xc l0 x3_1).f0) 0 1000 true _ A8.out).mono ?_); rintro e w' ⟨rfl, ⟨nd, rfl⟩⟩; (try first | exact ⟨rfl, _, World.drewN_drewN _ _ _⟩ | exact ⟨rfl, _, Eq.trans (World.drewN_drewN _ _ _) (congrArg (World.drewN _) (Nat.add_assoc _ _ _))⟩)) | (go_at_call 19; (with_reducible refine (Xj.calls ((Xc l0 x3_1).f3) 0 1000 true _ A10.out).mono ?_); rintro e w' ⟨rfl, ⟨nd, rfl⟩⟩; (try first | exact ⟨rfl, _, World.drewN_drewN _ _ _⟩ | exact ⟨rfl, _, Eq.trans (World.drewN_drewN _ _ _) (congrArg (World.drewN _) (Nat.add_assoc _ _ _))⟩)) | (go_at_call 19; (with_reducible refine (Xj.calls ((Xc l0 x3_1).f4) 0 1000 false _ A12.out).mono ?_); rintro e w' ⟨rfl, ⟨nd, rfl⟩⟩; (try first | exact ⟨rfl, _, World.drewN_drewN _ _ _⟩ | exact ⟨rfl, _, Eq.trans (World.drewN_drewN _ _ _) (congrArg (World.drewN _) (Nat.add_assoc _ _ _))⟩)))
          repeat (go_quiet (first | (go_at_call 19; (with_reducible refine (Xj.calls ((Xc l0 x3_1).f0) 0 1000 true _ A8.out).mono ?_); rintro e w' ⟨rfl, ⟨nd, rfl⟩⟩; (try first | exact ⟨rfl, _, World.drewN_drewN _ _ _⟩ | exact ⟨rfl, _, Eq.trans (World.drewN_drewN _ _ _) (congrArg (World.drewN _) (Nat.add_assoc _ _ _))⟩)) | (go_at_call 19; (with_reducible refine (Xj.calls ((Xc l0 x3_1).f3) 0 1000 true _ A10.out).mono ?_); rintro e w' ⟨rfl, ⟨nd, rfl⟩⟩; (try first | exact ⟨rfl, _, World.drewN_drewN _ _ _⟩ | exact ⟨rfl, _, Eq.trans (World.drewN_drewN _ _ _) (congrArg (World.drewN _) (Nat.add_assoc _ _ _))⟩)) | (go_at_call 19; (with_reducible refine (Xj.calls ((Xc l0 x3_1).f4) 0 1000 false _ A12.out).mono ?_); rintro e w' ⟨rfl, ⟨nd, rfl⟩⟩; (try first | exact ⟨rfl, _, World.drewN_drewN _ _ _⟩ | exact ⟨rfl, _, Eq.trans (World.drewN_drewN _ _ _) (congrArg (World.drewN _) (Nat.add_assoc _ _ _))⟩))); try go_wp2_with (first | (go_at_call 19; (with_reducible refine (Xj.calls ((Xc l0 x3_1).f0) 0 1000 true _ A8.out).mono ?_); rintro e w' ⟨rfl, ⟨nd, rfl⟩⟩; (try first | exact ⟨rfl, _, World.drewN_drewN _ _ _⟩ | exact ⟨rfl, _, Eq.trans (World.drewN_drewN _ _ _) (congrArg (World.drewN _) (Nat.add_assoc _ _ _))⟩)) | (go_at_call 19; (with_reducible refine (Xj.calls ((Xc l0 x3_1).f3) 0 1000 true _ A10.out).mono ?_); rintro e w' ⟨rfl, ⟨nd, rfl⟩⟩; (try first | exact ⟨rfl, _, World.drewN_drewN _ _ _⟩ | exact ⟨rfl, _, Eq.trans (World.drewN_drewN _ _ _) (congrArg (World.drewN _) (Nat.add_assoc _ _ _))⟩)) | (go_at_call 19; (with_reducible refine (Xj.calls ((Xc l0 x3_1).f4) 0 1000 false _ A12.out).mono ?_); rintro e w' ⟨rfl, ⟨nd, rfl⟩⟩; (try first | exact ⟨rfl, _, World.drewN_drewN _ _ _⟩ | exact ⟨rfl, _, Eq.trans (World.drewN_drewN _ _ _) (congrArg (World.drewN _) (Nat.add_assoc _ _ _))⟩))))
          go_meet
          case rel => exact ⟨_, (true), fx_, H', ⟨by have := HK1.out; first | omega | exact Nat.le_refl _⟩, ⟨by exact bto (bput (bput (bput (bput (bput (BK360.out) _ _) _ _) _ _) _ _) _ _) rfl⟩, ⟨hb_ HB⟩⟩
        ·replace c11 := Bool.eq_false_iff.mpr c11
         subst c11
         have H1 : (Xk.j1 k1 l0 x3_1 true ((Xc l0 x3_1).f0) ((Xc l0 x3_1).f1) ((Xc l0 x3_1).f2) ((Xc l0 x3_1).f3) ((Xc l0 x3_1).f4)) = some r := by rw [if_neg (show ¬ (false = true) by decide)] at H; exact H
         clear H
         have H := H1
         clear H1
         have H' := Xa.mk H
         clear H
         obtain ⟨hcz19_0, hcz19_1, hcz19_2, hcz19_3, hcz19_4⟩ := bc5 BK360.out
         obtain ⟨hfz19_0, hfz19_1, hfz19_2, hfz19_3, hfz19_4⟩ := bf5 BK360.out
         go_wp2_with (first | (go_at_call 19; (with_reducible refine (Xj.calls ((Xc l0 x3_1).f0) 0 1000 true _ A8.out).mono ?_); rintro e w' ⟨rfl, ⟨nd, rfl⟩⟩; (try first | exact ⟨rfl, _, World.drewN_drewN _ _ _⟩ | exact ⟨rfl, _, Eq.trans (World.drewN_drewN _ _ _) (congrArg (World.drewN _) (Nat.add_assoc _ _ _))⟩)) | (go_at_call 19; (with_reducible refine (Xj.calls ((Xc l0 x3_1).f3) 0 1000 false _ A10.out).mono ?_); rintro e w' ⟨rfl, ⟨nd, rfl⟩⟩; (try first | exact ⟨rfl, _, World.drewN_drewN _ _ _⟩ | exact ⟨rfl, _, Eq.trans (World.drewN_drewN _ _ _) (congrArg (World.drewN _) (Nat.add_assoc _ _ _))⟩)))
         repeat (go_quiet (first | (go_at_call 19; (with_reducible refine (Xj.calls ((Xc l0 x3_1).f0) 0 1000 true _ A8.out).mono ?_); rintro e w' ⟨rfl, ⟨nd, rfl⟩⟩; (try first | exact ⟨rfl, _, World.drewN_drewN _ _ _⟩ | exact ⟨rfl, _, Eq.trans (World.drewN_drewN _ _ _) (congrArg (World.drewN _) (Nat.add_assoc _ _ _))⟩)) | (go_at_call 19; (with_reducible refine (Xj.calls ((Xc l0 x3_1).f3) 0 1000 false _ A10.out).mono ?_); rintro e w' ⟨rfl, ⟨nd, rfl⟩⟩; (try first | exact ⟨rfl, _, World.drewN_drewN _ _ _⟩ | exact ⟨rfl, _, Eq.trans (World.drewN_drewN _ _ _) (congrArg (World.drewN _) (Nat.add_assoc _ _ _))⟩))); try go_wp2_with (first | (go_at_call 19; (with_reducible refine (Xj.calls ((Xc l0 x3_1).f0) 0 1000 true _ A8.out).mono ?_); rintro e w' ⟨rfl, ⟨nd, rfl⟩⟩; (try first | exact ⟨rfl, _, World.drewN_drewN _ _ _⟩ | exact ⟨rfl, _, Eq.trans (World.drewN_drewN _ _ _) (congrArg (World.drewN _) (Nat.add_assoc _ _ _))⟩)) | (go_at_call 19; (with_reducible refine (Xj.calls ((Xc l0 x3_1).f3) 0 1000 false _ A10.out).mono ?_); rintro e w' ⟨rfl, ⟨nd, rfl⟩⟩; (try first | exact ⟨rfl, _, World.drewN_drewN _ _ _⟩ | exact ⟨rfl, _, Eq.trans (World.drewN_drewN _ _ _) (congrArg (World.drewN _) (Nat.add_assoc _ _ _))⟩))))
         go_meet
         case rel => exact ⟨_, (true), fx_, H', ⟨by have := HK1.out; first | omega | exact Nat.le_refl _⟩, ⟨by exact bto (bput (bput (bput (bput (bput (BK360.out) _ _) _ _) _ _) _ _) _ _) rfl⟩, ⟨hb_ HB⟩⟩
       ·replace c9 := Bool.eq_false_iff.mpr c9
        subst c9
        have H1 : (Xk.j1 k1 l0 x3_1 true ((Xc l0 x3_1).f0) ((Xc l0 x3_1).f1) ((Xc l0 x3_1).f2) ((Xc l0 x3_1).f3) ((Xc l0 x3_1).f4)) = some r := by rw [if_neg (show ¬ (false = true) by decide)] at H; exact H
        clear H
        have H := H1
        clear H1
        have H' := Xa.mk H
        clear H
        obtain ⟨hcz20_0, hcz20_1, hcz20_2, hcz20_3, hcz20_4⟩ := bc5 BK360.out
        obtain ⟨hfz20_0, hfz20_1, hfz20_2, hfz20_3, hfz20_4⟩ := bf5 BK360.out
        go_wp2_with (first | (go_at_call 19; (with_reducible refine (Xj.calls ((Xc l0 x3_1).f0) 0 1000 false _ A8.out).mono ?_); rintro e w' ⟨rfl, ⟨nd, rfl⟩⟩; (try first | exact ⟨rfl, _, World.drewN_drewN _ _ _⟩ | exact ⟨rfl, _, Eq.trans (World.drewN_drewN _ _ _) (congrArg (World.drewN _) (Nat.add_assoc _ _ _))⟩)))
        repeat (go_quiet (first | (go_at_call 19; (with_reducible refine (Xj.calls ((Xc l0 x3_1).f0) 0 1000 false _ A8.out).mono ?_); rintro e w' ⟨rfl, ⟨nd, rfl⟩⟩; (try first | exact ⟨rfl, _, World.drewN_drewN _ _ _⟩ | exact ⟨rfl, _, Eq.trans (World.drewN_drewN _ _ _) (congrArg (World.drewN _) (Nat.add_assoc _ _ _))⟩))); try go_wp2_with (first | (go_at_call 19; (with_reducible refine (Xj.calls ((Xc l0 x3_1).f0) 0 1000 false _ A8.out).mono ?_); rintro e w' ⟨rfl, ⟨nd, rfl⟩⟩; (try first | exact ⟨rfl, _, World.drewN_drewN _ _ _⟩ | exact ⟨rfl, _, Eq.trans (World.drewN_drewN _ _ _) (congrArg (World.drewN _) (Nat.add_assoc _ _ _))⟩))))
        go_meet
        case rel => exact ⟨_, (true), fx_, H', ⟨by have := HK1.out; first | omega | exact Nat.le_refl _⟩, ⟨by exact bto (bput (bput (bput (bput (bput (BK360.out) _ _) _ _) _ _) _ _) _ _) rfl⟩, ⟨hb_ HB⟩⟩
      case rest =>
       clear HC5
       clear c3b0 c4b0 hcz7_0 hcz7_1 hcz7_2 hcz7_3 hcz7_4 hfz7_0 hfz7_1 hfz7_2 hfz7_3 hfz7_4 hx359_0 hx359_1 hx359_2 hx359_3 hx359_4 p359 q359
       obtain ⟨kq, x47_4, rfl, HA, HJ4, BK360, HB⟩ := hcut
       cases kq with
       | zero => exact absurd HA.out (by simp [Xk.j1])
       | succ kj4 =>
        have H := HA.out
        clear HA
        simp only [Xk.j1] at H
        by_cases c21 : x47_4 = true
        ·subst c21
         have H1 : (some 2) = some r := by rw [if_pos rfl] at H; exact H
         clear H
         have H := H1
         clear H1
         obtain rfl := Option.some.inj H
         go_wp2
         repeat (go_quiet (fail); try go_wp2)
         go_ret
         exact ⟨by first | rfl | (simp [errW_none, errW_some] <;> rfl) | (simp [*, errW_none, errW_some] <;> rfl), by repeat (first | (with_reducible first | exact HB.out | apply Xs | apply Xo | apply Xl | refine XC ?_ (Xa.out (by assumption))) | exact HB.out)⟩
        ·replace c21 := Bool.eq_false_iff.mpr c21
         subst c21
         have H1 : (Xk.l1 kj4 l0 x3_1 0 ((Xc l0 x3_1).f0) ((Xc l0 x3_1).f1) ((Xc l0 x3_1).f2) ((Xc l0 x3_1).f3) ((Xc l0 x3_1).f4)) = some r := by rw [if_neg (show ¬ (false = true) by decide)] at H; exact H
         clear H
         have H := H1
         clear H1
         have H' := Xa.mk H
         clear H
         go_wp2
         repeat (go_quiet (fail); try go_wp2)
         go_loopg [5] kj4 (fun kq v5 w' => ∃ (x5_3 : Int), v5 = .int .i64 x5_3 ∧ Xa (Xk.l1 kq l0 x3_1 x5_3 ((Xc l0 x3_1).f0) ((Xc l0 x3_1).f1) ((Xc l0 x3_1).f2) ((Xc l0 x3_1).f3) ((Xc l0 x3_1).f4) = some r) ∧ Xa (kq ≤ kj4) ∧ Xa (w'.heap[gb360]? = some (.cells #[.int .i64 ((Xc l0 x3_1).f0), .int .i64 ((Xc l0 x3_1).f1), .int .i64 ((Xc l0 x3_1).f2), .int .i64 ((Xc l0 x3_1).f3), .int .i64 ((Xc l0 x3_1).f4)] 144 (0, 0))) ∧ Xa (Below w.heap.size w w'))
         case atStart => exact ⟨(0), fx_, H', ⟨Nat.le_refl _⟩, BK360, ⟨hb_ HB⟩⟩
         case round =>
          clear H'
          obtain ⟨x5_3, rfl, HA, HK3, BK360, HB⟩ := hrel
          cases gk with
          | zero => exact absurd HA.out (by simp [Xk.l1])
          | succ k3 =>
           have H := HA.out
           clear HA
           simp only [Xk.l1] at H
           by_cases c22 : x5_3 < x3_1
           ·rw [if_pos c22] at H
            have c22b0 : decide (x5_3 < x3_1) = true := decide_eq_true c22
            clear c22
            by_cases c23 : 0 ≤ x5_3
            ·rw [if_pos c23] at H
             have c23b0 : decide (0 ≤ x5_3) = true := decide_eq_true c23
             clear c23
             by_cases c24 : x5_3 < (l0.length : Int)
             ·rw [if_pos c24] at H
              have c24b0 : decide (x5_3 < (l0.length : Int)) = true := decide_eq_true c24
              clear c24
              by_cases c25 : ((Xc l0 x5_3).f0) = ((Xc l0 x3_1).f0)
              ·rw [if_pos c25] at H
               have c25b0 : (((Xc l0 x5_3).f0) == ((Xc l0 x3_1).f0)) = true := beq_iff_eq.mpr c25
               have c25b1 : (((Xc l0 x5_3).f0) != ((Xc l0 x3_1).f0)) = false := bne_eq_false_iff_eq.mpr c25
               clear c25
               by_cases c26 : ((Xc l0 x5_3).f1) ≤ ((Xc l0 x3_1).f2)
               ·rw [if_pos c26] at H
                have c26b0 : decide (((Xc l0 x5_3).f1) ≤ ((Xc l0 x3_1).f2)) = true := decide_eq_true c26
                clear c26
                by_cases c27 : ((Xc l0 x3_1).f1) ≤ ((Xc l0 x5_3).f2)
                ·rw [if_pos c27] at H
                 have c27b0 : decide (((Xc l0 x3_1).f1) ≤ ((Xc l0 x5_3).f2)) = true := decide_eq_true c27
                 clear c27
                 obtain rfl := Option.some.inj H
                 have p365 : 0 ≤ (x5_3 : Int) := of_decide_eq_true ‹_›
                 have q365 : x5_3 < (l0.length : Int) := of_decide_eq_true ‹_›
                 obtain ⟨ad365, e365, hx365_0, hx365_1, hx365_2, hx365_3, hx365_4⟩ := Yb HR0.out x5_3 p365 q365
                 obtain rfl : ad359 = ad365 := (by injection e365)
                 replace hx365_0 := bl_ HB hx365_0
                 replace hx365_1 := bl_ HB hx365_1
                 replace hx365_2 := bl_ HB hx365_2
                 replace hx365_3 := bl_ HB hx365_3
                 replace hx365_4 := bl_ HB hx365_4
                 replace p365 := eq_true p365
                 replace q365 := eq_true q365
                 obtain ⟨hcz28_0, hcz28_1, hcz28_2, hcz28_3, hcz28_4⟩ := bc5 BK360.out
                 obtain ⟨hfz28_0, hfz28_1, hfz28_2, hfz28_3, hfz28_4⟩ := bf5 BK360.out
                 have p366 : 0 ≤ (x5_3 : Int) := of_decide_eq_true ‹_›
                 have q366 : x5_3 < (l0.length : Int) := of_decide_eq_true ‹_›
                 obtain ⟨ad366, e366, hx366_0, hx366_1, hx366_2, hx366_3, hx366_4⟩ := Yb HR0.out x5_3 p366 q366
                 obtain rfl : ad359 = ad366 := (by injection e366)
                 replace hx366_0 := bl_ HB hx366_0
                 replace hx366_1 := bl_ HB hx366_1
                 replace hx366_2 := bl_ HB hx366_2
                 replace hx366_3 := bl_ HB hx366_3
                 replace hx366_4 := bl_ HB hx366_4
                 replace p366 := eq_true p366
                 replace q366 := eq_true q366
                 have p367 : 0 ≤ (x5_3 : Int) := of_decide_eq_true ‹_›
                 have q367 : x5_3 < (l0.length : Int) := of_decide_eq_true ‹_›
                 obtain ⟨ad367, e367, hx367_0, hx367_1, hx367_2, hx367_3, hx367_4⟩ := Yb HR0.out x5_3 p367 q367
                 obtain rfl : ad359 = ad367 := (by injection e367)
                 replace hx367_0 := bl_ HB hx367_0
                 replace hx367_1 := bl_ HB hx367_1
                 replace hx367_2 := bl_ HB hx367_2
                 replace hx367_3 := bl_ HB hx367_3
                 replace hx367_4 := bl_ HB hx367_4
                 replace p367 := eq_true p367
                 replace q367 := eq_true q367
                 go_wp2
                 repeat (go_quiet (fail); try go_wp2)
                 go_ret
                 exact ⟨by first | rfl | (simp [errW_none, errW_some] <;> rfl) | (simp [*, errW_none, errW_some] <;> rfl), by repeat (first | (with_reducible first | exact HB.out | apply Xs | apply Xo | apply Xl | refine XC ?_ (Xa.out (by assumption))) | exact HB.out)⟩
                ·rw [if_neg c27] at H
                 have c27b0 : decide (((Xc l0 x3_1).f1) ≤ ((Xc l0 x5_3).f2)) = false := decide_eq_false c27
                 clear c27
                 have H' := Xa.mk H
                 clear H
                 have p365 : 0 ≤ (x5_3 : Int) := of_decide_eq_true ‹_›
                 have q365 : x5_3 < (l0.length : Int) := of_decide_eq_true ‹_›
                 obtain ⟨ad365, e365, hx365_0, hx365_1, hx365_2, hx365_3, hx365_4⟩ := Yb HR0.out x5_3 p365 q365
                 obtain rfl : ad359 = ad365 := (by injection e365)
                 replace hx365_0 := bl_ HB hx365_0
                 replace hx365_1 := bl_ HB hx365_1
                 replace hx365_2 := bl_ HB hx365_2
                 replace hx365_3 := bl_ HB hx365_3
                 replace hx365_4 := bl_ HB hx365_4
                 replace p365 := eq_true p365
                 replace q365 := eq_true q365
                 obtain ⟨hcz29_0, hcz29_1, hcz29_2, hcz29_3, hcz29_4⟩ := bc5 BK360.out
                 obtain ⟨hfz29_0, hfz29_1, hfz29_2, hfz29_3, hfz29_4⟩ := bf5 BK360.out
                 have p366 : 0 ≤ (x5_3 : Int) := of_decide_eq_true ‹_›
                 have q366 : x5_3 < (l0.length : Int) := of_decide_eq_true ‹_›
                 obtain ⟨ad366, e366, hx366_0, hx366_1, hx366_2, hx366_3, hx366_4⟩ := Yb HR0.out x5_3 p366 q366
                 obtain rfl : ad359 = ad366 := (by injection e366)
                 replace hx366_0 := bl_ HB hx366_0
                 replace hx366_1 := bl_ HB hx366_1
                 replace hx366_2 := bl_ HB hx366_2
                 replace hx366_3 := bl_ HB hx366_3
                 replace hx366_4 := bl_ HB hx366_4
                 replace p366 := eq_true p366
                 replace q366 := eq_true q366
                 have p367 : 0 ≤ (x5_3 : Int) := of_decide_eq_true ‹_›
                 have q367 : x5_3 < (l0.length : Int) := of_decide_eq_true ‹_›
                 obtain ⟨ad367, e367, hx367_0, hx367_1, hx367_2, hx367_3, hx367_4⟩ := Yb HR0.out x5_3 p367 q367
                 obtain rfl : ad359 = ad367 := (by injection e367)
                 replace hx367_0 := bl_ HB hx367_0
                 replace hx367_1 := bl_ HB hx367_1
                 replace hx367_2 := bl_ HB hx367_2
                 replace hx367_3 := bl_ HB hx367_3
                 replace hx367_4 := bl_ HB hx367_4
                 replace p367 := eq_true p367
                 replace q367 := eq_true q367
                 go_wp2
                 repeat (go_quiet (fail); try go_wp2)
                 go_roundg k3
                 case measure => have := HK1.out; have := HJ4.out; have := HK3.out; omega
                 case rel => exact ⟨(wrap64 (x5_3 + 1)), fx_, H', ⟨by have := HK1.out; have := HJ4.out; have := HK3.out; omega⟩, BK360, ⟨hb_ HB⟩⟩
               ·rw [if_neg c26] at H
                have c26b0 : decide (((Xc l0 x5_3).f1) ≤ ((Xc l0 x3_1).f2)) = false := decide_eq_false c26
                clear c26
                have H' := Xa.mk H
                clear H
                have p365 : 0 ≤ (x5_3 : Int) := of_decide_eq_true ‹_›
                have q365 : x5_3 < (l0.length : Int) := of_decide_eq_true ‹_›
                obtain ⟨ad365, e365, hx365_0, hx365_1, hx365_2, hx365_3, hx365_4⟩ := Yb HR0.out x5_3 p365 q365
                obtain rfl : ad359 = ad365 := (by injection e365)
                replace hx365_0 := bl_ HB hx365_0
                replace hx365_1 := bl_ HB hx365_1
                replace hx365_2 := bl_ HB hx365_2
                replace hx365_3 := bl_ HB hx365_3
                replace hx365_4 := bl_ HB hx365_4
                replace p365 := eq_true p365
                replace q365 := eq_true q365
                obtain ⟨hcz30_0, hcz30_1, hcz30_2, hcz30_3, hcz30_4⟩ := bc5 BK360.out
                obtain ⟨hfz30_0, hfz30_1, hfz30_2, hfz30_3, hfz30_4⟩ := bf5 BK360.out
                have p366 : 0 ≤ (x5_3 : Int) := of_decide_eq_true ‹_›
                have q366 : x5_3 < (l0.length : Int) := of_decide_eq_true ‹_›
                obtain ⟨ad366, e366, hx366_0, hx366_1, hx366_2, hx366_3, hx366_4⟩ := Yb HR0.out x5_3 p366 q366
                obtain rfl : ad359 = ad366 := (by injection e366)
                replace hx366_0 := bl_ HB hx366_0
                replace hx366_1 := bl_ HB hx366_1
                replace hx366_2 := bl_ HB hx366_2
                replace hx366_3 := bl_ HB hx366_3
                replace hx366_4 := bl_ HB hx366_4
                replace p366 := eq_true p366
                replace q366 := eq_true q366
                go_wp2
                repeat (go_quiet (fail); try go_wp2)
                go_roundg k3
                case measure => have := HK1.out; have := HJ4.out; have := HK3.out; omega
                case rel => exact ⟨(wrap64 (x5_3 + 1)), fx_, H', ⟨by have := HK1.out; have := HJ4.out; have := HK3.out; omega⟩, BK360, ⟨hb_ HB⟩⟩
              ·rw [if_neg c25] at H
               have c25b0 : (((Xc l0 x5_3).f0) == ((Xc l0 x3_1).f0)) = false := beq_eq_false_iff_ne.mpr c25
               have c25b1 : (((Xc l0 x5_3).f0) != ((Xc l0 x3_1).f0)) = true := bne_iff_ne.mpr c25
               have H' := Xa.mk H
               clear H
               have p365 : 0 ≤ (x5_3 : Int) := of_decide_eq_true ‹_›
               have q365 : x5_3 < (l0.length : Int) := of_decide_eq_true ‹_›
               obtain ⟨ad365, e365, hx365_0, hx365_1, hx365_2, hx365_3, hx365_4⟩ := Yb HR0.out x5_3 p365 q365
               obtain rfl : ad359 = ad365 := (by injection e365)
               replace hx365_0 := bl_ HB hx365_0
               replace hx365_1 := bl_ HB hx365_1
               replace hx365_2 := bl_ HB hx365_2
               replace hx365_3 := bl_ HB hx365_3
               replace hx365_4 := bl_ HB hx365_4
               replace p365 := eq_true p365
               replace q365 := eq_true q365
               obtain ⟨hcz31_0, hcz31_1, hcz31_2, hcz31_3, hcz31_4⟩ := bc5 BK360.out
               obtain ⟨hfz31_0, hfz31_1, hfz31_2, hfz31_3, hfz31_4⟩ := bf5 BK360.out
               go_wp2
               repeat (go_quiet (fail); try go_wp2)
               go_roundg k3
               case measure => have := HK1.out; have := HJ4.out; have := HK3.out; omega
               case rel => exact ⟨(wrap64 (x5_3 + 1)), fx_, H', ⟨by have := HK1.out; have := HJ4.out; have := HK3.out; omega⟩, BK360, ⟨hb_ HB⟩⟩
             ·rw [if_neg c24] at H
              exact absurd H (by simp)
            ·rw [if_neg c23] at H
             exact absurd H (by simp)
           ·rw [if_neg c22] at H
            have c22b0 : decide (x5_3 < x3_1) = false := decide_eq_false c22
            clear c22
            have H' := Xa.mk H
            clear H
            go_wp2
            repeat (go_quiet (fail); try go_wp2)
            go_roundg k3
            case measure => have := HK1.out; have := HJ4.out; have := HK3.out; omega
            case rel => exact ⟨(wrap64 (x3_1 + 1)), fx_, H', ⟨by have := HK1.out; have := HJ4.out; have := HK3.out; omega⟩, ⟨hb_ HB⟩⟩
     ·rw [if_neg c4] at H
      exact absurd H (by simp)
    ·rw [if_neg c3] at H
     have c3b0 : decide (x3_1 < (l0.length : Int)) = false := decide_eq_false c3
     clear c3
     obtain rfl := Option.some.inj H
     go_wp2
     repeat (go_quiet (fail); try go_wp2)
     go_ret
     exact ⟨by first | rfl | (simp [errW_none, errW_some] <;> rfl) | (simp [*, errW_none, errW_some] <;> rfl), by repeat (first | (with_reducible first | exact HB.out | apply Xs | apply Xo | apply Xl) | exact HB.out)⟩

end Go.Proofs.Ytiaiecfnpompcaa.T
namespace Go.Proofs.Ytiaiecfnpompcaa.T
open Go.RowKit Go.Proofs.YtiaiecfnpompcaaW.PrintWords Go.Proofs.YtiaiecfnpompcaaW.PrintLast Go.Proofs.YtiaiecfnpompcaaW.PrintMore
attribute [local go_sem] XX XW X6 X5 XQ XP X0 XZ
set_option linter.unusedVariables false
set_option linter.unusedSimpArgs false
attribute [local go_sem] XO

theorem Xiv (d : Nat) (w : World) (x0 y0 : Int) (x1 y1 : Int) (x2 y2 : Int) (x3 y3 : Int) (x4 y4 : Int) :
  (Op.equalIn (d + 2) 144 (.agg #[.int .i64 x0, .int .i64 x1, .int .i64 x2, .int .i64 x3, .int .i64 x4]) (.agg #[.int .i64 y0, .int .i64 y1, .int .i64 y2, .int .i64 y3, .int .i64 y4])).run Try.prog w = .ok (x0 == y0 && (x1 == y1 && (x2 == y2 && (x3 == y3 && (x4 == y4))))) w := by
 refine Xfu Try.underlying144 (by kernel_rfl) ?_
 refine Ju (by rfl) (by go_simp; rfl) (by go_simp; rfl) (by go_simp) ?_
 refine Ju (by rfl) (by go_simp; rfl) (by go_simp; rfl) (by go_simp) ?_
 refine Ju (by rfl) (by go_simp; rfl) (by go_simp; rfl) (by go_simp) ?_
 refine Ju (by rfl) (by go_simp; rfl) (by go_simp; rfl) (by go_simp) ?_
 exact XcW (by rfl) (by go_simp; rfl) (by go_simp; rfl) (by go_simp)
end Go.Proofs.Ytiaiecfnpompcaa.T
namespace Go.Proofs.Ytiaiecfnpompcaa.T
open Go.RowKit Go.Proofs.YtiaiecfnpompcaaW.PrintWords Go.Proofs.YtiaiecfnpompcaaW.PrintLast Go.Proofs.YtiaiecfnpompcaaW.PrintMore
attribute [local go_sem] XX XW X6 X5 XQ XP X0 XZ
set_option linter.unusedVariables false
set_option linter.unusedSimpArgs false
attribute [local go_sem] XO

attribute [local go_sem high] Xiv
def XN.l0 : Nat → List (S144) → List (S144) → Int → Option (Bool)
 | 0, _, _, _ => none
 | k + 1, x0, x1, x5 => if x5 < (x0.length : Int) then (if 0 ≤ x5 then (if x5 < (x1.length : Int) then (if (!(((Xc x0 x5).f0) == ((Xc x1 x5).f0)) || (!(((Xc x0 x5).f1) == ((Xc x1 x5).f1)) || (!(((Xc x0 x5).f2) == ((Xc x1 x5).f2)) || (!(((Xc x0 x5).f3) == ((Xc x1 x5).f3)) || (!(((Xc x0 x5).f4) == ((Xc x1 x5).f4))))))) = true then (some false) else (XN.l0 k x0 x1 (wrap64 (x5 + 1)))) else (none)) else (none)) else (some true)
def XN.f (k : Nat) (l0 : List (S144)) (l1 : List (S144)) : Option (Bool) := if (l0.length : Int) = (l1.length : Int) then (XN.l0 k l0 l1 0) else (some false)
set_option maxHeartbeats 8000000 in
set_option maxRecDepth 100000 in
theorem XN.calls (k : Nat) (A0 : Option Addr) (c0 : Nat) (l0 : List (S144)) (A1 : Option Addr) (c1 : Nat) (l1 : List (S144)) (r : Bool) (w : World) (hr0 : Kd.C k144 w A0 l0.length l0) (hc0 : l0.length ≤ c0) (hr1 : Kd.C k144 w A1 l1.length l1) (hc1 : l1.length ≤ c1) (h : XN.f k l0 l1 = some r) :
  Calls Try.prog 35 #[.slice A0 l0.length c0, .slice A1 l1.length c1] w fun e w' => e = .returned (.bool r) ∧ Xq w w' := by
 have hu144 := Try.underlying144
 have HR0 := Xa.mk hr0
 have HC0 := Xa.mk hc0
 clear hr0 hc0
 have HR1 := Xa.mk hr1
 have HC1 := Xa.mk hc1
 clear hr1 hc1
 have H : (if (l0.length : Int) = (l1.length : Int) then (XN.l0 k l0 l1 0) else (some false)) = some r := h
 clear h
 by_cases c3 : (l0.length : Int) = (l1.length : Int)
 ·rw [if_pos c3] at H
  have c3b0 : ((l0.length : Int) == (l1.length : Int)) = true := beq_iff_eq.mpr c3
  have c3b1 : ((l0.length : Int) != (l1.length : Int)) = false := bne_eq_false_iff_eq.mpr c3
  have c3b2 : (l0.length == l1.length) = true := by first | simpa using c3 | (simp at c3 ⊢; omega)
  clear c3
  have H' := Xa.mk H
  clear H
  go_enter Try.func35, Try.ntmps35
  go_wp2
  repeat (go_quiet (fail); try go_wp2)
  go_loopg [5] k (fun kq v5 w' => ∃ (x5_1 : Int), v5 = .int .i64 x5_1 ∧ Xa (XN.l0 kq l0 l1 x5_1 = some r) ∧ Xa (kq ≤ k) ∧ Xq w w')
  case atStart => exact ⟨(0), fx_, H', ⟨Nat.le_refl _⟩, by repeat (first | exact Xq.refl _ | apply Xq.step)⟩
  case round =>
   clear H'
   try clear c1; try clear p2; try clear c3; try clear c3b0; try clear c3b1; try clear c3b2
   obtain ⟨x5_1, rfl, HA, HK1, ⟨m1, rfl⟩⟩ := hrel
   cases gk with
   | zero => exact absurd HA.out (by simp [XN.l0])
   | succ k1 =>
    have H := HA.out
    clear HA
    simp only [XN.l0] at H
    by_cases c4 : x5_1 < (l0.length : Int)
    ·rw [if_pos c4] at H
     have c4b0 : decide (x5_1 < (l0.length : Int)) = true := decide_eq_true c4
     clear c4
     by_cases c5 : 0 ≤ x5_1
     ·rw [if_pos c5] at H
      have c5b0 : decide (0 ≤ x5_1) = true := decide_eq_true c5
      clear c5
      by_cases c6 : x5_1 < (l1.length : Int)
      ·rw [if_pos c6] at H
       have c6b0 : decide (x5_1 < (l1.length : Int)) = true := decide_eq_true c6
       clear c6
       by_cases c7 : (!(((Xc l0 x5_1).f0) == ((Xc l1 x5_1).f0)) || (!(((Xc l0 x5_1).f1) == ((Xc l1 x5_1).f1)) || (!(((Xc l0 x5_1).f2) == ((Xc l1 x5_1).f2)) || (!(((Xc l0 x5_1).f3) == ((Xc l1 x5_1).f3)) || (!(((Xc l0 x5_1).f4) == ((Xc l1 x5_1).f4))))))) = true
       ·rw [if_pos c7] at H
        have c7b0 : (!(((Xc l0 x5_1).f0) == ((Xc l1 x5_1).f0)) || (!(((Xc l0 x5_1).f1) == ((Xc l1 x5_1).f1)) || (!(((Xc l0 x5_1).f2) == ((Xc l1 x5_1).f2)) || (!(((Xc l0 x5_1).f3) == ((Xc l1 x5_1).f3)) || (!(((Xc l0 x5_1).f4) == ((Xc l1 x5_1).f4))))))) = true := c7
        clear c7
        obtain rfl := Option.some.inj H
        have p368 : 0 ≤ (x5_1 : Int) := of_decide_eq_true ‹_›
        have q368 : x5_1 < (l0.length : Int) := of_decide_eq_true ‹_›
        obtain ⟨ad368, e368, hx368_0, hx368_1, hx368_2, hx368_3, hx368_4⟩ := Yb HR0.out x5_1 p368 q368
        cases e368
        replace p368 := eq_true p368
        replace q368 := eq_true q368
        have p369 : 0 ≤ (x5_1 : Int) := of_decide_eq_true ‹_›
        have q369 : x5_1 < (l1.length : Int) := of_decide_eq_true ‹_›
        obtain ⟨ad369, e369, hx369_0, hx369_1, hx369_2, hx369_3, hx369_4⟩ := Yb HR1.out x5_1 p369 q369
        cases e369
        replace p369 := eq_true p369
        replace q369 := eq_true q369
        go_wp2
        repeat (go_quiet (fail); try go_wp2)
        go_ret
        exact ⟨by first | rfl | (simp; done) | (simp [*]; done), by repeat (first | exact Xq.refl _ | apply Xq.step)⟩
       ·rw [if_neg c7] at H
        have c7b0 : (!(((Xc l0 x5_1).f0) == ((Xc l1 x5_1).f0)) || (!(((Xc l0 x5_1).f1) == ((Xc l1 x5_1).f1)) || (!(((Xc l0 x5_1).f2) == ((Xc l1 x5_1).f2)) || (!(((Xc l0 x5_1).f3) == ((Xc l1 x5_1).f3)) || (!(((Xc l0 x5_1).f4) == ((Xc l1 x5_1).f4))))))) = false := by simpa using c7
        clear c7
        have H' := Xa.mk H
        clear H
        have p368 : 0 ≤ (x5_1 : Int) := of_decide_eq_true ‹_›
        have q368 : x5_1 < (l0.length : Int) := of_decide_eq_true ‹_›
        obtain ⟨ad368, e368, hx368_0, hx368_1, hx368_2, hx368_3, hx368_4⟩ := Yb HR0.out x5_1 p368 q368
        cases e368
        replace p368 := eq_true p368
        replace q368 := eq_true q368
        have p369 : 0 ≤ (x5_1 : Int) := of_decide_eq_true ‹_›
        have q369 : x5_1 < (l1.length : Int) := of_decide_eq_true ‹_›
        obtain ⟨ad369, e369, hx369_0, hx369_1, hx369_2, hx369_3, hx369_4⟩ := Yb HR1.out x5_1 p369 q369
        cases e369
        replace p369 := eq_true p369
        replace q369 := eq_true q369
        go_wp2
        repeat (go_quiet (fail); try go_wp2)
        go_roundg k1
        case measure => have := HK1.out; omega
        case rel => exact ⟨(wrap64 (x5_1 + 1)), fx_, H', ⟨by have := HK1.out; omega⟩, by repeat (first | exact Xq.refl _ | apply Xq.step)⟩
      ·rw [if_neg c6] at H
       exact absurd H (by simp)
     ·rw [if_neg c5] at H
      exact absurd H (by simp)
    ·rw [if_neg c4] at H
     have c4b0 : decide (x5_1 < (l0.length : Int)) = false := decide_eq_false c4
     clear c4
     obtain rfl := Option.some.inj H
     go_wp2
     repeat (go_quiet (fail); try go_wp2)
     go_ret
     exact ⟨by first | rfl | (simp; done) | (simp [*]; done), by repeat (first | exact Xq.refl _ | apply Xq.step)⟩
 ·rw [if_neg c3] at H
  have c3b0 : ((l0.length : Int) == (l1.length : Int)) = false := beq_eq_false_iff_ne.mpr c3
  have c3b1 : ((l0.length : Int) != (l1.length : Int)) = true := bne_iff_ne.mpr c3
  have c3b2 : (l0.length == l1.length) = false := by first | simpa using c3 | (simp at c3 ⊢; omega)
  obtain rfl := Option.some.inj H
  go_enter Try.func35, Try.ntmps35
  go_wp2
  repeat (go_quiet (fail); try go_wp2)
  go_ret
  exact ⟨by first | rfl | (simp; done) | (simp [*]; done), by repeat (first | exact Xq.refl _ | apply Xq.step)⟩

end Go.Proofs.Ytiaiecfnpompcaa.T
namespace Go.Proofs.Ytiaiecfnpompcaa.T
open Go.RowKit Go.Proofs.YtiaiecfnpompcaaW.PrintWords Go.Proofs.YtiaiecfnpompcaaW.PrintLast Go.Proofs.YtiaiecfnpompcaaW.PrintMore
attribute [local go_sem] XX XW X6 X5 XQ XP X0 XZ
set_option linter.unusedVariables false
set_option linter.unusedSimpArgs false
attribute [local go_sem] XO

def Xt.l0 : Nat → List (S58) → Int → Option (Bool)
 | 0, _, _ => none
 | k + 1, x0, x3 => if x3 < (x0.length : Int) then (if 0 ≤ x3 then (if ((XJ x0 x3).f1) ≥ 0 then (if ((XJ x0 x3).f2) ≤ 100000 then (if (wrap64 (((XJ x0 x3).f2) - ((XJ x0 x3).f1))) > 60 then (some true) else (Xt.l0 k x0 (wrap64 (x3 + 1)))) else (Xt.l0 k x0 (wrap64 (x3 + 1)))) else (Xt.l0 k x0 (wrap64 (x3 + 1)))) else (none)) else (some false)
def Xt.f (k : Nat) (l0 : List (S58)) : Option (Bool) := Xt.l0 k l0 0
set_option maxHeartbeats 8000000 in
set_option maxRecDepth 100000 in
theorem Xt.calls (k : Nat) (A0 : Option Addr) (c0 : Nat) (l0 : List (S58)) (r : Bool) (w : World) (hr0 : Kd.C k58 w A0 l0.length l0) (hc0 : l0.length ≤ c0) (h : Xt.f k l0 = some r) :
  Calls Try.prog 38 #[.slice A0 l0.length c0] w fun e w' => e = .returned (.bool r) ∧ Xq w w' := by
 have HR0 := Xa.mk hr0
 have HC0 := Xa.mk hc0
 clear hr0 hc0
 have H : (Xt.l0 k l0 0) = some r := h
 clear h
 have H' := Xa.mk H
 clear H
 go_enter Try.func38, Try.ntmps38
 go_wp2
 repeat (go_quiet (fail); try go_wp2)
 go_loopg [3] k (fun kq v3 w' => ∃ (x3_1 : Int), v3 = .int .i64 x3_1 ∧ Xa (Xt.l0 kq l0 x3_1 = some r) ∧ Xa (kq ≤ k) ∧ Xq w w')
 case atStart => exact ⟨(0), fx_, H', ⟨Nat.le_refl _⟩, by repeat (first | exact Xq.refl _ | apply Xq.step)⟩
 case round =>
  clear H'
  obtain ⟨x3_1, rfl, HA, HK1, ⟨m1, rfl⟩⟩ := hrel
  cases gk with
  | zero => exact absurd HA.out (by simp [Xt.l0])
  | succ k1 =>
   have H := HA.out
   clear HA
   simp only [Xt.l0] at H
   by_cases c2 : x3_1 < (l0.length : Int)
   ·rw [if_pos c2] at H
    have c2b0 : decide (x3_1 < (l0.length : Int)) = true := decide_eq_true c2
    clear c2
    by_cases c3 : 0 ≤ x3_1
    ·rw [if_pos c3] at H
     have c3b0 : decide (0 ≤ x3_1) = true := decide_eq_true c3
     clear c3
     by_cases c4 : ((XJ l0 x3_1).f1) ≥ 0
     ·rw [if_pos c4] at H
      have c4b0 : decide (0 ≤ ((XJ l0 x3_1).f1)) = true := decide_eq_true c4
      clear c4
      by_cases c5 : ((XJ l0 x3_1).f2) ≤ 100000
      ·rw [if_pos c5] at H
       have c5b0 : decide (((XJ l0 x3_1).f2) ≤ 100000) = true := decide_eq_true c5
       clear c5
       by_cases c6 : (wrap64 (((XJ l0 x3_1).f2) - ((XJ l0 x3_1).f1))) > 60
       ·rw [if_pos c6] at H
        have c6b0 : decide (60 < (wrap64 (((XJ l0 x3_1).f2) - ((XJ l0 x3_1).f1)))) = true := decide_eq_true c6
        clear c6
        obtain rfl := Option.some.inj H
        have p422 : 0 ≤ (x3_1 : Int) := of_decide_eq_true ‹_›
        have q422 : x3_1 < (l0.length : Int) := of_decide_eq_true ‹_›
        obtain ⟨ad422, e422, hx422_0, hx422_1, hx422_2⟩ := YW HR0.out x3_1 p422 q422
        cases e422
        replace p422 := eq_true p422
        replace q422 := eq_true q422
        have p423 : 0 ≤ (x3_1 : Int) := of_decide_eq_true ‹_›
        have q423 : x3_1 < (l0.length : Int) := of_decide_eq_true ‹_›
        obtain ⟨ad423, e423, hx423_0, hx423_1, hx423_2⟩ := YW HR0.out x3_1 p423 q423
        obtain rfl : ad422 = ad423 := (by injection e423)
        replace p423 := eq_true p423
        replace q423 := eq_true q423
        have p424 : 0 ≤ (x3_1 : Int) := of_decide_eq_true ‹_›
        have q424 : x3_1 < (l0.length : Int) := of_decide_eq_true ‹_›
        obtain ⟨ad424, e424, hx424_0, hx424_1, hx424_2⟩ := YW HR0.out x3_1 p424 q424
        obtain rfl : ad422 = ad424 := (by injection e424)
        replace p424 := eq_true p424
        replace q424 := eq_true q424
        have p425 : 0 ≤ (x3_1 : Int) := of_decide_eq_true ‹_›
        have q425 : x3_1 < (l0.length : Int) := of_decide_eq_true ‹_›
        obtain ⟨ad425, e425, hx425_0, hx425_1, hx425_2⟩ := YW HR0.out x3_1 p425 q425
        obtain rfl : ad422 = ad425 := (by injection e425)
        replace p425 := eq_true p425
        replace q425 := eq_true q425
        go_wp2
        repeat (go_quiet (fail); try go_wp2)
        go_ret
        exact ⟨by first | rfl | (simp; done) | (simp [*]; done), by repeat (first | exact Xq.refl _ | apply Xq.step)⟩
       ·rw [if_neg c6] at H
        have c6b0 : decide (60 < (wrap64 (((XJ l0 x3_1).f2) - ((XJ l0 x3_1).f1)))) = false := decide_eq_false c6
        clear c6
        have H' := Xa.mk H
        clear H
        have p422 : 0 ≤ (x3_1 : Int) := of_decide_eq_true ‹_›
        have q422 : x3_1 < (l0.length : Int) := of_decide_eq_true ‹_›
        obtain ⟨ad422, e422, hx422_0, hx422_1, hx422_2⟩ := YW HR0.out x3_1 p422 q422
        cases e422
        replace p422 := eq_true p422
        replace q422 := eq_true q422
        have p423 : 0 ≤ (x3_1 : Int) := of_decide_eq_true ‹_›
        have q423 : x3_1 < (l0.length : Int) := of_decide_eq_true ‹_›
        obtain ⟨ad423, e423, hx423_0, hx423_1, hx423_2⟩ := YW HR0.out x3_1 p423 q423
        obtain rfl : ad422 = ad423 := (by injection e423)
        replace p423 := eq_true p423
        replace q423 := eq_true q423
        have p424 : 0 ≤ (x3_1 : Int) := of_decide_eq_true ‹_›
        have q424 : x3_1 < (l0.length : Int) := of_decide_eq_true ‹_›
        obtain ⟨ad424, e424, hx424_0, hx424_1, hx424_2⟩ := YW HR0.out x3_1 p424 q424
        obtain rfl : ad422 = ad424 := (by injection e424)
        replace p424 := eq_true p424
        replace q424 := eq_true q424
        have p425 : 0 ≤ (x3_1 : Int) := of_decide_eq_true ‹_›
        have q425 : x3_1 < (l0.length : Int) := of_decide_eq_true ‹_›
        obtain ⟨ad425, e425, hx425_0, hx425_1, hx425_2⟩ := YW HR0.out x3_1 p425 q425
        obtain rfl : ad422 = ad425 := (by injection e425)
        replace p425 := eq_true p425
        replace q425 := eq_true q425
        go_wp2
        repeat (go_quiet (fail); try go_wp2)
        go_roundg k1
        case measure => have := HK1.out; omega
        case rel => exact ⟨(wrap64 (x3_1 + 1)), fx_, H', ⟨by have := HK1.out; omega⟩, by repeat (first | exact Xq.refl _ | apply Xq.step)⟩
      ·rw [if_neg c5] at H
       have c5b0 : decide (((XJ l0 x3_1).f2) ≤ 100000) = false := decide_eq_false c5
       clear c5
       have H' := Xa.mk H
       clear H
       have p422 : 0 ≤ (x3_1 : Int) := of_decide_eq_true ‹_›
       have q422 : x3_1 < (l0.length : Int) := of_decide_eq_true ‹_›
       obtain ⟨ad422, e422, hx422_0, hx422_1, hx422_2⟩ := YW HR0.out x3_1 p422 q422
       cases e422
       replace p422 := eq_true p422
       replace q422 := eq_true q422
       have p423 : 0 ≤ (x3_1 : Int) := of_decide_eq_true ‹_›
       have q423 : x3_1 < (l0.length : Int) := of_decide_eq_true ‹_›
       obtain ⟨ad423, e423, hx423_0, hx423_1, hx423_2⟩ := YW HR0.out x3_1 p423 q423
       obtain rfl : ad422 = ad423 := (by injection e423)
       replace p423 := eq_true p423
       replace q423 := eq_true q423
       go_wp2
       repeat (go_quiet (fail); try go_wp2)
       go_roundg k1
       case measure => have := HK1.out; omega
       case rel => exact ⟨(wrap64 (x3_1 + 1)), fx_, H', ⟨by have := HK1.out; omega⟩, by repeat (first | exact Xq.refl _ | apply Xq.step)⟩
     ·rw [if_neg c4] at H
      have c4b0 : decide (0 ≤ ((XJ l0 x3_1).f1)) = false := decide_eq_false c4
      clear c4
      have H' := Xa.mk H
      clear H
      have p422 : 0 ≤ (x3_1 : Int) := of_decide_eq_true ‹_›
      have q422 : x3_1 < (l0.length : Int) := of_decide_eq_true ‹_›
      obtain ⟨ad422, e422, hx422_0, hx422_1, hx422_2⟩ := YW HR0.out x3_1 p422 q422
      cases e422
      replace p422 := eq_true p422
      replace q422 := eq_true q422
      go_wp2
      repeat (go_quiet (fail); try go_wp2)
      go_roundg k1
      case measure => have := HK1.out; omega
      case rel => exact ⟨(wrap64 (x3_1 + 1)), fx_, H', ⟨by have := HK1.out; omega⟩, by repeat (first | exact Xq.refl _ | apply Xq.step)⟩
    ·rw [if_neg c3] at H
     exact absurd H (by simp)
   ·rw [if_neg c2] at H
    have c2b0 : decide (x3_1 < (l0.length : Int)) = false := decide_eq_false c2
    clear c2
    obtain rfl := Option.some.inj H
    go_wp2
    repeat (go_quiet (fail); try go_wp2)
    go_ret
    exact ⟨by first | rfl | (simp; done) | (simp [*]; done), by repeat (first | exact Xq.refl _ | apply Xq.step)⟩

end Go.Proofs.Ytiaiecfnpompcaa.T
namespace Go.Proofs.Ytiaiecfnpompcaa.T
open Go.RowKit Go.Proofs.YtiaiecfnpompcaaW.PrintWords Go.Proofs.YtiaiecfnpompcaaW.PrintLast Go.Proofs.YtiaiecfnpompcaaW.PrintMore
attribute [local go_sem] XX XW X6 X5 XQ XP X0 XZ
set_option linter.unusedVariables false
set_option linter.unusedSimpArgs false
attribute [local go_sem] XO

def Ya.f (l0 : List (S58)) : Option ((List (S58))) := (some (([] : List (S58)) : List (S58))).bind fun y426 => (if y426.length + l0.length < 5864062014805 then (some (y426 ++ l0)) else (none))
set_option maxHeartbeats 8000000 in
set_option maxRecDepth 100000 in
theorem Ya.calls (A0 : Option Addr) (c0 : Nat) (l0 : List (S58)) (r : List (S58)) (w : World) (hr0 : Kd.C k58 w A0 l0.length l0) (hc0 : l0.length ≤ c0) (h : Ya.f l0 = some r) :
  Calls Try.prog 39 #[.slice A0 l0.length c0] w fun e w' => ∃ v0_ : Value, e = .returned (v0_) ∧ Kd.R k58 58 w' w.heap.size (fun _ => True) v0_ r ∧ Below w.heap.size w w' := by
 have HR0 := Xa.mk hr0
 have HC0 := Xa.mk hc0
 clear hr0 hc0
 have HB := Xa.mk (Below.refl w.heap.size w)
 have H : ((some (([] : List (S58)) : List (S58))).bind fun y426 => (if y426.length + l0.length < 5864062014805 then (some (y426 ++ l0)) else (none))) = some r := h
 clear h
 obtain ⟨y426, hy426⟩ : ∃ y_ : List (S58), y_ = (([] : List (S58))) := ⟨_, rfl⟩
 replace H : (if y426.length + l0.length < 5864062014805 then (some (y426 ++ l0)) else (none)) = some r := by first | (rw [hy426]; with_reducible exact H) | (have H2_ := (Option.bind_some _ _).symm.trans H; rw [hy426]; with_reducible exact H2_) | (have H2_ := (Option.bind_some _ _).symm.trans H; with_reducible exact H2_) | with_reducible exact H | (rw [hy426]; exact H) | exact H
 have Ny426 := Xa.mk hy426
 clear hy426
 by_cases c2 : y426.length + l0.length < 5864062014805
 ·rw [if_pos c2] at H
  have LMc2 := Xa.mk c2
  clear c2
  obtain ⟨y429, hy429⟩ : ∃ y_ : List (S58), y_ = (y426 ++ l0) := ⟨_, rfl⟩
  replace H : (some y429) = some r := by first | (rw [hy429]; with_reducible exact H) | (have H2_ := (Option.bind_some _ _).symm.trans H; rw [hy429]; with_reducible exact H2_) | (have H2_ := (Option.bind_some _ _).symm.trans H; with_reducible exact H2_) | with_reducible exact H | (rw [hy429]; exact H) | exact H
  have Ny429 := Xa.mk hy429
  clear hy429
  obtain rfl := Option.some.inj H
  go_enter Try.func39, Try.ntmps39
  go_wp2_with (first | ((with_reducible refine Xz (N := 3) rfl ?_); refine Kd.R_lit k58 _ 58 ?hg (N := 3) ?hd (xs := ([] : List (S58))) (inner := []) (ok := fun _ => True) (okp := fun _ => True) ?hr ?hp (fun _ hk => hk) trivial (Below.refl _ _) (Nat.le_refl _) (by simp) ?_; (case hd => rfl); (case hg => rfl); (case hr => first | (go_simp; done) | (go_simp; rfl)); (case hp => exact (Reps.none _ _)); intro v427 w3 ho4 hb hg_ hnew_; clear hg_ hnew_; (first | rw [← Ny426.out] at ho4 | (simp only [Int.reduceToNat] at ho4; rw [← Ny426.out] at ho4)); have HO428 := Xa.mk (Kd.R_lower ho4 (Xg HB.out)); replace HB := Xa.mk (Xi HB.out hb); clear hb ho4) | ((with_reducible refine YJ (b := .append) (xs := #[.tmp 3, .tmp 4]) rfl ?_); at_builtin; refine Kd.R_append_rows k58 (w0 := w) w.heap.size rfl (.tmp 3) (.tmp 4) 68 58 (.agg #[(.int .i64 0), (.int .i64 0), (.int .i64 0)]) 24 rfl Try.underlying68 Xit rfl (by decide) (by omega) v427 y426 l0 _ _ _ (fun _ => True) (fun _ => False) rfl rfl ?aO ?aR (fun _ _ h => h) (fun _ h => h.elim) ?aF ?aB ?aS ?aL ?_; (case aR => repeat (first | exact (Kd.C_below HR0.out HB.out) | (with_reducible refine Kd.C_alloc ?_ _) | (with_reducible refine Kd.C_drewN ?_ _) | (with_reducible refine Kd.C_drew ?_))); (case aB => exact HB.out); (case aF => exact (fun _ _ => trivial)); (case aO => exact (by (with_reducible repeat (first | apply Kd.R_alloc | apply Kd.R_drewN | apply Kd.R_drew)); exact HO428.out)); (case aS => exact (Xg HB.out)); (case aL => have := LMc2.out; omega); intro v430 w5 ho hb hg hat; rw [← Ny429.out] at ho; replace HB := Xa.mk (hb); have HO431 := Xa.mk (ho); clear HO428; clear ho hb hg hat))
  go_ret
  exact ⟨_, by first | rfl | (simp [errW_none, errW_some] <;> rfl) | (simp [*, errW_none, errW_some] <;> rfl), by (with_reducible repeat (first | apply Kd.R_alloc | apply Kd.R_drewN | apply Kd.R_drew)); exact HO431.out, by repeat (first | (with_reducible first | exact HB.out | apply Xs | apply Xo | apply Xl) | exact HB.out)⟩
 ·rw [if_neg c2] at H
  exact absurd H (by simp)

end Go.Proofs.Ytiaiecfnpompcaa.T
namespace Go.Proofs.Ytiaiecfnpompcaa.T
open Go.RowKit Go.Proofs.YtiaiecfnpompcaaW.PrintWords Go.Proofs.YtiaiecfnpompcaaW.PrintLast Go.Proofs.YtiaiecfnpompcaaW.PrintMore
attribute [local go_sem] XX XW X6 X5 XQ XP X0 XZ
set_option linter.unusedVariables false
set_option linter.unusedSimpArgs false
attribute [local go_sem] XO

theorem Xii (d : Nat) (w : World) (x0 y0 : Int) (x1 y1 : Int) (x2 y2 : Int) :
  (Op.equalIn (d + 2) 79 (.agg #[.int .i64 x0, .int .i64 x1, .int .i64 x2]) (.agg #[.int .i64 y0, .int .i64 y1, .int .i64 y2])).run Try.prog w = .ok (x0 == y0 && (x1 == y1 && (x2 == y2))) w := by
 refine Xfu Try.underlying79 (by kernel_rfl) ?_
 refine Ju (by rfl) (by go_simp; rfl) (by go_simp; rfl) (by go_simp) ?_
 refine Ju (by rfl) (by go_simp; rfl) (by go_simp; rfl) (by go_simp) ?_
 exact XcW (by rfl) (by go_simp; rfl) (by go_simp; rfl) (by go_simp)
end Go.Proofs.Ytiaiecfnpompcaa.T
namespace Go.Proofs.Ytiaiecfnpompcaa.T
open Go.RowKit Go.Proofs.YtiaiecfnpompcaaW.PrintWords Go.Proofs.YtiaiecfnpompcaaW.PrintLast Go.Proofs.YtiaiecfnpompcaaW.PrintMore
attribute [local go_sem] XX XW X6 X5 XQ XP X0 XZ
set_option linter.unusedVariables false
set_option linter.unusedSimpArgs false
attribute [local go_sem] XO

def Yn.f (a0_0 : Int) (a0_1 : Int) (a0_2 : Int) (a1_0 : Int) (a1_1 : Int) (a1_2 : Int) : Option (Bool) := if a0_0 = a1_0 then (if a0_1 = a1_1 then (some (decide (a0_2 < a1_2))) else (some (decide (a0_1 < a1_1)))) else (some (decide (a0_0 < a1_0)))
set_option maxHeartbeats 8000000 in
set_option maxRecDepth 100000 in
theorem Yn.calls (a0_0 : Int) (a0_1 : Int) (a0_2 : Int) (a1_0 : Int) (a1_1 : Int) (a1_2 : Int) (r : Bool) (w : World) (h : Yn.f a0_0 a0_1 a0_2 a1_0 a1_1 a1_2 = some r) :
  Calls Try.prog 96 #[.agg #[.int .i64 a0_0, .int .i64 a0_1, .int .i64 a0_2], .agg #[.int .i64 a1_0, .int .i64 a1_1, .int .i64 a1_2]] w fun e w' => e = .returned (.bool r) ∧ Below w.heap.size w w' := by
 have hu79 := Try.underlying79
 have HB := Xa.mk (Below.refl w.heap.size w)
 have H : (if a0_0 = a1_0 then (if a0_1 = a1_1 then (some (decide (a0_2 < a1_2))) else (some (decide (a0_1 < a1_1)))) else (some (decide (a0_0 < a1_0)))) = some r := h
 clear h
 by_cases c3 : a0_0 = a1_0
 ·rw [if_pos c3] at H
  have c3b0 : (a0_0 == a1_0) = true := beq_iff_eq.mpr c3
  have c3b1 : (a0_0 != a1_0) = false := bne_eq_false_iff_eq.mpr c3
  clear c3
  by_cases c4 : a0_1 = a1_1
  ·rw [if_pos c4] at H
   have c4b0 : (a0_1 == a1_1) = true := beq_iff_eq.mpr c4
   have c4b1 : (a0_1 != a1_1) = false := bne_eq_false_iff_eq.mpr c4
   clear c4
   obtain rfl := Option.some.inj H
   go_enter Try.func96, Try.ntmps96
   go_wp2_with (first | ((with_reducible refine Xz (N := 2) rfl ?_); refine XH ?hg (N := 2) ?hd (cs := #[.int .i64 a0_0, .int .i64 a0_1, .int .i64 a0_2]) (t := 79) ?hr ?_; (case hd => rfl); (case hg => rfl); (case hr => first | (go_simp; done) | (go_simp; rfl)); intro gb370 hg w5 hbox hb; have BK370 := Xa.mk (hbox); have GW370 := Xa.mk ((by rw [hg]; exact (Xg HB.out) : w.heap.size ≤ gb370)); have GE370 := GW370; replace HB := Xa.mk (Xi HB.out hb); clear hb hbox hg) | ((with_reducible refine Xz (N := 3) rfl ?_); refine XH ?hg (N := 3) ?hd (cs := #[.int .i64 a1_0, .int .i64 a1_1, .int .i64 a1_2]) (t := 79) ?hr ?_; (case hd => rfl); (case hg => rfl); (case hr => first | (go_simp; done) | (go_simp; rfl)); intro gb371 hg w6 hbox hb; have BK371 := Xa.mk (hbox); have GW371 := Xa.mk ((by rw [hg]; exact (Xg (hb_ HB)) : w.heap.size ≤ gb371)); have GE371 := GW371; replace HB := sb_ HB hb; have NB370_371 := Xa.mk ((by rw [hg]; exact Nat.ne_of_lt (YV BK370.out) : gb370 ≠ gb371)); have NB371_370 := Xa.mk ((by rw [hg]; exact Nat.ne_of_gt (YV BK370.out) : gb371 ≠ gb370)); replace BK370 := Xa.mk (Xu (g := gb370) (o := .cells #[.int .i64 a0_0, .int .i64 a0_1, .int .i64 a0_2] 79 (0, 0)) (bk_ BK370) hb); clear hb hbox hg; have hnb7 := NB370_371.out; have hnc7 := NB371_370.out; obtain ⟨hcz8_0, hcz8_1, hcz8_2⟩ := bc3 BK370.out; obtain ⟨hfz8_0, hfz8_1, hfz8_2⟩ := bf3 BK370.out; obtain ⟨hcz9_0, hcz9_1, hcz9_2⟩ := bc3 BK371.out; obtain ⟨hfz9_0, hfz9_1, hfz9_2⟩ := bf3 BK371.out))
   go_ret
   exact ⟨by first | rfl | (simp [errW_none, errW_some] <;> rfl) | (simp [*, errW_none, errW_some] <;> rfl), by repeat (first | (with_reducible first | exact HB.out | apply Xs | apply Xo | apply Xl | refine XC ?_ (Xa.out (by assumption))) | exact HB.out)⟩
  ·rw [if_neg c4] at H
   have c4b0 : (a0_1 == a1_1) = false := beq_eq_false_iff_ne.mpr c4
   have c4b1 : (a0_1 != a1_1) = true := bne_iff_ne.mpr c4
   obtain rfl := Option.some.inj H
   go_enter Try.func96, Try.ntmps96
   go_wp2_with (first | ((with_reducible refine Xz (N := 2) rfl ?_); refine XH ?hg (N := 2) ?hd (cs := #[.int .i64 a0_0, .int .i64 a0_1, .int .i64 a0_2]) (t := 79) ?hr ?_; (case hd => rfl); (case hg => rfl); (case hr => first | (go_simp; done) | (go_simp; rfl)); intro gb370 hg w10 hbox hb; have BK370 := Xa.mk (hbox); have GW370 := Xa.mk ((by rw [hg]; exact (Xg HB.out) : w.heap.size ≤ gb370)); have GE370 := GW370; replace HB := Xa.mk (Xi HB.out hb); clear hb hbox hg) | ((with_reducible refine Xz (N := 3) rfl ?_); refine XH ?hg (N := 3) ?hd (cs := #[.int .i64 a1_0, .int .i64 a1_1, .int .i64 a1_2]) (t := 79) ?hr ?_; (case hd => rfl); (case hg => rfl); (case hr => first | (go_simp; done) | (go_simp; rfl)); intro gb371 hg w11 hbox hb; have BK371 := Xa.mk (hbox); have GW371 := Xa.mk ((by rw [hg]; exact (Xg (hb_ HB)) : w.heap.size ≤ gb371)); have GE371 := GW371; replace HB := sb_ HB hb; have NB370_371 := Xa.mk ((by rw [hg]; exact Nat.ne_of_lt (YV BK370.out) : gb370 ≠ gb371)); have NB371_370 := Xa.mk ((by rw [hg]; exact Nat.ne_of_gt (YV BK370.out) : gb371 ≠ gb370)); replace BK370 := Xa.mk (Xu (g := gb370) (o := .cells #[.int .i64 a0_0, .int .i64 a0_1, .int .i64 a0_2] 79 (0, 0)) (bk_ BK370) hb); clear hb hbox hg; have hnb12 := NB370_371.out; have hnc12 := NB371_370.out; obtain ⟨hcz13_0, hcz13_1, hcz13_2⟩ := bc3 BK370.out; obtain ⟨hfz13_0, hfz13_1, hfz13_2⟩ := bf3 BK370.out; obtain ⟨hcz14_0, hcz14_1, hcz14_2⟩ := bc3 BK371.out; obtain ⟨hfz14_0, hfz14_1, hfz14_2⟩ := bf3 BK371.out))
   go_ret
   exact ⟨by first | rfl | (simp [errW_none, errW_some] <;> rfl) | (simp [*, errW_none, errW_some] <;> rfl), by repeat (first | (with_reducible first | exact HB.out | apply Xs | apply Xo | apply Xl | refine XC ?_ (Xa.out (by assumption))) | exact HB.out)⟩
 ·rw [if_neg c3] at H
  have c3b0 : (a0_0 == a1_0) = false := beq_eq_false_iff_ne.mpr c3
  have c3b1 : (a0_0 != a1_0) = true := bne_iff_ne.mpr c3
  obtain rfl := Option.some.inj H
  go_enter Try.func96, Try.ntmps96
  go_wp2_with (first | ((with_reducible refine Xz (N := 2) rfl ?_); refine XH ?hg (N := 2) ?hd (cs := #[.int .i64 a0_0, .int .i64 a0_1, .int .i64 a0_2]) (t := 79) ?hr ?_; (case hd => rfl); (case hg => rfl); (case hr => first | (go_simp; done) | (go_simp; rfl)); intro gb370 hg w15 hbox hb; have BK370 := Xa.mk (hbox); have GW370 := Xa.mk ((by rw [hg]; exact (Xg HB.out) : w.heap.size ≤ gb370)); have GE370 := GW370; replace HB := Xa.mk (Xi HB.out hb); clear hb hbox hg) | ((with_reducible refine Xz (N := 3) rfl ?_); refine XH ?hg (N := 3) ?hd (cs := #[.int .i64 a1_0, .int .i64 a1_1, .int .i64 a1_2]) (t := 79) ?hr ?_; (case hd => rfl); (case hg => rfl); (case hr => first | (go_simp; done) | (go_simp; rfl)); intro gb371 hg w16 hbox hb; have BK371 := Xa.mk (hbox); have GW371 := Xa.mk ((by rw [hg]; exact (Xg (hb_ HB)) : w.heap.size ≤ gb371)); have GE371 := GW371; replace HB := sb_ HB hb; have NB370_371 := Xa.mk ((by rw [hg]; exact Nat.ne_of_lt (YV BK370.out) : gb370 ≠ gb371)); have NB371_370 := Xa.mk ((by rw [hg]; exact Nat.ne_of_gt (YV BK370.out) : gb371 ≠ gb370)); replace BK370 := Xa.mk (Xu (g := gb370) (o := .cells #[.int .i64 a0_0, .int .i64 a0_1, .int .i64 a0_2] 79 (0, 0)) (bk_ BK370) hb); clear hb hbox hg; have hnb17 := NB370_371.out; have hnc17 := NB371_370.out; obtain ⟨hcz18_0, hcz18_1, hcz18_2⟩ := bc3 BK370.out; obtain ⟨hfz18_0, hfz18_1, hfz18_2⟩ := bf3 BK370.out; obtain ⟨hcz19_0, hcz19_1, hcz19_2⟩ := bc3 BK371.out; obtain ⟨hfz19_0, hfz19_1, hfz19_2⟩ := bf3 BK371.out))
  go_ret
  exact ⟨by first | rfl | (simp [errW_none, errW_some] <;> rfl) | (simp [*, errW_none, errW_some] <;> rfl), by repeat (first | (with_reducible first | exact HB.out | apply Xs | apply Xo | apply Xl | refine XC ?_ (Xa.out (by assumption))) | exact HB.out)⟩

end Go.Proofs.Ytiaiecfnpompcaa.T
namespace Go.Proofs.Ytiaiecfnpompcaa.T
open Go.RowKit Go.Proofs.YtiaiecfnpompcaaW.PrintWords Go.Proofs.YtiaiecfnpompcaaW.PrintLast Go.Proofs.YtiaiecfnpompcaaW.PrintMore
attribute [local go_sem] XX XW X6 X5 XQ XP X0 XZ
set_option linter.unusedVariables false
set_option linter.unusedSimpArgs false
attribute [local go_sem] XO

attribute [local go_sem high] Xii
def Xm.l0 : Nat → List (S79) → Int → Int → Int → Int → Option ((List (S79)))
 | 0, _, _, _, _, _ => none
 | k + 1, x0, x5, x208000, x208001, x208002 => if x5 < (x0.length : Int) then (if 0 ≤ x5 then ((Yn.f ((Xn x0 x5).f0) ((Xn x0 x5).f1) ((Xn x0 x5).f2) x208000 x208001 x208002).bind fun t209 => (if t209 = true then (Xm.l0 k x0 (wrap64 (x5 + 1)) x208000 x208001 x208002) else (if (((Xn x0 x5).f0) == x208000 && (((Xn x0 x5).f1) == x208001 && (((Xn x0 x5).f2) == x208002))) = true then (some x0) else ((some (([] : List (S79)) : List (S79))).bind fun y211 => (if x5 ≤ (x0.length : Int) then ((some (x0.take (x5 : Int).toNat : List (S79))).bind fun y214 => (if y211.length + y214.length < 5864062014805 then ((some (y211 ++ y214 : List (S79))).bind fun y218 => ((some (([(⟨x208000, x208001, x208002⟩ : S79)] : List (S79)) : List (S79))).bind fun y221 => (if y218.length + y221.length < 5864062014805 then ((some (y218 ++ y221 : List (S79))).bind fun y224 => ((some (x0.drop (x5 : Int).toNat : List (S79))).bind fun y227 => (if y224.length + y227.length < 5864062014805 then (some (y224 ++ y227)) else (none)))) else (none)))) else (none))) else (none)))))) else (none)) else ((some (([] : List (S79)) : List (S79))).bind fun y234 => (if 0 ≤ x5 then (if x5 ≤ (x0.length : Int) then ((some (x0.take (x5 : Int).toNat : List (S79))).bind fun y237 => (if y234.length + y237.length < 5864062014805 then ((some (y234 ++ y237 : List (S79))).bind fun y241 => ((some (([(⟨x208000, x208001, x208002⟩ : S79)] : List (S79)) : List (S79))).bind fun y244 => (if y241.length + y244.length < 5864062014805 then ((some (y241 ++ y244 : List (S79))).bind fun y247 => ((some (x0.drop (x5 : Int).toNat : List (S79))).bind fun y250 => (if y247.length + y250.length < 5864062014805 then (some (y247 ++ y250)) else (none)))) else (none)))) else (none))) else (none)) else (none)))
def Xm.f (k : Nat) (l0 : List (S79)) (a1_0 : Int) (a1_1 : Int) (a1_2 : Int) : Option ((List (S79))) := Xm.l0 k l0 0 a1_0 a1_1 a1_2
def Xm.T2 : Bool × List (List Nat × List Nat) := (true, [([], []), ([], []), ([1], [1]), ([0, 2], [0, 2]), ([3], [3]), ([4], [4]), ([4], [4]), ([5, 6, 4], [4, 5, 6]), ([7, 4], [4, 7]), ([4], [4]), ([8, 9, 4, 4], [4, 8, 9]), ([4, 10], [4, 10])])
def Xm.B2 : List Nat := [0, 0, 2, 7, 15, 31, 31, 127, 255, 31, 1023, 2047]
theorem Xm.tab2 : rtab .any (Xan Try.f71 2) = Xm.T2 := by kernel_rfl
theorem Xm.bits2 : YI Xm.T2.2 Xm.B2 = true := by kernel_rfl
def Xm.T4 : Bool × List (List Nat × List Nat) := (true, [([], []), ([], []), ([1], [1]), ([0, 2], [0, 2]), ([3], [3]), ([4], [4]), ([4], [4]), ([5, 6, 4], [4, 5, 6]), ([7, 4], [4, 7]), ([4], [4]), ([8, 9, 4], [4, 8, 9]), ([4, 10], [4, 10])])
def Xm.B4 : List Nat := [0, 0, 2, 7, 15, 31, 31, 127, 255, 31, 1023, 2047]
theorem Xm.tab4 : rtab .any (Xan Try.f71 4) = Xm.T4 := by kernel_rfl
theorem Xm.bits4 : YI Xm.T4.2 Xm.B4 = true := by kernel_rfl
def Xm.T6 : Bool × List (List Nat × List Nat) := (true, [([], []), ([], []), ([], []), ([1, 2], [1, 2]), ([0, 3], [0, 3]), ([], []), ([5], [5]), ([4, 6, 4], [4, 6]), ([], []), ([], []), ([8, 9], [8, 9]), ([7, 10, 7], [7, 10]), ([11, 11, 0, 1, 2, 3, 4, 5, 6, 7, 8, 9, 10, 11], [11])])
def Xm.B6 : List Nat := [0, 0, 0, 6, 15, 0, 32, 127, 0, 0, 768, 2047, 4095]
theorem Xm.tab6 : rtab .any (Xan Try.f71 6) = Xm.T6 := by kernel_rfl
theorem Xm.bits6 : YI Xm.T6.2 Xm.B6 = true := by kernel_rfl
set_option maxHeartbeats 8000000 in
set_option maxRecDepth 100000 in
theorem Xm.tail {base : Nat} {v1 v2 v4 v6 v7 v8 v9 v10 v11 v12 v13 v14 v15 v16 v17 v18 v19 v20 v21 v22 v23 v24 v25 v26 v27 v28 v29 v30 v31 v32 v33 v34 v35 v36 v37 v38 v39 v40 v41 v42 v43 v44 : Value} (A0 : Option Addr) (c0 : Nat) (l0 : List (S79)) (a1_0 : Int) (a1_1 : Int) (a1_2 : Int) (r : List (S79)) (w w44 : World) (gb207 : Nat) (x5_1 : Int) (y234 : List (S79)) (HR0 : Xa (Kd.C k79 w A0 l0.length l0)) (HC0 : Xa (l0.length ≤ c0)) (HBASE : Xa (base ≤ w.heap.size)) (Ny234 : Xa (y234 = [])) (H : (if 0 ≤ x5_1 then (if x5_1 ≤ (l0.length : Int) then ((some (l0.take (x5_1 : Int).toNat : List (S79))).bind fun y237 => (if y234.length + y237.length < 5864062014805 then ((some (y234 ++ y237 : List (S79))).bind fun y241 => ((some (([(⟨a1_0, a1_1, a1_2⟩ : S79)] : List (S79)) : List (S79))).bind fun y244 => (if y241.length + y244.length < 5864062014805 then ((some (y241 ++ y244 : List (S79))).bind fun y247 => ((some (l0.drop (x5_1 : Int).toNat : List (S79))).bind fun y250 => (if y247.length + y250.length < 5864062014805 then (some (y247 ++ y250)) else (none)))) else (none)))) else (none))) else (none)) else (none)) = some r)
  (BK207 : Xa (w44.heap[gb207]? = some (.cells #[.int .i64 a1_0, .int .i64 a1_1, .int .i64 a1_2] 79 (0, 0)))) (HB : Xa (Below w.heap.size w w44)) (K0 : Act → World → Prop) (hK0 : ∀ a w_, (sqR (nR 4 (Try.f71.body.getD .skip))).wp Try.prog (bodyPost Try.prog Try.f71 (fun e w' => ∃ v0_ : Value, e = .returned (v0_) ∧ Kd.R k79 79 w' base (fun _ => True) v0_ r ∧ Below w.heap.size w w')) a w_ → K0 a w_) :
  (sqL (nR 4 (Try.f71.body.getD .skip))).wp Try.prog (Exit.then K0 (bodyPost Try.prog Try.f71 (fun e w' => ∃ v0_ : Value, e = .returned (v0_) ∧ Kd.R k79 79 w' base (fun _ => True) v0_ r ∧ Below w.heap.size w w'))) { tmps := #[.slice A0 l0.length c0, v1, v2, .pointer (some ⟨gb207, 0, none⟩), v4, .int .i64 x5_1, v6, v7, v8, v9, v10, v11, v12, v13, v14, v15, v16, v17, v18, v19, v20, v21, v22, v23, v24, v25, v26, v27, v28, v29, v30, v31, v32, v33, v34, v35, v36, v37, v38, v39, v40, v41, v42, v43, v44], defers := [] } w44 := by
 have hu79 := Try.underlying79
 conv at hK0 =>
  enter [a, w_, 1, 2]
  whnf
 conv => enter [2]; whnf
 by_cases c36 : 0 ≤ x5_1
 ·rw [if_pos c36] at H
  have c36b0 := eq_true c36
  have c36b1 : decide (0 ≤ x5_1) = true := decide_eq_true c36
  clear c36
  by_cases c37 : x5_1 ≤ (l0.length : Int)
  ·rw [if_pos c37] at H
   have c37b0 := eq_true c37
   have c37b1 : decide (x5_1 ≤ (l0.length : Int)) = true := decide_eq_true c37
   clear c37
   obtain ⟨y237, hy237⟩ : ∃ y_ : List (S79), y_ = (l0.take (x5_1 : Int).toNat) := ⟨_, rfl⟩
   replace H : (if y234.length + y237.length < 5864062014805 then ((some (y234 ++ y237 : List (S79))).bind fun y241 => ((some (([(⟨a1_0, a1_1, a1_2⟩ : S79)] : List (S79)) : List (S79))).bind fun y244 => (if y241.length + y244.length < 5864062014805 then ((some (y241 ++ y244 : List (S79))).bind fun y247 => ((some (l0.drop (x5_1 : Int).toNat : List (S79))).bind fun y250 => (if y247.length + y250.length < 5864062014805 then (some (y247 ++ y250)) else (none)))) else (none)))) else (none)) = some r := by first | (rw [hy237]; with_reducible exact H) | (have H2_ := (Option.bind_some _ _).symm.trans H; rw [hy237]; with_reducible exact H2_) | (have H2_ := (Option.bind_some _ _).symm.trans H; with_reducible exact H2_) | with_reducible exact H | (rw [hy237]; exact H) | exact H
   have Ny237 := Xa.mk hy237
   clear hy237
   by_cases c38 : y234.length + y237.length < 5864062014805
   ·rw [if_pos c38] at H
    have LMc38 := Xa.mk c38
    clear c38
    obtain ⟨y241, hy241⟩ : ∃ y_ : List (S79), y_ = (y234 ++ y237) := ⟨_, rfl⟩
    replace H : ((some (([(⟨a1_0, a1_1, a1_2⟩ : S79)] : List (S79)) : List (S79))).bind fun y244 => (if y241.length + y244.length < 5864062014805 then ((some (y241 ++ y244 : List (S79))).bind fun y247 => ((some (l0.drop (x5_1 : Int).toNat : List (S79))).bind fun y250 => (if y247.length + y250.length < 5864062014805 then (some (y247 ++ y250)) else (none)))) else (none))) = some r := by first | (rw [hy241]; with_reducible exact H) | (have H2_ := (Option.bind_some _ _).symm.trans H; rw [hy241]; with_reducible exact H2_) | (have H2_ := (Option.bind_some _ _).symm.trans H; with_reducible exact H2_) | with_reducible exact H | (rw [hy241]; exact H) | exact H
    have Ny241 := Xa.mk hy241
    clear hy241
    obtain ⟨y244, hy244⟩ : ∃ y_ : List (S79), y_ = (([(⟨a1_0, a1_1, a1_2⟩ : S79)] : List (S79))) := ⟨_, rfl⟩
    replace H : (if y241.length + y244.length < 5864062014805 then ((some (y241 ++ y244 : List (S79))).bind fun y247 => ((some (l0.drop (x5_1 : Int).toNat : List (S79))).bind fun y250 => (if y247.length + y250.length < 5864062014805 then (some (y247 ++ y250)) else (none)))) else (none)) = some r := by first | (rw [hy244]; with_reducible exact H) | (have H2_ := (Option.bind_some _ _).symm.trans H; rw [hy244]; with_reducible exact H2_) | (have H2_ := (Option.bind_some _ _).symm.trans H; with_reducible exact H2_) | with_reducible exact H | (rw [hy244]; exact H) | exact H
    have Ny244 := Xa.mk hy244
    clear hy244
    by_cases c39 : y241.length + y244.length < 5864062014805
    ·rw [if_pos c39] at H
     have LMc39 := Xa.mk c39
     clear c39
     obtain ⟨y247, hy247⟩ : ∃ y_ : List (S79), y_ = (y241 ++ y244) := ⟨_, rfl⟩
     replace H : ((some (l0.drop (x5_1 : Int).toNat : List (S79))).bind fun y250 => (if y247.length + y250.length < 5864062014805 then (some (y247 ++ y250)) else (none))) = some r := by first | (rw [hy247]; with_reducible exact H) | (have H2_ := (Option.bind_some _ _).symm.trans H; rw [hy247]; with_reducible exact H2_) | (have H2_ := (Option.bind_some _ _).symm.trans H; with_reducible exact H2_) | with_reducible exact H | (rw [hy247]; exact H) | exact H
     have Ny247 := Xa.mk hy247
     clear hy247
     have c40b0 := eq_true (of_decide_eq_true ‹_› : 0 ≤ x5_1)
     have c41b0 := eq_true (of_decide_eq_true ‹_› : x5_1 ≤ (l0.length : Int))
     obtain ⟨y250, hy250⟩ : ∃ y_ : List (S79), y_ = (l0.drop (x5_1 : Int).toNat) := ⟨_, rfl⟩
     replace H : (if y247.length + y250.length < 5864062014805 then (some (y247 ++ y250)) else (none)) = some r := by first | (rw [hy250]; with_reducible exact H) | (have H2_ := (Option.bind_some _ _).symm.trans H; rw [hy250]; with_reducible exact H2_) | (have H2_ := (Option.bind_some _ _).symm.trans H; with_reducible exact H2_) | with_reducible exact H | (rw [hy250]; exact H) | exact H
     have Ny250 := Xa.mk hy250
     clear hy250
     by_cases c42 : y247.length + y250.length < 5864062014805
     ·rw [if_pos c42] at H
      have LMc42 := Xa.mk c42
      clear c42
      obtain ⟨y254, hy254⟩ : ∃ y_ : List (S79), y_ = (y247 ++ y250) := ⟨_, rfl⟩
      replace H : (some y254) = some r := by first | (rw [hy254]; with_reducible exact H) | (have H2_ := (Option.bind_some _ _).symm.trans H; rw [hy254]; with_reducible exact H2_) | (have H2_ := (Option.bind_some _ _).symm.trans H; with_reducible exact H2_) | with_reducible exact H | (rw [hy254]; exact H) | exact H
      have Ny254 := Xa.mk hy254
      clear hy254
      obtain rfl := Option.some.inj H
      have n0_ := Xa.mk (X3 BK207.out)
      have n1_ := Xa.mk (Xl HB.out)
      clear BK207
      clear HB
      have BK207 := n0_
      have HB := n1_
      clear n0_ n1_
      have q46 : (x5_1 : Int) ≤ ((l0.length : Int) : Int) := of_decide_eq_true ‹_›
      obtain ⟨i046, hi046, _, hsz46, _⟩ := info_parts Xae
      have hroom46 : l0.length ≤ c0 := HC0.out
      have hC46 : Kd.C k79 _ A0 l0.length l0 := HR0.out
      have hcut46 := Xho (P := Try.prog) 62 79 .i64 Try.underlying62 hi046 A0 l0.length c0 x5_1 (of_decide_eq_true ‹_›) q46 hroom46
      have hr46 := Kd.C_take (m := (x5_1 : Int).toNat) hC46 (by omega)
      have hy46 : y237.length = (x5_1 : Int).toNat := (by rw [Ny237.out, List.length_take]; omega)
      rw [← Ny237.out] at hr46
      rw [← hy46] at hcut46
      have HR240 := Xa.mk hr46
      have HC240 := Xa.mk (show y237.length ≤ c0 from by omega)
      clear hr46 hC46 hroom46 hi046 hsz46
      have KY46 := Xa.mk hy46
      clear hy46
      replace q46 := eq_true q46
      have q47 : (x5_1 : Int) ≤ ((l0.length : Int) : Int) := of_decide_eq_true ‹_›
      obtain ⟨i047, hi047, _, hsz47, _⟩ := info_parts Xae
      have hroom47 : l0.length ≤ c0 := HC0.out
      have hC47 : Kd.C k79 _ A0 l0.length l0 := HR0.out
      have q047 : (0 : Int) ≤ (x5_1 : Int) := of_decide_eq_true ‹_›
      have hcut47 := Xhp (P := Try.prog) 62 79 .i64 Try.underlying62 hi047 3 hsz47 A0 l0.length c0 x5_1 q047 q47
      have hr47 := Kd.C_drop (m := (x5_1 : Int).toNat) (c := c0) hC47 (by omega) hroom47
      obtain ⟨A47, hA47⟩ : ∃ A1, A1 = (if c0 = (x5_1 : Int).toNat then A0 else (A0 : Option Addr).map (·.add ((x5_1 : Int).toNat * 3))) := ⟨_, rfl⟩
      obtain ⟨c47, hc47⟩ : ∃ c1, c1 = c0 - (x5_1 : Int).toNat := ⟨_, rfl⟩
      have hy47 : y250.length = l0.length - (x5_1 : Int).toNat := (by rw [Ny250.out, List.length_drop] <;> omega)
      rw [show (l0).drop (x5_1 : Int).toNat = y250 from Ny250.out.symm] at hr47
      replace hr47 : Kd.C k79 _ A47 y250.length y250 := (by rw [hA47]; exact hr47)
      rw [← hy47, ← hA47, ← hc47] at hcut47
      have HR253 := Xa.mk hr47
      have HC253 := Xa.mk (show y250.length ≤ c47 from by rw [hy47, hc47]; exact Nat.sub_le_sub_right hroom47 _)
      clear hr47 hC47 hroom47 hi047 hsz47 hc47
      have KY47 := Xa.mk hy47
      have KA47 := Xa.mk hA47
      clear hy47 hA47
      replace q47 := eq_true q47
      refine Yy (n := 13) (S := fun w' => w'.cell? ⟨gb207, 0, none⟩ = some (.int .i64 a1_0) ∧ w'.cell? ⟨gb207, 1, none⟩ = some (.int .i64 a1_1) ∧ w'.cell? ⟨gb207, 2, none⟩ = some (.int .i64 a1_2)) (ds := []) #[ff, ff, ff, ff, ff, ff, ff, ff, ff, ff, ff, ff, ff] (by kernel_rfl) rfl rfl ⟨(Xe BK207.out 0).trans rfl, (Xe BK207.out 1).trans rfl, (Xe BK207.out 2).trans rfl⟩ (fun hHeld => ?_); refine X9 Xm.tab6 Xm.bits6 (fun HT_ HW_ => ?_)
      generalize w44.drew = w45 at BK207 HB HR240 HR253 hHeld ⊢
      refine pu_ 1 34 HT_ ?_
      refine pu_ 2 35 HT_ ?_
      refine pu_ 3 36 HT_ ?_
      refine pu_ 8 41 HT_ ?_
      refine pu_ 9 42 HT_ ?_
      refine pu_ 10 43 HT_ ?_
      refine tw_ 5 38 HT_ HW_ hHeld ?_
      refine join_ (σ := Value × Value × Value) 3 #[tt, tt, tt, tt, tt, tt, tt, ff, tt, tt, tt, ff, ff] (fun s_ => [(33, s_.1), (37, s_.2.1), (39, s_.2.2)]) (fun s_ w' => (w'.cell? ⟨gb207, 0, none⟩ = some (.int .i64 a1_0) ∧ w'.cell? ⟨gb207, 1, none⟩ = some (.int .i64 a1_1) ∧ w'.cell? ⟨gb207, 2, none⟩ = some (.int .i64 a1_2)) ∧ (Kd.R k79 79 w' w.heap.size (fun k_ => some k_ ≠ (s_.2.2 : Value).ownBlock ∧ k_ ≠ gb207) s_.2.1 y241) ∧ (Kd.R k79 79 w' w.heap.size (fun k_ => some k_ ≠ (s_.2.1 : Value).ownBlock ∧ k_ ≠ gb207) s_.2.2 y244) ∧ (w'.heap[gb207]? = some (.cells #[.int .i64 a1_0, .int .i64 a1_1, .int .i64 a1_2] 79 (0, 0))) ∧ (Below w.heap.size w w')) ?_ ?_
      rotate_left
      ·intro hCont
       refine two_ (i := 0) (j := 6) (Ni := some 33) (Nj := some 39) #[tt, tt, tt, tt, ff, tt, ff, ff, tt, tt, tt, ff, ff] #[ff, tt, tt, tt, ff, tt, tt, ff, tt, tt, tt, ff, ff] rfl rfl rfl rfl (XgT HT_.out (by kernel_rfl)) (by decide) (by decide) (fun K hK => ?_) (fun K hK => ?_)
       ·skip
        refine Kd.R_lit_step k79 _ 79 ?hg (N := 33) ?hd (xs := ([] : List (S79))) (inner := []) (ok := fun _ => True) (okp := fun _ => True) ?hr ?hp (fun _ hk => hk) trivial (Below.refl _ _) (Nat.le_refl _) (by simp) ?_; (case hd => rfl); (case hg => rfl); (case hr => first | (go_simp; done) | (go_simp; rfl)); (case hp => exact (Reps.none _ _))
        intro v235 w48 ho49 hb hg_ hnew_
        clear hg_ hnew_
        (first | rw [← Ny234.out] at ho49 | (simp only [Int.reduceToNat] at ho49; rw [← Ny234.out] at ho49))
        have n0_ := Xa.mk (Kd.R_lower (Kd.R_newB ho49 (g := gb207) (o := .cells #[.int .i64 a1_0, .int .i64 a1_1, .int .i64 a1_2] 79 (0, 0)) (bk_ BK207)) (Xg (hb_ HB)))
        have n1_ := Xa.mk (Xu (g := gb207) (o := .cells #[.int .i64 a1_0, .int .i64 a1_1, .int .i64 a1_2] 79 (0, 0)) (bk_ BK207) hb)
        have n2_ := sb_ HB hb
        clear BK207
        clear HB
        have HO236 := n0_
        have BK207 := n1_
        have HB := n2_
        clear n0_ n1_ n2_
        clear hb ho49
        refine hK.out _ _ ⟨(Xe BK207.out 0).trans rfl, (Xe BK207.out 1).trans rfl, (Xe BK207.out 2).trans rfl⟩ (fun hHeld => ?_)
        clear hK K
        refine Yr (a' := ?_) ?_ ?_
        rotate_left
        ·show Act.put _ (some 33) _ = _
         simp only [Act.put, sa_, s0_, s1_, XR, XS]
         rfl
        refine two_ (i := 4) (j := 6) (Ni := some 37) (Nj := some 39) #[tt, tt, tt, tt, tt, tt, ff, ff, tt, tt, tt, ff, ff] #[tt, tt, tt, tt, ff, tt, tt, ff, tt, tt, tt, ff, ff] rfl rfl rfl rfl (XgT HT_.out (by kernel_rfl)) (by decide) (by decide) (fun K hK => ?_) (fun K hK => ?_)
        ·skip
         refine Kd.R_append_rows_step k79 (w0 := w) w.heap.size (by rfl) (.tmp 33) (.tmp 36) 62 79 (.agg #[(.int .i64 0), (.int .i64 0), (.int .i64 0)]) 24 rfl Try.underlying62 Xae rfl (by decide) (by omega) v235 y234 y237 _ _ _ (fun k_ => k_ ≠ gb207) (fun _ => False) rfl rfl ?aO ?aR (fun _ _ h => h) (fun _ h => h.elim) ?aF ?aB ?aS ?aL ?_
         (case aR => repeat (first | exact (Kd.C_below HR240.out HB.out) | (with_reducible refine Kd.C_alloc ?_ _) | (with_reducible refine Kd.C_drewN ?_ _) | (with_reducible refine Kd.C_drew ?_)))
         (case aB => exact (hb_ HB))
         (case aF => exact (fun k_ hk => Kd.freshB (g := gb207) (o := .cells #[.int .i64 a1_0, .int .i64 a1_1, .int .i64 a1_2] 79 (0, 0)) (bk_ BK207) k_ hk))
         (case aO => exact (by (with_reducible repeat (first | apply Kd.R_alloc | apply Kd.R_drewN | apply Kd.R_drew)); exact Kd.R_mono HO236.out (fun _ hk => hk.2)))
         (case aS => exact (Xg (hb_ HB)))
         (case aL => have := LMc38.out; omega)
         intro v242 w50 ho hb hg hat
         rw [← Ny241.out] at ho
         have n0_ := Xa.mk (Yx (g := gb207) (o := .cells #[.int .i64 a1_0, .int .i64 a1_1, .int .i64 a1_2] 79 (0, 0)) (bk_ BK207) hg (Kd.R_away HO236.out (fun _ hk => hk.2)))
         have n1_ := Xa.mk (hb)
         have n2_ := Xa.mk (ho)
         clear BK207
         clear HB
         clear HO236
         have BK207 := n0_
         have HB := n1_
         have HO243 := n2_
         clear n0_ n1_ n2_
         clear ho hb hg hat
         refine hK.out _ _ ⟨(Xe BK207.out 0).trans rfl, (Xe BK207.out 1).trans rfl, (Xe BK207.out 2).trans rfl⟩ (fun hHeld => ?_)
         clear hK K
         refine Yr (a' := ?_) ?_ ?_
         rotate_left
         ·show Act.put _ (some 37) _ = _
          simp only [Act.put, sa_, s0_, s1_, XR, XS]
          rfl
         refine one_ (i := 6) (N := some 39) #[tt, tt, tt, tt, tt, tt, tt, ff, tt, tt, tt, ff, ff] rfl rfl (Ys HT_.out (by kernel_rfl)) (by decide) (fun K hK => ?_)
         refine Kd.R_lit_step k79 _ 79 ?hg (N := 39) ?hd (xs := ([(⟨a1_0, a1_1, a1_2⟩ : S79)] : List (S79))) (inner := [.int .i64 a1_0, .int .i64 a1_1, .int .i64 a1_2]) (ok := fun _ => True) (okp := fun _ => True) ?hr ?hp (fun _ hk => hk) trivial (Below.refl _ _) (Nat.le_refl _) (by simp) ?_; (case hd => rfl); (case hg => rfl); (case hr => first | (go_simp; done) | (go_simp; rfl)); (case hp => exact (Reps.c3 (show Kd.M k79 _ _ _ (⟨a1_0, a1_1, a1_2⟩ : S79) [.int .i64 a1_0, .int .i64 a1_1, .int .i64 a1_2] from (XbD _ _ _ (⟨a1_0, a1_1, a1_2⟩ : S79) )) (Reps.none _ _)))
         intro v245 w51 ho52 hb hg_ hnew_
         clear hg_ hnew_
         (first | rw [← Ny244.out] at ho52 | (simp only [Int.reduceToNat] at ho52; rw [← Ny244.out] at ho52))
         have n0_ := Xa.mk (Kd.R_elder' (ro_ HO243) (Kd.R_base ho52) hb)
         have n1_ := Xa.mk (Kd.R_lower (Kd.R_newB (Kd.R_new' ho52 (Kd.R_lt (ro_ HO243))) (g := gb207) (o := .cells #[.int .i64 a1_0, .int .i64 a1_1, .int .i64 a1_2] 79 (0, 0)) (bk_ BK207)) (Xg (hb_ HB)))
         have n2_ := Xa.mk (Xu (g := gb207) (o := .cells #[.int .i64 a1_0, .int .i64 a1_1, .int .i64 a1_2] 79 (0, 0)) (bk_ BK207) hb)
         have n3_ := sb_ HB hb
         clear HO243
         clear BK207
         clear HB
         have HO243 := n0_
         have HO246 := n1_
         have BK207 := n2_
         have HB := n3_
         clear n0_ n1_ n2_ n3_
         clear hb ho52
         refine hK.out _ _ ⟨(Xe BK207.out 0).trans rfl, (Xe BK207.out 1).trans rfl, (Xe BK207.out 2).trans rfl⟩ (fun hHeld => ?_)
         clear hK K
         refine Yr (a' := ?_) ?_ ?_
         rotate_left
         ·show Act.put _ (some 39) _ = _
          simp only [Act.put, sa_, s0_, s1_, XR, XS]
          rfl
         exact Yr (by simp only [Xa9, Act.put, List.setIfInBounds_toArray, List.set_cons_zero, List.set_cons_succ]) (hCont (v235, v242, v245) _ ⟨hHeld, (by (with_reducible repeat (first | apply Kd.R_alloc | apply Kd.R_drewN | apply Kd.R_drew)); exact Kd.R_mono HO243.out (fun _ hk => ⟨hk.2, hk.1⟩)), (by (with_reducible repeat (first | apply Kd.R_alloc | apply Kd.R_drewN | apply Kd.R_drew)); exact Kd.R_mono HO246.out (fun _ hk => ⟨hk.1.2, hk.2⟩)), (bk_ BK207), (hb_ HB)⟩)
        ·skip
         refine Kd.R_lit_step k79 _ 79 ?hg (N := 39) ?hd (xs := ([(⟨a1_0, a1_1, a1_2⟩ : S79)] : List (S79))) (inner := [.int .i64 a1_0, .int .i64 a1_1, .int .i64 a1_2]) (ok := fun _ => True) (okp := fun _ => True) ?hr ?hp (fun _ hk => hk) trivial (Below.refl _ _) (Nat.le_refl _) (by simp) ?_; (case hd => rfl); (case hg => rfl); (case hr => first | (go_simp; done) | (go_simp; rfl)); (case hp => exact (Reps.c3 (show Kd.M k79 _ _ _ (⟨a1_0, a1_1, a1_2⟩ : S79) [.int .i64 a1_0, .int .i64 a1_1, .int .i64 a1_2] from (XbD _ _ _ (⟨a1_0, a1_1, a1_2⟩ : S79) )) (Reps.none _ _)))
         intro v245 w50 ho51 hb hg_ hnew_
         clear hg_ hnew_
         (first | rw [← Ny244.out] at ho51 | (simp only [Int.reduceToNat] at ho51; rw [← Ny244.out] at ho51))
         have n0_ := Xa.mk (Kd.R_elder' (ro_ HO236) (Kd.R_base ho51) hb)
         have n1_ := Xa.mk (Kd.R_lower (Kd.R_newB (Kd.R_new' ho51 (Kd.R_lt (ro_ HO236))) (g := gb207) (o := .cells #[.int .i64 a1_0, .int .i64 a1_1, .int .i64 a1_2] 79 (0, 0)) (bk_ BK207)) (Xg (hb_ HB)))
         have n2_ := Xa.mk (Xu (g := gb207) (o := .cells #[.int .i64 a1_0, .int .i64 a1_1, .int .i64 a1_2] 79 (0, 0)) (bk_ BK207) hb)
         have n3_ := sb_ HB hb
         clear HO236
         clear BK207
         clear HB
         have HO236 := n0_
         have HO246 := n1_
         have BK207 := n2_
         have HB := n3_
         clear n0_ n1_ n2_ n3_
         clear hb ho51
         refine hK.out _ _ ⟨(Xe BK207.out 0).trans rfl, (Xe BK207.out 1).trans rfl, (Xe BK207.out 2).trans rfl⟩ (fun hHeld => ?_)
         clear hK K
         refine Yr (a' := ?_) ?_ ?_
         rotate_left
         ·show Act.put _ (some 39) _ = _
          simp only [Act.put, sa_, s0_, s1_, XR, XS]
          rfl
         refine one_ (i := 4) (N := some 37) #[tt, tt, tt, tt, tt, tt, tt, ff, tt, tt, tt, ff, ff] rfl rfl (Ys HT_.out (by kernel_rfl)) (by decide) (fun K hK => ?_)
         refine Kd.R_append_rows_step k79 (w0 := w) w.heap.size (by rfl) (.tmp 33) (.tmp 36) 62 79 (.agg #[(.int .i64 0), (.int .i64 0), (.int .i64 0)]) 24 rfl Try.underlying62 Xae rfl (by decide) (by omega) v235 y234 y237 _ _ _ (fun k_ => some k_ ≠ (v245 : Value).ownBlock ∧ k_ ≠ gb207) (fun _ => False) rfl rfl ?aO ?aR (fun _ _ h => h) (fun _ h => h.elim) ?aF ?aB ?aS ?aL ?_
         (case aR => repeat (first | exact (Kd.C_below HR240.out HB.out) | (with_reducible refine Kd.C_alloc ?_ _) | (with_reducible refine Kd.C_drewN ?_ _) | (with_reducible refine Kd.C_drew ?_)))
         (case aB => exact (hb_ HB))
         (case aF => exact (fun k_ hk => ⟨Kd.fresh' (Kd.R_lt (ro_ HO246)) k_ hk, Kd.freshB (g := gb207) (o := .cells #[.int .i64 a1_0, .int .i64 a1_1, .int .i64 a1_2] 79 (0, 0)) (bk_ BK207) k_ hk⟩))
         (case aO => exact (by (with_reducible repeat (first | apply Kd.R_alloc | apply Kd.R_drewN | apply Kd.R_drew)); exact Kd.R_mono HO236.out (fun _ hk => ⟨hk.2, hk.1.2⟩)))
         (case aS => exact (Xg (hb_ HB)))
         (case aL => have := LMc38.out; omega)
         intro v242 w52 ho hb hg hat
         rw [← Ny241.out] at ho
         have n0_ := Xa.mk (Yx (g := gb207) (o := .cells #[.int .i64 a1_0, .int .i64 a1_1, .int .i64 a1_2] 79 (0, 0)) (bk_ BK207) hg (Kd.R_away HO236.out (fun _ hk => hk.1.2)))
         have n1_ := Xa.mk (Kd.R_after (ok := (fun k_ => k_ ≠ gb207)) (by (with_reducible repeat (first | apply Kd.R_alloc | apply Kd.R_drewN | apply Kd.R_drew)); exact Kd.R_mono HO246.out (fun _ hk => ⟨hk.2, hk.1.2⟩)) hg hat)
         have n2_ := Xa.mk (hb)
         have n3_ := Xa.mk (ho)
         clear BK207
         clear HO246
         clear HB
         clear HO236
         have BK207 := n0_
         have HO246 := n1_
         have HB := n2_
         have HO243 := n3_
         clear n0_ n1_ n2_ n3_
         clear ho hb hg hat
         refine hK.out _ _ ⟨(Xe BK207.out 0).trans rfl, (Xe BK207.out 1).trans rfl, (Xe BK207.out 2).trans rfl⟩ (fun hHeld => ?_)
         clear hK K
         refine Yr (a' := ?_) ?_ ?_
         rotate_left
         ·show Act.put _ (some 37) _ = _
          simp only [Act.put, sa_, s0_, s1_, XR, XS]
          rfl
         exact Yr (by simp only [Xa9, Act.put, List.setIfInBounds_toArray, List.set_cons_zero, List.set_cons_succ]) (hCont (v235, v242, v245) _ ⟨hHeld, (ro_ HO243), (by (with_reducible repeat (first | apply Kd.R_alloc | apply Kd.R_drewN | apply Kd.R_drew)); exact Kd.R_mono HO246.out (fun _ hk => ⟨hk.2, hk.1⟩)), (bk_ BK207), (hb_ HB)⟩)
       ·skip
        refine Kd.R_lit_step k79 _ 79 ?hg (N := 39) ?hd (xs := ([(⟨a1_0, a1_1, a1_2⟩ : S79)] : List (S79))) (inner := [.int .i64 a1_0, .int .i64 a1_1, .int .i64 a1_2]) (ok := fun _ => True) (okp := fun _ => True) ?hr ?hp (fun _ hk => hk) trivial (Below.refl _ _) (Nat.le_refl _) (by simp) ?_; (case hd => rfl); (case hg => rfl); (case hr => first | (go_simp; done) | (go_simp; rfl)); (case hp => exact (Reps.c3 (show Kd.M k79 _ _ _ (⟨a1_0, a1_1, a1_2⟩ : S79) [.int .i64 a1_0, .int .i64 a1_1, .int .i64 a1_2] from (XbD _ _ _ (⟨a1_0, a1_1, a1_2⟩ : S79) )) (Reps.none _ _)))
        intro v245 w48 ho49 hb hg_ hnew_
        clear hg_ hnew_
        (first | rw [← Ny244.out] at ho49 | (simp only [Int.reduceToNat] at ho49; rw [← Ny244.out] at ho49))
        have n0_ := Xa.mk (Kd.R_lower (Kd.R_newB ho49 (g := gb207) (o := .cells #[.int .i64 a1_0, .int .i64 a1_1, .int .i64 a1_2] 79 (0, 0)) (bk_ BK207)) (Xg (hb_ HB)))
        have n1_ := Xa.mk (Xu (g := gb207) (o := .cells #[.int .i64 a1_0, .int .i64 a1_1, .int .i64 a1_2] 79 (0, 0)) (bk_ BK207) hb)
        have n2_ := sb_ HB hb
        clear BK207
        clear HB
        have HO246 := n0_
        have BK207 := n1_
        have HB := n2_
        clear n0_ n1_ n2_
        clear hb ho49
        refine hK.out _ _ ⟨(Xe BK207.out 0).trans rfl, (Xe BK207.out 1).trans rfl, (Xe BK207.out 2).trans rfl⟩ (fun hHeld => ?_)
        clear hK K
        refine Yr (a' := ?_) ?_ ?_
        rotate_left
        ·show Act.put _ (some 39) _ = _
         simp only [Act.put, sa_, s0_, s1_, XR, XS]
         rfl
        refine one_ (i := 0) (N := some 33) #[tt, tt, tt, tt, ff, tt, tt, ff, tt, tt, tt, ff, ff] rfl rfl (Ys HT_.out (by kernel_rfl)) (by decide) (fun K hK => ?_)
        refine Kd.R_lit_step k79 _ 79 ?hg (N := 33) ?hd (xs := ([] : List (S79))) (inner := []) (ok := fun _ => True) (okp := fun _ => True) ?hr ?hp (fun _ hk => hk) trivial (Below.refl _ _) (Nat.le_refl _) (by simp) ?_; (case hd => rfl); (case hg => rfl); (case hr => first | (go_simp; done) | (go_simp; rfl)); (case hp => exact (Reps.none _ _))
        intro v235 w50 ho51 hb hg_ hnew_
        clear hg_ hnew_
        (first | rw [← Ny234.out] at ho51 | (simp only [Int.reduceToNat] at ho51; rw [← Ny234.out] at ho51))
        have n0_ := Xa.mk (Kd.R_elder' (ro_ HO246) (Kd.R_base ho51) hb)
        have n1_ := Xa.mk (Kd.R_lower (Kd.R_newB (Kd.R_new' ho51 (Kd.R_lt (ro_ HO246))) (g := gb207) (o := .cells #[.int .i64 a1_0, .int .i64 a1_1, .int .i64 a1_2] 79 (0, 0)) (bk_ BK207)) (Xg (hb_ HB)))
        have n2_ := Xa.mk (Xu (g := gb207) (o := .cells #[.int .i64 a1_0, .int .i64 a1_1, .int .i64 a1_2] 79 (0, 0)) (bk_ BK207) hb)
        have n3_ := sb_ HB hb
        clear HO246
        clear BK207
        clear HB
        have HO246 := n0_
        have HO236 := n1_
        have BK207 := n2_
        have HB := n3_
        clear n0_ n1_ n2_ n3_
        clear hb ho51
        refine hK.out _ _ ⟨(Xe BK207.out 0).trans rfl, (Xe BK207.out 1).trans rfl, (Xe BK207.out 2).trans rfl⟩ (fun hHeld => ?_)
        clear hK K
        refine Yr (a' := ?_) ?_ ?_
        rotate_left
        ·show Act.put _ (some 33) _ = _
         simp only [Act.put, sa_, s0_, s1_, XR, XS]
         rfl
        refine one_ (i := 4) (N := some 37) #[tt, tt, tt, tt, tt, tt, tt, ff, tt, tt, tt, ff, ff] rfl rfl (Ys HT_.out (by kernel_rfl)) (by decide) (fun K hK => ?_)
        refine Kd.R_append_rows_step k79 (w0 := w) w.heap.size (by rfl) (.tmp 33) (.tmp 36) 62 79 (.agg #[(.int .i64 0), (.int .i64 0), (.int .i64 0)]) 24 rfl Try.underlying62 Xae rfl (by decide) (by omega) v235 y234 y237 _ _ _ (fun k_ => some k_ ≠ (v245 : Value).ownBlock ∧ k_ ≠ gb207) (fun _ => False) rfl rfl ?aO ?aR (fun _ _ h => h) (fun _ h => h.elim) ?aF ?aB ?aS ?aL ?_
        (case aR => repeat (first | exact (Kd.C_below HR240.out HB.out) | (with_reducible refine Kd.C_alloc ?_ _) | (with_reducible refine Kd.C_drewN ?_ _) | (with_reducible refine Kd.C_drew ?_)))
        (case aB => exact (hb_ HB))
        (case aF => exact (fun k_ hk => ⟨Kd.fresh' (Kd.R_lt (ro_ HO246)) k_ hk, Kd.freshB (g := gb207) (o := .cells #[.int .i64 a1_0, .int .i64 a1_1, .int .i64 a1_2] 79 (0, 0)) (bk_ BK207) k_ hk⟩))
        (case aO => exact (by (with_reducible repeat (first | apply Kd.R_alloc | apply Kd.R_drewN | apply Kd.R_drew)); exact Kd.R_mono HO236.out (fun _ hk => ⟨hk.1.2, hk.2⟩)))
        (case aS => exact (Xg (hb_ HB)))
        (case aL => have := LMc38.out; omega)
        intro v242 w52 ho hb hg hat
        rw [← Ny241.out] at ho
        have n0_ := Xa.mk (Yx (g := gb207) (o := .cells #[.int .i64 a1_0, .int .i64 a1_1, .int .i64 a1_2] 79 (0, 0)) (bk_ BK207) hg (Kd.R_away HO236.out (fun _ hk => hk.2)))
        have n1_ := Xa.mk (Kd.R_after (ok := (fun k_ => k_ ≠ gb207)) (by (with_reducible repeat (first | apply Kd.R_alloc | apply Kd.R_drewN | apply Kd.R_drew)); exact Kd.R_mono HO246.out (fun _ hk => ⟨hk.1.2, hk.2⟩)) hg hat)
        have n2_ := Xa.mk (hb)
        have n3_ := Xa.mk (ho)
        clear BK207
        clear HO246
        clear HB
        clear HO236
        have BK207 := n0_
        have HO246 := n1_
        have HB := n2_
        have HO243 := n3_
        clear n0_ n1_ n2_ n3_
        clear ho hb hg hat
        refine hK.out _ _ ⟨(Xe BK207.out 0).trans rfl, (Xe BK207.out 1).trans rfl, (Xe BK207.out 2).trans rfl⟩ (fun hHeld => ?_)
        clear hK K
        refine Yr (a' := ?_) ?_ ?_
        rotate_left
        ·show Act.put _ (some 37) _ = _
         simp only [Act.put, sa_, s0_, s1_, XR, XS]
         rfl
        exact Yr (by simp only [Xa9, Act.put, List.setIfInBounds_toArray, List.set_cons_zero, List.set_cons_succ]) (hCont (v235, v242, v245) _ ⟨hHeld, (ro_ HO243), (by (with_reducible repeat (first | apply Kd.R_alloc | apply Kd.R_drewN | apply Kd.R_drew)); exact Kd.R_mono HO246.out (fun _ hk => ⟨hk.2, hk.1⟩)), (bk_ BK207), (hb_ HB)⟩)
      rintro ⟨v235, v242, v245⟩ w53 ⟨hS_, h0_, h1_, h2_, h3_⟩
      have n0_ : Xa (Kd.R k79 79 w53 w.heap.size (fun k_ => some k_ ≠ (v245 : Value).ownBlock ∧ k_ ≠ gb207) v242 y241) := ⟨h0_⟩
      have n1_ : Xa (Kd.R k79 79 w53 w.heap.size (fun k_ => some k_ ≠ (v242 : Value).ownBlock ∧ k_ ≠ gb207) v245 y244) := ⟨h1_⟩
      have n2_ : Xa (w53.heap[gb207]? = some (.cells #[.int .i64 a1_0, .int .i64 a1_1, .int .i64 a1_2] 79 (0, 0))) := ⟨h2_⟩
      have n3_ : Xa (Below w.heap.size w w53) := ⟨h3_⟩
      clear BK207
      clear HB
      clear h0_ h1_ h2_ h3_
      have HO243 := n0_
      have HO246 := n1_
      have BK207 := n2_
      have HB := n3_
      clear n0_ n1_ n2_ n3_
      have hHeld : w53.cell? ⟨gb207, 0, none⟩ = some (.int .i64 a1_0) ∧ w53.cell? ⟨gb207, 1, none⟩ = some (.int .i64 a1_1) ∧ w53.cell? ⟨gb207, 2, none⟩ = some (.int .i64 a1_2) := hS_
      obtain ⟨Ao55, co55, eo55⟩ := Kd.R_slice HO246.out
      (first | subst eo55 | (injection eo55 with f1_ f2_ f3_; have f4_ := f1_.symm; have f5_ := f3_.symm; clear f1_ f2_ f3_; subst f4_; subst f5_))
      refine Yr (a' := ?_) ?_ ?_
      rotate_left
      ·simp only [Xa9, Act.put, List.setIfInBounds_toArray, List.set_cons_zero, List.set_cons_succ]
       rfl
      refine one_ (i := 7) (N := some 40) #[tt, tt, tt, tt, tt, tt, tt, tt, tt, tt, tt, ff, ff] rfl rfl (Ys HT_.out (by kernel_rfl)) (by decide) (fun K hK => ?_)
      refine Kd.R_append_rows_step k79 (w0 := w) w.heap.size (by rfl) (.tmp 37) (.tmp 39) 62 79 (.agg #[(.int .i64 0), (.int .i64 0), (.int .i64 0)]) 24 rfl Try.underlying62 Xae rfl (by decide) (by omega) v242 y241 y244 _ _ _ (fun k_ => some k_ ≠ (.slice Ao55 y244.length co55 : Value).ownBlock ∧ k_ ≠ gb207) (fun _ => False) rfl rfl ?aO ?aR (fun _ _ h => h) (fun _ h => h.elim) ?aF ?aB ?aS ?aL ?_
      (case aR => repeat (first | exact (Kd.R_reads' HO246.out).2.2 | (with_reducible refine Kd.C_alloc ?_ _) | (with_reducible refine Kd.C_drewN ?_ _) | (with_reducible refine Kd.C_drew ?_)))
      (case aB => exact (hb_ HB))
      (case aF => exact (fun k_ hk => ⟨Kd.fresh' (Kd.R_lt (ro_ HO246)) k_ hk, Kd.freshB (g := gb207) (o := .cells #[.int .i64 a1_0, .int .i64 a1_1, .int .i64 a1_2] 79 (0, 0)) (bk_ BK207) k_ hk⟩))
      (case aO => exact (ro_ HO243))
      (case aS => exact (Xg (hb_ HB)))
      (case aL => have := LMc39.out; omega)
      intro v248 w54 ho hb hg hat
      rw [← Ny247.out] at ho
      have n0_ := Xa.mk (Yx (g := gb207) (o := .cells #[.int .i64 a1_0, .int .i64 a1_1, .int .i64 a1_2] 79 (0, 0)) (bk_ BK207) hg (Kd.R_away HO243.out (fun _ hk => hk.2)))
      have n1_ := Xa.mk (Kd.R_after (ok := (fun k_ => k_ ≠ gb207)) (by (with_reducible repeat (first | apply Kd.R_alloc | apply Kd.R_drewN | apply Kd.R_drew)); exact Kd.R_mono HO246.out (fun _ hk => ⟨hk.2, hk.1⟩)) hg hat)
      have n2_ := Xa.mk (hb)
      have n3_ := Xa.mk (ho)
      clear BK207
      clear HO246
      clear HB
      clear HO243
      have BK207 := n0_
      have HO246 := n1_
      have HB := n2_
      have HO249 := n3_
      clear n0_ n1_ n2_ n3_
      clear ho hb hg hat
      refine hK.out _ _ ⟨(Xe BK207.out 0).trans rfl, (Xe BK207.out 1).trans rfl, (Xe BK207.out 2).trans rfl⟩ (fun hHeld => ?_)
      clear hK K
      refine Yr (a' := ?_) ?_ ?_
      rotate_left
      ·show Act.put _ (some 40) _ = _
       simp only [Act.put, sa_, s0_, s1_, XR, XS]
       rfl
      refine one_ (i := 11) (N := some 44) #[tt, tt, tt, tt, tt, tt, tt, tt, tt, tt, tt, tt, ff] rfl rfl (Ys HT_.out (by kernel_rfl)) (by decide) (fun K hK => ?_)
      refine Kd.R_append_rows_step k79 (w0 := w) w.heap.size (by rfl) (.tmp 40) (.tmp 43) 62 79 (.agg #[(.int .i64 0), (.int .i64 0), (.int .i64 0)]) 24 rfl Try.underlying62 Xae rfl (by decide) (by omega) v248 y247 y250 _ _ _ (fun k_ => some k_ ≠ (.slice Ao55 y244.length co55 : Value).ownBlock ∧ k_ ≠ gb207) (fun _ => False) rfl rfl ?aO ?aR (fun _ _ h => h) (fun _ h => h.elim) ?aF ?aB ?aS ?aL ?_
      (case aR => repeat (first | exact (Kd.C_below HR253.out HB.out) | (with_reducible refine Kd.C_alloc ?_ _) | (with_reducible refine Kd.C_drewN ?_ _) | (with_reducible refine Kd.C_drew ?_)))
      (case aB => exact (hb_ HB))
      (case aF => exact (fun k_ hk => ⟨Kd.fresh' (Kd.R_lt (ro_ HO246)) k_ hk, Kd.freshB (g := gb207) (o := .cells #[.int .i64 a1_0, .int .i64 a1_1, .int .i64 a1_2] 79 (0, 0)) (bk_ BK207) k_ hk⟩))
      (case aO => exact (ro_ HO249))
      (case aS => exact (Xg (hb_ HB)))
      (case aL => have := LMc42.out; omega)
      intro v255 w56 ho hb hg hat
      rw [← Ny254.out] at ho
      have n0_ := Xa.mk (Yx (g := gb207) (o := .cells #[.int .i64 a1_0, .int .i64 a1_1, .int .i64 a1_2] 79 (0, 0)) (bk_ BK207) hg (Kd.R_away HO249.out (fun _ hk => hk.2)))
      have n1_ := Xa.mk (Kd.R_after (ok := (fun k_ => k_ ≠ gb207)) (ro_ HO246) hg hat)
      have n2_ := Xa.mk (hb)
      have n3_ := Xa.mk (ho)
      clear BK207
      clear HO246
      clear HB
      clear HO249
      have BK207 := n0_
      have HO246 := n1_
      have HB := n2_
      have HO256 := n3_
      clear n0_ n1_ n2_ n3_
      clear ho hb hg hat
      refine hK.out _ _ ⟨(Xe BK207.out 0).trans rfl, (Xe BK207.out 1).trans rfl, (Xe BK207.out 2).trans rfl⟩ (fun hHeld => ?_)
      clear hK K
      refine Yr (a' := ?_) ?_ ?_
      rotate_left
      ·show Act.put _ (some 44) _ = _
       simp only [Act.put, sa_, s0_, s1_, XR, XS]
       rfl
      refine pu_ 12 4 HT_ ?_
      refine YS (Yo HT_.out (by kernel_rfl)) ?_
      try go_wp2
      go_ret
      exact ⟨_, by first | rfl | (simp [errW_none, errW_some] <;> rfl) | (simp [*, errW_none, errW_some] <;> rfl), by refine Kd.R_lower ?_ HBASE.out; (with_reducible repeat (first | apply Kd.R_alloc | apply Kd.R_drewN | apply Kd.R_drew)); exact Kd.R_mono HO256.out (fun _ hk => trivial), by repeat (first | (with_reducible first | exact HB.out | apply Xs | apply Xo | apply Xl | refine XC ?_ (Xa.out (by assumption))) | exact HB.out)⟩
     ·rw [if_neg c42] at H
      exact absurd H (by simp)
    ·rw [if_neg c39] at H
     exact absurd H (by simp)
   ·rw [if_neg c38] at H
    exact absurd H (by simp)
  ·rw [if_neg c37] at H
   exact absurd H (by simp)
 ·rw [if_neg c36] at H
  exact absurd H (by simp)
set_option maxHeartbeats 8000000 in
set_option maxRecDepth 100000 in
theorem Xm.calls_R {base : Nat} (k : Nat) (A0 : Option Addr) (c0 : Nat) (l0 : List (S79)) (a1_0 : Int) (a1_1 : Int) (a1_2 : Int) (r : List (S79)) (w : World) (hr : Kd.R k79 79 w base (fun _ => True) (.slice A0 l0.length c0) l0) (hbase : base ≤ w.heap.size) (h : Xm.f k l0 a1_0 a1_1 a1_2 = some r) :
  Calls Try.prog 71 #[.slice A0 l0.length c0, .agg #[.int .i64 a1_0, .int .i64 a1_1, .int .i64 a1_2]] w fun e w' => ∃ v0_ : Value, e = .returned (v0_) ∧ Kd.R k79 79 w' base (fun _ => True) v0_ r ∧ Below w.heap.size w w' := by
 have hu79 := Try.underlying79
 have hr0 := (Kd.R_reads' hr).2.2
 have hc0 := (Kd.R_reads' hr).2.1
 have HRB := Xa.mk hr
 have HBASE := Xa.mk hbase
 clear hr hbase
 have HR0 := Xa.mk hr0
 have HC0 := Xa.mk hc0
 clear hr0 hc0
 have HB := Xa.mk (Below.refl w.heap.size w)
 have H : (Xm.l0 k l0 0 a1_0 a1_1 a1_2) = some r := h
 clear h
 have H' := Xa.mk H
 clear H
 go_enter Try.func71, Try.ntmps71
 go_wp2_with (first | ((with_reducible refine Xz (N := 3) rfl ?_); refine XH ?hg (N := 3) ?hd (cs := #[.int .i64 a1_0, .int .i64 a1_1, .int .i64 a1_2]) (t := 79) ?hr ?_; (case hd => rfl); (case hg => rfl); (case hr => first | (go_simp; done) | (go_simp; rfl)); intro gb207 hg w3 hbox hb; have BK207 := Xa.mk (hbox); have GW207 := Xa.mk ((by rw [hg]; exact (Xg HB.out) : w.heap.size ≤ gb207)); have GE207 := GW207; replace HB := Xa.mk (Xi HB.out hb); clear hb hbox hg))
 go_loopg [5] k (fun kq v5 w' => ∃ (x5_1 : Int), v5 = .int .i64 x5_1 ∧ Xa (Xm.l0 kq l0 x5_1 a1_0 a1_1 a1_2 = some r) ∧ Xa (kq ≤ k) ∧ Xa (w'.heap[gb207]? = some (.cells #[.int .i64 a1_0, .int .i64 a1_1, .int .i64 a1_2] 79 (0, 0))) ∧ Xa (Below w.heap.size w w'))
 case atStart => exact ⟨(0), fx_, H', ⟨Nat.le_refl _⟩, BK207, ⟨hb_ HB⟩⟩
 case round => as_aux_lemma =>
  clear H'
  try clear p2
  obtain ⟨x5_1, rfl, HA, HK1, BK207, HB⟩ := hrel
  cases gk with
  | zero => exact absurd HA.out (by simp [Xm.l0])
  | succ k1 =>
   have H := HA.out
   clear HA
   simp only [Xm.l0] at H
   by_cases c4 : x5_1 < (l0.length : Int)
   ·rw [if_pos c4] at H
    have c4b0 : decide (x5_1 < (l0.length : Int)) = true := decide_eq_true c4
    clear c4
    by_cases c5 : 0 ≤ x5_1
    ·rw [if_pos c5] at H
     have c5b0 : decide (0 ≤ x5_1) = true := decide_eq_true c5
     clear c5
     replace H := Option.bind_eq_some_iff.mp H
     obtain ⟨t209, A60, H⟩ := H; (try dsimp only at H)
     have A6 := Xa.mk A60
     clear A60
     by_cases c7 : t209 = true
     ·subst c7
      have H1 : (Xm.l0 k1 l0 (wrap64 (x5_1 + 1)) a1_0 a1_1 a1_2) = some r := by rw [if_pos rfl] at H; exact H
      clear H
      have H := H1
      clear H1
      have H' := Xa.mk H
      clear H
      try go_wp2
      have n0_ := Xa.mk (X3 BK207.out)
      have n1_ := Xa.mk (Xl HB.out)
      clear BK207
      clear HB
      have BK207 := n0_
      have HB := n1_
      clear n0_ n1_
      have p208 : 0 ≤ (x5_1 : Int) := of_decide_eq_true ‹_›
      have q208 : x5_1 < (l0.length : Int) := of_decide_eq_true ‹_›
      obtain ⟨ad208, e208, hx208_0, hx208_1, hx208_2⟩ := Jx HR0.out x5_1 p208 q208
      have hw208_2 := hx208_2
      have hw208_1 := hx208_1
      have hw208_0 := hx208_0
      cases e208
      replace hx208_0 := bl_ HB hx208_0
      replace hx208_1 := bl_ HB hx208_1
      replace hx208_2 := bl_ HB hx208_2
      replace p208 := eq_true p208
      replace q208 := eq_true q208
      refine Yy (n := 12) (S := fun w' => w'.cell? ⟨gb207, 0, none⟩ = some (.int .i64 a1_0) ∧ w'.cell? ⟨gb207, 1, none⟩ = some (.int .i64 a1_1) ∧ w'.cell? ⟨gb207, 2, none⟩ = some (.int .i64 a1_2) ∧ w'.cell? (ad208.add ((x5_1).toNat * 3)) = some (.int .i64 ((Xn l0 x5_1).f0)) ∧ w'.cell? ⟨(ad208.add ((x5_1).toNat * 3)).block, (ad208.add ((x5_1).toNat * 3)).off + 1, none⟩ = some (.int .i64 ((Xn l0 x5_1).f1)) ∧ w'.cell? ⟨(ad208.add ((x5_1).toNat * 3)).block, (ad208.add ((x5_1).toNat * 3)).off + 2, none⟩ = some (.int .i64 ((Xn l0 x5_1).f2))) (ds := []) #[ff, ff, ff, ff, ff, ff, ff, ff, ff, ff, ff, ff] (by kernel_rfl) rfl rfl ⟨(Xe BK207.out 0).trans rfl, (Xe BK207.out 1).trans rfl, (Xe BK207.out 2).trans rfl, ((HB.out.cell (World.block_lt_of_cell? w _ hw208_0)).trans hw208_0), ((HB.out.cell (World.block_lt_of_cell? w _ hw208_1)).trans hw208_1), ((HB.out.cell (World.block_lt_of_cell? w _ hw208_2)).trans hw208_2)⟩ (fun hHeld => ?_); refine X9 Xm.tab2 Xm.bits2 (fun HT_ HW_ => ?_)
      generalize wr.drew = w8 at BK207 HB hx208_0 hx208_1 hx208_2 hHeld ⊢
      refine pu_ 0 6 HT_ ?_
      refine pu_ 1 7 HT_ ?_
      refine pu_ 2 8 HT_ ?_
      refine pu_ 3 9 HT_ ?_
      refine pu_ 4 10 HT_ ?_
      refine pu_ 5 11 HT_ ?_
      refine pu_ 6 12 HT_ ?_
      refine pu_ 7 13 HT_ ?_
      refine tw_ 8 14 HT_ HW_ hHeld ?_
      refine tw_ 9 15 HT_ HW_ hHeld ?_
      refine one_ (i := 10) (N := some 16) #[tt, tt, tt, tt, tt, tt, tt, tt, tt, tt, tt, ff] rfl rfl (Ys HT_.out (by kernel_rfl)) (by decide) (fun K hK => ?_)
      refine Y8 Try.func96 (by kernel_rfl) rfl #[.agg #[.int .i64 ((Xn l0 x5_1).f0), .int .i64 ((Xn l0 x5_1).f1), .int .i64 ((Xn l0 x5_1).f2)], .agg #[.int .i64 a1_0, .int .i64 a1_1, .int .i64 a1_2]] (by rfl) rfl rfl (by (try simp only [List.map_toArray, List.map_cons, List.map_nil]); first | done | rfl | (simp only [List.length_drop, List.length_take]; rfl)) ?_
      with_reducible refine (Yn.calls ((Xn l0 x5_1).f0) ((Xn l0 x5_1).f1) ((Xn l0 x5_1).f2) a1_0 a1_1 a1_2 true _ A6.out).mono ?_
      rintro e w9 ⟨rfl, hb⟩
      refine ⟨_, rfl, ?_⟩
      have n0_ := Xa.mk (Xu (g := gb207) (o := .cells #[.int .i64 a1_0, .int .i64 a1_1, .int .i64 a1_2] 79 (0, 0)) (bk_ BK207) hb)
      have n1_ := sb_ HB hb
      clear BK207
      clear HB
      have BK207 := n0_
      have HB := n1_
      clear n0_ n1_
      (try clear hb)
      (try clear hb2)
      (try clear hk)
      (try clear hi)
      refine hK.out _ _ ⟨(Xe BK207.out 0).trans rfl, (Xe BK207.out 1).trans rfl, (Xe BK207.out 2).trans rfl, ((HB.out.cell (World.block_lt_of_cell? w _ hw208_0)).trans hw208_0), ((HB.out.cell (World.block_lt_of_cell? w _ hw208_1)).trans hw208_1), ((HB.out.cell (World.block_lt_of_cell? w _ hw208_2)).trans hw208_2)⟩ (fun hHeld => ?_)
      clear hK K
      refine Yr (a' := ?_) ?_ ?_
      rotate_left
      ·show Act.put _ (some 16) _ = _
       simp only [Act.put, sa_, s0_, s1_, XR, XS]
       rfl
      refine pu_ 11 17 HT_ ?_
      refine YS (Yo HT_.out (by kernel_rfl)) ?_
      try go_wp2
      go_roundg k1
      case measure => have := HK1.out; omega
      case rel => exact ⟨(wrap64 (x5_1 + 1)), fx_, H', ⟨by have := HK1.out; omega⟩, BK207, ⟨hb_ HB⟩⟩
     ·replace c7 := Bool.eq_false_iff.mpr c7
      subst c7
      have H1 : (if (((Xn l0 x5_1).f0) == a1_0 && (((Xn l0 x5_1).f1) == a1_1 && (((Xn l0 x5_1).f2) == a1_2))) = true then (some l0) else ((some (([] : List (S79)) : List (S79))).bind fun y211 => (if x5_1 ≤ (l0.length : Int) then ((some (l0.take (x5_1 : Int).toNat : List (S79))).bind fun y214 => (if y211.length + y214.length < 5864062014805 then ((some (y211 ++ y214 : List (S79))).bind fun y218 => ((some (([(⟨a1_0, a1_1, a1_2⟩ : S79)] : List (S79)) : List (S79))).bind fun y221 => (if y218.length + y221.length < 5864062014805 then ((some (y218 ++ y221 : List (S79))).bind fun y224 => ((some (l0.drop (x5_1 : Int).toNat : List (S79))).bind fun y227 => (if y224.length + y227.length < 5864062014805 then (some (y224 ++ y227)) else (none)))) else (none)))) else (none))) else (none)))) = some r := by rw [if_neg (show ¬ (false = true) by decide)] at H; exact H
      clear H
      have H := H1
      clear H1
      by_cases c10 : (((Xn l0 x5_1).f0) == a1_0 && (((Xn l0 x5_1).f1) == a1_1 && (((Xn l0 x5_1).f2) == a1_2))) = true
      ·rw [if_pos c10] at H
       have c10b0 : (((Xn l0 x5_1).f0) == a1_0 && (((Xn l0 x5_1).f1) == a1_1 && (((Xn l0 x5_1).f2) == a1_2))) = true := c10
       (try (have c10b1 : decide (((Xn l0 x5_1).f0) = a1_0 && (((Xn l0 x5_1).f1) == a1_1 && (((Xn l0 x5_1).f2) == a1_2))) = true := by simpa using c10))
       (try (have c10b2 : (((Xn l0 x5_1).f0) == a1_0 && (((Xn l0 x5_1).f1) == a1_1 && (((Xn l0 x5_1).f2) == a1_2))) = true := by simpa using c10))
       clear c10
       obtain rfl := Option.some.inj H
       try go_wp2
       have n0_ := Xa.mk (X3 BK207.out)
       have n1_ := Xa.mk (Xl HB.out)
       clear BK207
       clear HB
       have BK207 := n0_
       have HB := n1_
       clear n0_ n1_
       have p208 : 0 ≤ (x5_1 : Int) := of_decide_eq_true ‹_›
       have q208 : x5_1 < (l0.length : Int) := of_decide_eq_true ‹_›
       obtain ⟨ad208, e208, hx208_0, hx208_1, hx208_2⟩ := Jx HR0.out x5_1 p208 q208
       have hw208_2 := hx208_2
       have hw208_1 := hx208_1
       have hw208_0 := hx208_0
       cases e208
       replace hx208_0 := bl_ HB hx208_0
       replace hx208_1 := bl_ HB hx208_1
       replace hx208_2 := bl_ HB hx208_2
       replace p208 := eq_true p208
       replace q208 := eq_true q208
       refine Yy (n := 12) (S := fun w' => w'.cell? ⟨gb207, 0, none⟩ = some (.int .i64 a1_0) ∧ w'.cell? ⟨gb207, 1, none⟩ = some (.int .i64 a1_1) ∧ w'.cell? ⟨gb207, 2, none⟩ = some (.int .i64 a1_2) ∧ w'.cell? (ad208.add ((x5_1).toNat * 3)) = some (.int .i64 ((Xn l0 x5_1).f0)) ∧ w'.cell? ⟨(ad208.add ((x5_1).toNat * 3)).block, (ad208.add ((x5_1).toNat * 3)).off + 1, none⟩ = some (.int .i64 ((Xn l0 x5_1).f1)) ∧ w'.cell? ⟨(ad208.add ((x5_1).toNat * 3)).block, (ad208.add ((x5_1).toNat * 3)).off + 2, none⟩ = some (.int .i64 ((Xn l0 x5_1).f2))) (ds := []) #[ff, ff, ff, ff, ff, ff, ff, ff, ff, ff, ff, ff] (by kernel_rfl) rfl rfl ⟨(Xe BK207.out 0).trans rfl, (Xe BK207.out 1).trans rfl, (Xe BK207.out 2).trans rfl, ((HB.out.cell (World.block_lt_of_cell? w _ hw208_0)).trans hw208_0), ((HB.out.cell (World.block_lt_of_cell? w _ hw208_1)).trans hw208_1), ((HB.out.cell (World.block_lt_of_cell? w _ hw208_2)).trans hw208_2)⟩ (fun hHeld => ?_); refine X9 Xm.tab2 Xm.bits2 (fun HT_ HW_ => ?_)
       generalize wr.drew = w11 at BK207 HB hx208_0 hx208_1 hx208_2 hHeld ⊢
       refine pu_ 0 6 HT_ ?_
       refine pu_ 1 7 HT_ ?_
       refine pu_ 2 8 HT_ ?_
       refine pu_ 3 9 HT_ ?_
       refine pu_ 4 10 HT_ ?_
       refine pu_ 5 11 HT_ ?_
       refine pu_ 6 12 HT_ ?_
       refine pu_ 7 13 HT_ ?_
       refine tw_ 8 14 HT_ HW_ hHeld ?_
       refine tw_ 9 15 HT_ HW_ hHeld ?_
       refine one_ (i := 10) (N := some 16) #[tt, tt, tt, tt, tt, tt, tt, tt, tt, tt, tt, ff] rfl rfl (Ys HT_.out (by kernel_rfl)) (by decide) (fun K hK => ?_)
       refine Y8 Try.func96 (by kernel_rfl) rfl #[.agg #[.int .i64 ((Xn l0 x5_1).f0), .int .i64 ((Xn l0 x5_1).f1), .int .i64 ((Xn l0 x5_1).f2)], .agg #[.int .i64 a1_0, .int .i64 a1_1, .int .i64 a1_2]] (by rfl) rfl rfl (by (try simp only [List.map_toArray, List.map_cons, List.map_nil]); first | done | rfl | (simp only [List.length_drop, List.length_take]; rfl)) ?_
       with_reducible refine (Yn.calls ((Xn l0 x5_1).f0) ((Xn l0 x5_1).f1) ((Xn l0 x5_1).f2) a1_0 a1_1 a1_2 false _ A6.out).mono ?_
       rintro e w12 ⟨rfl, hb⟩
       refine ⟨_, rfl, ?_⟩
       have n0_ := Xa.mk (Xu (g := gb207) (o := .cells #[.int .i64 a1_0, .int .i64 a1_1, .int .i64 a1_2] 79 (0, 0)) (bk_ BK207) hb)
       have n1_ := sb_ HB hb
       clear BK207
       clear HB
       have BK207 := n0_
       have HB := n1_
       clear n0_ n1_
       (try clear hb)
       (try clear hb2)
       (try clear hk)
       (try clear hi)
       refine hK.out _ _ ⟨(Xe BK207.out 0).trans rfl, (Xe BK207.out 1).trans rfl, (Xe BK207.out 2).trans rfl, ((HB.out.cell (World.block_lt_of_cell? w _ hw208_0)).trans hw208_0), ((HB.out.cell (World.block_lt_of_cell? w _ hw208_1)).trans hw208_1), ((HB.out.cell (World.block_lt_of_cell? w _ hw208_2)).trans hw208_2)⟩ (fun hHeld => ?_)
       clear hK K
       refine Yr (a' := ?_) ?_ ?_
       rotate_left
       ·show Act.put _ (some 16) _ = _
        simp only [Act.put, sa_, s0_, s1_, XR, XS]
        rfl
       refine pu_ 11 17 HT_ ?_
       refine YS (Yo HT_.out (by kernel_rfl)) ?_
       try go_wp2
       have n0_ := Xa.mk (X3 BK207.out)
       have n1_ := Xa.mk (Xl HB.out)
       clear BK207
       clear HB
       have BK207 := n0_
       have HB := n1_
       clear n0_ n1_
       have p210 : 0 ≤ (x5_1 : Int) := of_decide_eq_true ‹_›
       have q210 : x5_1 < (l0.length : Int) := of_decide_eq_true ‹_›
       obtain ⟨ad210, e210, hx210_0, hx210_1, hx210_2⟩ := Jx HR0.out x5_1 p210 q210
       have hw210_2 := hx210_2
       have hw210_1 := hx210_1
       have hw210_0 := hx210_0
       obtain rfl : ad208 = ad210 := (by injection e210)
       replace hx210_0 := bl_ HB hx210_0
       replace hx210_1 := bl_ HB hx210_1
       replace hx210_2 := bl_ HB hx210_2
       replace p210 := eq_true p210
       replace q210 := eq_true q210
       refine Yy (n := 12) (S := fun w' => w'.cell? ⟨gb207, 0, none⟩ = some (.int .i64 a1_0) ∧ w'.cell? ⟨gb207, 1, none⟩ = some (.int .i64 a1_1) ∧ w'.cell? ⟨gb207, 2, none⟩ = some (.int .i64 a1_2) ∧ w'.cell? (ad208.add ((x5_1).toNat * 3)) = some (.int .i64 ((Xn l0 x5_1).f0)) ∧ w'.cell? ⟨(ad208.add ((x5_1).toNat * 3)).block, (ad208.add ((x5_1).toNat * 3)).off + 1, none⟩ = some (.int .i64 ((Xn l0 x5_1).f1)) ∧ w'.cell? ⟨(ad208.add ((x5_1).toNat * 3)).block, (ad208.add ((x5_1).toNat * 3)).off + 2, none⟩ = some (.int .i64 ((Xn l0 x5_1).f2))) (ds := []) #[ff, ff, ff, ff, ff, ff, ff, ff, ff, ff, ff, ff] (by kernel_rfl) rfl rfl ⟨(Xe BK207.out 0).trans rfl, (Xe BK207.out 1).trans rfl, (Xe BK207.out 2).trans rfl, ((HB.out.cell (World.block_lt_of_cell? w _ hw210_0)).trans hw210_0), ((HB.out.cell (World.block_lt_of_cell? w _ hw210_1)).trans hw210_1), ((HB.out.cell (World.block_lt_of_cell? w _ hw210_2)).trans hw210_2)⟩ (fun hHeld => ?_); refine X9 Xm.tab4 Xm.bits4 (fun HT_ HW_ => ?_)
       generalize w12.drew = w13 at BK207 HB hx210_0 hx210_1 hx210_2 hHeld ⊢
       refine pu_ 0 20 HT_ ?_
       refine pu_ 1 21 HT_ ?_
       refine pu_ 2 22 HT_ ?_
       refine pu_ 3 23 HT_ ?_
       refine pu_ 4 24 HT_ ?_
       refine pu_ 5 25 HT_ ?_
       refine pu_ 6 26 HT_ ?_
       refine pu_ 7 27 HT_ ?_
       refine tw_ 8 28 HT_ HW_ hHeld ?_
       refine tw_ 9 29 HT_ HW_ hHeld ?_
       refine pu_ 10 30 HT_ ?_
       refine pu_ 11 31 HT_ ?_
       refine YS (Yo HT_.out (by kernel_rfl)) ?_
       try go_wp2
       go_ret
       exact ⟨_, rfl, Kd.R_below HRB.out (hb_ HB), (hb_ HB)⟩
      ·rw [if_neg c10] at H
       have c10b0 : (((Xn l0 x5_1).f0) == a1_0 && (((Xn l0 x5_1).f1) == a1_1 && (((Xn l0 x5_1).f2) == a1_2))) = false := by simpa using c10
       (try (have c10b1 : decide (((Xn l0 x5_1).f0) = a1_0 && (((Xn l0 x5_1).f1) == a1_1 && (((Xn l0 x5_1).f2) == a1_2))) = false := by simpa using c10))
       (try (have c10b2 : (((Xn l0 x5_1).f0) == a1_0 && (((Xn l0 x5_1).f1) == a1_1 && (((Xn l0 x5_1).f2) == a1_2))) = false := by simpa using c10))
       (try (have c10b3 : ¬ (((Xn l0 x5_1).f0) = a1_0 && (((Xn l0 x5_1).f1) == a1_1 && (((Xn l0 x5_1).f2) == a1_2))) := by simpa using c10))
       clear c10
       obtain ⟨y211, hy211⟩ : ∃ y_ : List (S79), y_ = (([] : List (S79))) := ⟨_, rfl⟩
       replace H : (if x5_1 ≤ (l0.length : Int) then ((some (l0.take (x5_1 : Int).toNat : List (S79))).bind fun y214 => (if y211.length + y214.length < 5864062014805 then ((some (y211 ++ y214 : List (S79))).bind fun y218 => ((some (([(⟨a1_0, a1_1, a1_2⟩ : S79)] : List (S79)) : List (S79))).bind fun y221 => (if y218.length + y221.length < 5864062014805 then ((some (y218 ++ y221 : List (S79))).bind fun y224 => ((some (l0.drop (x5_1 : Int).toNat : List (S79))).bind fun y227 => (if y224.length + y227.length < 5864062014805 then (some (y224 ++ y227)) else (none)))) else (none)))) else (none))) else (none)) = some r := by first | (rw [hy211]; with_reducible exact H) | (have H2_ := (Option.bind_some _ _).symm.trans H; rw [hy211]; with_reducible exact H2_) | (have H2_ := (Option.bind_some _ _).symm.trans H; with_reducible exact H2_) | with_reducible exact H | (rw [hy211]; exact H) | exact H
       have Ny211 := Xa.mk hy211
       clear hy211
       have c14b0 := eq_true (of_decide_eq_true ‹_› : 0 ≤ x5_1)
       have HTL := Xa.mk (show (if 0 ≤ x5_1 then _ else none) = some r from (if_pos (of_eq_true c14b0)).trans H)
       clear H
       try go_wp2
       have n0_ := Xa.mk (X3 BK207.out)
       have n1_ := Xa.mk (Xl HB.out)
       clear BK207
       clear HB
       have BK207 := n0_
       have HB := n1_
       clear n0_ n1_
       have p208 : 0 ≤ (x5_1 : Int) := of_decide_eq_true ‹_›
       have q208 : x5_1 < (l0.length : Int) := of_decide_eq_true ‹_›
       obtain ⟨ad208, e208, hx208_0, hx208_1, hx208_2⟩ := Jx HR0.out x5_1 p208 q208
       have hw208_2 := hx208_2
       have hw208_1 := hx208_1
       have hw208_0 := hx208_0
       cases e208
       replace hx208_0 := bl_ HB hx208_0
       replace hx208_1 := bl_ HB hx208_1
       replace hx208_2 := bl_ HB hx208_2
       replace p208 := eq_true p208
       replace q208 := eq_true q208
       refine Yy (n := 12) (S := fun w' => w'.cell? ⟨gb207, 0, none⟩ = some (.int .i64 a1_0) ∧ w'.cell? ⟨gb207, 1, none⟩ = some (.int .i64 a1_1) ∧ w'.cell? ⟨gb207, 2, none⟩ = some (.int .i64 a1_2) ∧ w'.cell? (ad208.add ((x5_1).toNat * 3)) = some (.int .i64 ((Xn l0 x5_1).f0)) ∧ w'.cell? ⟨(ad208.add ((x5_1).toNat * 3)).block, (ad208.add ((x5_1).toNat * 3)).off + 1, none⟩ = some (.int .i64 ((Xn l0 x5_1).f1)) ∧ w'.cell? ⟨(ad208.add ((x5_1).toNat * 3)).block, (ad208.add ((x5_1).toNat * 3)).off + 2, none⟩ = some (.int .i64 ((Xn l0 x5_1).f2))) (ds := []) #[ff, ff, ff, ff, ff, ff, ff, ff, ff, ff, ff, ff] (by kernel_rfl) rfl rfl ⟨(Xe BK207.out 0).trans rfl, (Xe BK207.out 1).trans rfl, (Xe BK207.out 2).trans rfl, ((HB.out.cell (World.block_lt_of_cell? w _ hw208_0)).trans hw208_0), ((HB.out.cell (World.block_lt_of_cell? w _ hw208_1)).trans hw208_1), ((HB.out.cell (World.block_lt_of_cell? w _ hw208_2)).trans hw208_2)⟩ (fun hHeld => ?_); refine X9 Xm.tab2 Xm.bits2 (fun HT_ HW_ => ?_)
       generalize wr.drew = w21 at BK207 HB hx208_0 hx208_1 hx208_2 hHeld ⊢
       refine pu_ 0 6 HT_ ?_
       refine pu_ 1 7 HT_ ?_
       refine pu_ 2 8 HT_ ?_
       refine pu_ 3 9 HT_ ?_
       refine pu_ 4 10 HT_ ?_
       refine pu_ 5 11 HT_ ?_
       refine pu_ 6 12 HT_ ?_
       refine pu_ 7 13 HT_ ?_
       refine tw_ 8 14 HT_ HW_ hHeld ?_
       refine tw_ 9 15 HT_ HW_ hHeld ?_
       refine one_ (i := 10) (N := some 16) #[tt, tt, tt, tt, tt, tt, tt, tt, tt, tt, tt, ff] rfl rfl (Ys HT_.out (by kernel_rfl)) (by decide) (fun K hK => ?_)
       refine Y8 Try.func96 (by kernel_rfl) rfl #[.agg #[.int .i64 ((Xn l0 x5_1).f0), .int .i64 ((Xn l0 x5_1).f1), .int .i64 ((Xn l0 x5_1).f2)], .agg #[.int .i64 a1_0, .int .i64 a1_1, .int .i64 a1_2]] (by rfl) rfl rfl (by (try simp only [List.map_toArray, List.map_cons, List.map_nil]); first | done | rfl | (simp only [List.length_drop, List.length_take]; rfl)) ?_
       with_reducible refine (Yn.calls ((Xn l0 x5_1).f0) ((Xn l0 x5_1).f1) ((Xn l0 x5_1).f2) a1_0 a1_1 a1_2 false _ A6.out).mono ?_
       rintro e w22 ⟨rfl, hb⟩
       refine ⟨_, rfl, ?_⟩
       have n0_ := Xa.mk (Xu (g := gb207) (o := .cells #[.int .i64 a1_0, .int .i64 a1_1, .int .i64 a1_2] 79 (0, 0)) (bk_ BK207) hb)
       have n1_ := sb_ HB hb
       clear BK207
       clear HB
       have BK207 := n0_
       have HB := n1_
       clear n0_ n1_
       (try clear hb)
       (try clear hb2)
       (try clear hk)
       (try clear hi)
       refine hK.out _ _ ⟨(Xe BK207.out 0).trans rfl, (Xe BK207.out 1).trans rfl, (Xe BK207.out 2).trans rfl, ((HB.out.cell (World.block_lt_of_cell? w _ hw208_0)).trans hw208_0), ((HB.out.cell (World.block_lt_of_cell? w _ hw208_1)).trans hw208_1), ((HB.out.cell (World.block_lt_of_cell? w _ hw208_2)).trans hw208_2)⟩ (fun hHeld => ?_)
       clear hK K
       refine Yr (a' := ?_) ?_ ?_
       rotate_left
       ·show Act.put _ (some 16) _ = _
        simp only [Act.put, sa_, s0_, s1_, XR, XS]
        rfl
       refine pu_ 11 17 HT_ ?_
       refine YS (Yo HT_.out (by kernel_rfl)) ?_
       try go_wp2
       have n0_ := Xa.mk (X3 BK207.out)
       have n1_ := Xa.mk (Xl HB.out)
       clear BK207
       clear HB
       have BK207 := n0_
       have HB := n1_
       clear n0_ n1_
       have p210 : 0 ≤ (x5_1 : Int) := of_decide_eq_true ‹_›
       have q210 : x5_1 < (l0.length : Int) := of_decide_eq_true ‹_›
       obtain ⟨ad210, e210, hx210_0, hx210_1, hx210_2⟩ := Jx HR0.out x5_1 p210 q210
       have hw210_2 := hx210_2
       have hw210_1 := hx210_1
       have hw210_0 := hx210_0
       obtain rfl : ad208 = ad210 := (by injection e210)
       replace hx210_0 := bl_ HB hx210_0
       replace hx210_1 := bl_ HB hx210_1
       replace hx210_2 := bl_ HB hx210_2
       replace p210 := eq_true p210
       replace q210 := eq_true q210
       refine Yy (n := 12) (S := fun w' => w'.cell? ⟨gb207, 0, none⟩ = some (.int .i64 a1_0) ∧ w'.cell? ⟨gb207, 1, none⟩ = some (.int .i64 a1_1) ∧ w'.cell? ⟨gb207, 2, none⟩ = some (.int .i64 a1_2) ∧ w'.cell? (ad208.add ((x5_1).toNat * 3)) = some (.int .i64 ((Xn l0 x5_1).f0)) ∧ w'.cell? ⟨(ad208.add ((x5_1).toNat * 3)).block, (ad208.add ((x5_1).toNat * 3)).off + 1, none⟩ = some (.int .i64 ((Xn l0 x5_1).f1)) ∧ w'.cell? ⟨(ad208.add ((x5_1).toNat * 3)).block, (ad208.add ((x5_1).toNat * 3)).off + 2, none⟩ = some (.int .i64 ((Xn l0 x5_1).f2))) (ds := []) #[ff, ff, ff, ff, ff, ff, ff, ff, ff, ff, ff, ff] (by kernel_rfl) rfl rfl ⟨(Xe BK207.out 0).trans rfl, (Xe BK207.out 1).trans rfl, (Xe BK207.out 2).trans rfl, ((HB.out.cell (World.block_lt_of_cell? w _ hw210_0)).trans hw210_0), ((HB.out.cell (World.block_lt_of_cell? w _ hw210_1)).trans hw210_1), ((HB.out.cell (World.block_lt_of_cell? w _ hw210_2)).trans hw210_2)⟩ (fun hHeld => ?_); refine X9 Xm.tab4 Xm.bits4 (fun HT_ HW_ => ?_)
       generalize w22.drew = w23 at BK207 HB hx210_0 hx210_1 hx210_2 hHeld ⊢
       refine pu_ 0 20 HT_ ?_
       refine pu_ 1 21 HT_ ?_
       refine pu_ 2 22 HT_ ?_
       refine pu_ 3 23 HT_ ?_
       refine pu_ 4 24 HT_ ?_
       refine pu_ 5 25 HT_ ?_
       refine pu_ 6 26 HT_ ?_
       refine pu_ 7 27 HT_ ?_
       refine tw_ 8 28 HT_ HW_ hHeld ?_
       refine tw_ 9 29 HT_ HW_ hHeld ?_
       refine pu_ 10 30 HT_ ?_
       refine pu_ 11 31 HT_ ?_
       refine YS (Yo HT_.out (by kernel_rfl)) ?_
       go_upto_region 6 with fail
       exact Xm.tail (some ad208) c0 l0 a1_0 a1_1 a1_2 r w _ gb207 x5_1 y211 HR0 HC0 HBASE Ny211 HTL.out BK207 HB _ (by assumption)
    ·rw [if_neg c5] at H
     exact absurd H (by simp)
   ·rw [if_neg c4] at H
    have c4b0 : decide (x5_1 < (l0.length : Int)) = false := decide_eq_false c4
    clear c4
    obtain ⟨y234, hy234⟩ : ∃ y_ : List (S79), y_ = (([] : List (S79))) := ⟨_, rfl⟩
    replace H : (if 0 ≤ x5_1 then (if x5_1 ≤ (l0.length : Int) then ((some (l0.take (x5_1 : Int).toNat : List (S79))).bind fun y237 => (if y234.length + y237.length < 5864062014805 then ((some (y234 ++ y237 : List (S79))).bind fun y241 => ((some (([(⟨a1_0, a1_1, a1_2⟩ : S79)] : List (S79)) : List (S79))).bind fun y244 => (if y241.length + y244.length < 5864062014805 then ((some (y241 ++ y244 : List (S79))).bind fun y247 => ((some (l0.drop (x5_1 : Int).toNat : List (S79))).bind fun y250 => (if y247.length + y250.length < 5864062014805 then (some (y247 ++ y250)) else (none)))) else (none)))) else (none))) else (none)) else (none)) = some r := by first | (rw [hy234]; with_reducible exact H) | (have H2_ := (Option.bind_some _ _).symm.trans H; rw [hy234]; with_reducible exact H2_) | (have H2_ := (Option.bind_some _ _).symm.trans H; with_reducible exact H2_) | with_reducible exact H | (rw [hy234]; exact H) | exact H
    have Ny234 := Xa.mk hy234
    clear hy234
    have HTL := Xa.mk H
    clear H
    try go_wp2
    have n0_ := Xa.mk (X3 BK207.out)
    have n1_ := Xa.mk (Xl HB.out)
    clear BK207
    clear HB
    have BK207 := n0_
    have HB := n1_
    clear n0_ n1_
    refine Yy (n := 12) (S := fun w' => True) (ds := []) #[ff, ff, ff, ff, ff, ff, ff, ff, ff, ff, ff, ff] (by kernel_rfl) rfl rfl trivial (fun hHeld => ?_); refine X9 Xm.tab2 Xm.bits2 (fun HT_ HW_ => ?_)
    generalize wr.drew = w43 at BK207 HB hHeld ⊢
    refine pu_ 0 6 HT_ ?_
    refine pu_ 1 7 HT_ ?_
    refine pu_ 2 8 HT_ ?_
    refine pu_ 3 9 HT_ ?_
    refine pu_ 4 10 HT_ ?_
    refine po_ 5 11 HT_ ?_
    refine po_ 6 12 HT_ ?_
    refine po_ 7 13 HT_ ?_
    refine po_ 8 14 HT_ ?_
    refine po_ 9 15 HT_ ?_
    refine po_ 10 16 HT_ ?_
    refine pu_ 11 17 HT_ ?_
    refine YS (Yo HT_.out (by kernel_rfl)) ?_
    try go_wp2
    have n0_ := Xa.mk (X3 BK207.out)
    have n1_ := Xa.mk (Xl HB.out)
    clear BK207
    clear HB
    have BK207 := n0_
    have HB := n1_
    clear n0_ n1_
    refine Yy (n := 12) (S := fun w' => True) (ds := []) #[ff, ff, ff, ff, ff, ff, ff, ff, ff, ff, ff, ff] (by kernel_rfl) rfl rfl trivial (fun hHeld => ?_); refine X9 Xm.tab4 Xm.bits4 (fun HT_ HW_ => ?_)
    generalize w43.drew = w44 at BK207 HB hHeld ⊢
    refine pu_ 0 20 HT_ ?_
    refine pu_ 1 21 HT_ ?_
    refine pu_ 2 22 HT_ ?_
    refine pu_ 3 23 HT_ ?_
    refine pu_ 4 24 HT_ ?_
    refine po_ 5 25 HT_ ?_
    refine po_ 6 26 HT_ ?_
    refine po_ 7 27 HT_ ?_
    refine po_ 8 28 HT_ ?_
    refine po_ 9 29 HT_ ?_
    refine po_ 10 30 HT_ ?_
    refine pu_ 11 31 HT_ ?_
    refine YS (Yo HT_.out (by kernel_rfl)) ?_
    go_upto_region 6 with fail
    exact Xm.tail A0 c0 l0 a1_0 a1_1 a1_2 r w _ gb207 x5_1 y234 HR0 HC0 HBASE Ny234 HTL.out BK207 HB _ (by assumption)

end Go.Proofs.Ytiaiecfnpompcaa.T
namespace Go.Proofs.Ytiaiecfnpompcaa.T
open Go.RowKit Go.Proofs.YtiaiecfnpompcaaW.PrintWords Go.Proofs.YtiaiecfnpompcaaW.PrintLast Go.Proofs.YtiaiecfnpompcaaW.PrintMore
attribute [local go_sem] XX XW X6 X5 XQ XP X0 XZ
set_option linter.unusedVariables false
set_option linter.unusedSimpArgs false
attribute [local go_sem] XO

mutual
def Xd.j0 : Nat → List (S144) → Bool → Int → Int → Int → Option ((List (S79)) × Int)
 | 0, _, _, _, _, _ => none
 | k + 1, x0, x29, x258000, x258001, x258002 => if x29 = true then (some (([] : List (S79)), 2)) else (Xd.l0 k x0 (([] : List (S79))) 0 0 x258000 x258001 x258002)
def Xd.l0 : Nat → List (S144) → List (S79) → Int → Int → Int → Int → Int → Option ((List (S79)) × Int)
 | 0, _, _, _, _, _, _, _ => none
 | k + 1, x0, x6, x7, x8, x258000, x258001, x258002 => if x8 < (x0.length : Int) then (if 0 ≤ x8 then (if ((Xc x0 x8).f0) = x258000 then (Xd.j2 k x0 x6 x7 x8 (mx ((Xc x0 x8).f1) x258001) (mn ((Xc x0 x8).f2) x258002) (decide ((mx ((Xc x0 x8).f1) x258001) > (mn ((Xc x0 x8).f2) x258002))) x258000 x258001 x258002) else (Xd.j2 k x0 x6 x7 x8 (mx ((Xc x0 x8).f1) x258001) (mn ((Xc x0 x8).f2) x258002) true x258000 x258001 x258002)) else (none)) else (if (wrap64 ((x6.length : Int) + x7)) > 1000 then (some (([] : List (S79)), 5)) else (Xd.l1 k x0 x6 x7 x258001 x258000 x258001 x258002))
def Xd.j2 : Nat → List (S144) → List (S79) → Int → Int → Int → Int → Bool → Int → Int → Int → Option ((List (S79)) × Int)
 | 0, _, _, _, _, _, _, _, _, _, _ => none
 | k + 1, x0, x6, x7, x8, x9, x10, x65, x258000, x258001, x258002 => if x65 = true then (Xd.l0 k x0 x6 x7 (wrap64 (x8 + 1)) x258000 x258001 x258002) else (if 0 ≤ x8 then (if x8 < (x0.length : Int) then ((Xm.f k x6 1 0 ((Xc x0 x8).f3)).bind fun t267 => ((Xm.f k t267 2 0 ((Xc x0 x8).f4)).bind fun t271 => (Xd.l0 k x0 t271 (wrap64 (x7 + (wrap64 ((wrap64 (x10 - x9)) + 1)))) (wrap64 (x8 + 1)) x258000 x258001 x258002))) else (none)) else (none))
def Xd.l1 : Nat → List (S144) → List (S79) → Int → Int → Int → Int → Int → Option ((List (S79)) × Int)
 | 0, _, _, _, _, _, _, _ => none
 | k + 1, x0, x6, x7, x11, x258000, x258001, x258002 => if x11 ≤ x258002 then (Xd.j4 k x0 x6 x7 x11 (decide (x7 > 0)) x258000 x258001 x258002) else (Xd.j4 k x0 x6 x7 x11 false x258000 x258001 x258002)
def Xd.j4 : Nat → List (S144) → List (S79) → Int → Int → Bool → Int → Int → Int → Option ((List (S79)) × Int)
 | 0, _, _, _, _, _, _, _, _ => none
 | k + 1, x0, x6, x7, x11, x101, x258000, x258001, x258002 => if x101 = true then (Xd.l2 k x0 x6 x7 x11 0 x258000 x258001 x258002) else (some (x6, 0))
def Xd.l2 : Nat → List (S144) → List (S79) → Int → Int → Int → Int → Int → Int → Option ((List (S79)) × Int)
 | 0, _, _, _, _, _, _, _, _ => none
 | k + 1, x0, x6, x7, x11, x12, x258000, x258001, x258002 => if x12 < (x0.length : Int) then (if 0 ≤ x12 then (if ((Xc x0 x12).f0) = x258000 then ((Xj.f x11 ((Xc x0 x12).f1) ((Xc x0 x12).f2)).bind fun t277 => (if t277 = true then (if x6.length < 5864062014805 then (Xd.l2 k x0 (x6 ++ [(⟨3, x258000, x11⟩ : S79)]) (wrap64 (x7 - 1)) x11 (wrap64 (x12 + 1)) x258000 x258001 x258002) else (none)) else (Xd.l2 k x0 x6 x7 x11 (wrap64 (x12 + 1)) x258000 x258001 x258002))) else (Xd.l2 k x0 x6 x7 x11 (wrap64 (x12 + 1)) x258000 x258001 x258002)) else (none)) else (Xd.l1 k x0 x6 x7 (wrap64 (x11 + 1)) x258000 x258001 x258002)
end
def Xd.f (k : Nat) (l0 : List (S144)) (a1_0 : Int) (a1_1 : Int) (a1_2 : Int) : Option ((List (S79)) × Int) := (Xj.f a1_0 0 1000).bind fun t258 => (if t258 = true then ((Xj.f a1_1 0 a1_2).bind fun t259 => (if t259 = true then (Xd.j0 k l0 (decide (a1_2 > 100000)) a1_0 a1_1 a1_2) else (Xd.j0 k l0 true a1_0 a1_1 a1_2))) else (Xd.j0 k l0 true a1_0 a1_1 a1_2))
def Xd.T7 : Bool × List (List Nat × List Nat) := (true, [([], []), ([], []), ([0, 1], [0, 1]), ([2], [2]), ([3], [3]), ([], []), ([5], [5]), ([4, 6], [4, 6]), ([], []), ([], []), ([8, 9], [8, 9]), ([10], [10]), ([11], [11]), ([], []), ([13], [13]), ([12, 14], [12, 14]), ([7, 0, 1, 2, 3, 4, 5, 6, 7], [7]), ([15, 16, 0, 1, 2, 3, 4, 5, 6, 7, 8, 9, 10, 11, 12, 13, 14, 15, 16], [15])])
def Xd.B7 : List Nat := [0, 0, 3, 7, 15, 0, 32, 127, 0, 0, 768, 1792, 3840, 0, 8192, 32512, 255, 131071]
theorem Xd.tab7 : rtab .any (Xan Try.f36 7) = Xd.T7 := by kernel_rfl
theorem Xd.bits7 : YI Xd.T7.2 Xd.B7 = true := by kernel_rfl
def Xd.T8 : Bool × List (List Nat × List Nat) := (true, [([], []), ([], []), ([0, 1], [0, 1]), ([2], [2]), ([3], [3]), ([], []), ([5], [5]), ([4, 6], [4, 6]), ([7], [7]), ([8], [8]), ([8], [8]), ([9, 10, 8], [8, 9, 10]), ([8, 11], [8, 11])])
def Xd.B8 : List Nat := [0, 0, 3, 7, 15, 0, 32, 127, 255, 511, 511, 2047, 4095]
theorem Xd.tab8 : rtab .any (Xan Try.f36 8) = Xd.T8 := by kernel_rfl
theorem Xd.bits8 : YI Xd.T8.2 Xd.B8 = true := by kernel_rfl
def Xd.T9 : Bool × List (List Nat × List Nat) := (true, [([], []), ([], []), ([], []), ([1, 2], [1, 2]), ([3], [3]), ([4], [4]), ([5], [5]), ([0, 6], [0, 6]), ([], []), ([], []), ([8, 9], [8, 9]), ([10], [10]), ([11], [11]), ([12], [12]), ([7, 13, 7], [7, 13]), ([14, 14, 0, 1, 2, 3, 4, 5, 6, 7, 8, 9, 10, 11, 12, 13, 14], [0, 14])])
def Xd.B9 : List Nat := [0, 0, 0, 6, 14, 30, 62, 127, 0, 0, 768, 1792, 3840, 7936, 16383, 32767]
theorem Xd.tab9 : rtab .any (Xan Try.f36 9) = Xd.T9 := by kernel_rfl
theorem Xd.bits9 : YI Xd.T9.2 Xd.B9 = true := by kernel_rfl
def Xd.T19 : Bool × List (List Nat × List Nat) := (true, [([], []), ([], []), ([0, 1], [0, 1]), ([2], [2]), ([3], [3]), ([], []), ([5], [5]), ([4, 6], [4, 6]), ([7], [7]), ([8], [8]), ([8], [8]), ([8], [8]), ([10, 11, 8], [8, 10, 11]), ([12, 8], [8, 12]), ([13, 8], [8, 13]), ([8], [8]), ([8], [8]), ([15, 16, 8], [8, 15, 16]), ([17, 8], [8, 17]), ([18, 8], [8, 18]), ([9, 14, 19, 8, 8], [8, 9, 14, 19]), ([8, 20], [8, 20])])
def Xd.B19 : List Nat := [0, 0, 3, 7, 15, 0, 32, 127, 255, 511, 511, 511, 3583, 7679, 15871, 511, 511, 98815, 229887, 492031, 1048575, 2097151]
theorem Xd.tab19 : rtab .any (Xan Try.f36 19) = Xd.T19 := by kernel_rfl
theorem Xd.bits19 : YI Xd.T19.2 Xd.B19 = true := by kernel_rfl
set_option maxHeartbeats 8000000 in
set_option maxRecDepth 100000 in
theorem Xd.calls (k : Nat) (A0 : Option Addr) (c0 : Nat) (l0 : List (S144)) (a1_0 : Int) (a1_1 : Int) (a1_2 : Int) (r1 : List (S79)) (r2 : Int) (w : World) (hr0 : Kd.C k144 w A0 l0.length l0) (hc0 : l0.length ≤ c0) (h : Xd.f k l0 a1_0 a1_1 a1_2 = some (r1, r2)) :
  Calls Try.prog 36 #[.slice A0 l0.length c0, .agg #[.int .i64 a1_0, .int .i64 a1_1, .int .i64 a1_2]] w fun e w' => ∃ v0_ : Value, e = .returned (.tuple #[v0_, .int .i64 r2]) ∧ Kd.R k79 79 w' w.heap.size (fun _ => True) v0_ r1 ∧ Below w.heap.size w w' := by
 have hu58 := Try.underlying58
 have hu79 := Try.underlying79
 have HR0 := Xa.mk hr0
 have HC0 := Xa.mk hc0
 clear hr0 hc0
 have HB := Xa.mk (Below.refl w.heap.size w)
 have H : ((Xj.f a1_0 0 1000).bind fun t258 => (if t258 = true then ((Xj.f a1_1 0 a1_2).bind fun t259 => (if t259 = true then (Xd.j0 k l0 (decide (a1_2 > 100000)) a1_0 a1_1 a1_2) else (Xd.j0 k l0 true a1_0 a1_1 a1_2))) else (Xd.j0 k l0 true a1_0 a1_1 a1_2))) = some (r1, r2) := h
 clear h
 have HC3 := Xa.mk H
 clear H
 go_enter Try.func36, Try.ntmps36
 go_upto_region 1 with (first | ((with_reducible refine Xz (N := 3) rfl ?_); refine XH ?hg (N := 3) ?hd (cs := #[.int .i64 a1_0, .int .i64 a1_1, .int .i64 a1_2]) (t := 58) ?hr ?_; (case hd => rfl); (case hg => rfl); (case hr => first | (go_simp; done) | (go_simp; rfl)); intro gb257 hg w4 hbox hb; have BK257 := Xa.mk (hbox); have GW257 := Xa.mk ((by rw [hg]; exact (Xg HB.out) : w.heap.size ≤ gb257)); have GE257 := GW257; replace HB := Xa.mk (Xi HB.out hb); clear hb hbox hg))
 (try simp only [Act.put, sa_, s0_, s1_])
 go_cut [29] (fun v29 wc => ∃ (kq : Nat) (x29_2 : Bool), v29 = .bool x29_2 ∧ Xa (Xd.j0 kq l0 x29_2 a1_0 a1_1 a1_2 = some (r1, r2)) ∧ Xa (kq ≤ k) ∧ Xa (wc.heap[gb257]? = some (.cells #[.int .i64 a1_0, .int .i64 a1_1, .int .i64 a1_2] 58 (0, 0))) ∧ Xa (Below w.heap.size w wc))
 case first => as_aux_lemma =>
  have H := HC3.out
  clear HC3
  replace H := Option.bind_eq_some_iff.mp H
  obtain ⟨t258, A50, H⟩ := H; (try dsimp only at H)
  have A5 := Xa.mk A50
  clear A50
  by_cases c6 : t258 = true
  ·subst c6
   have H1 : ((Xj.f a1_1 0 a1_2).bind fun t259 => (if t259 = true then (Xd.j0 k l0 (decide (a1_2 > 100000)) a1_0 a1_1 a1_2) else (Xd.j0 k l0 true a1_0 a1_1 a1_2))) = some (r1, r2) := by rw [if_pos rfl] at H; exact H
   clear H
   have H := H1
   clear H1
   replace H := Option.bind_eq_some_iff.mp H
   obtain ⟨t259, A70, H⟩ := H; (try dsimp only at H)
   have A7 := Xa.mk A70
   clear A70
   by_cases c8 : t259 = true
   ·subst c8
    have H1 : (Xd.j0 k l0 (decide (a1_2 > 100000)) a1_0 a1_1 a1_2) = some (r1, r2) := by rw [if_pos rfl] at H; exact H
    clear H
    have H := H1
    clear H1
    have H' := Xa.mk H
    clear H
    obtain ⟨hcz9_0, hcz9_1, hcz9_2⟩ := bc3 BK257.out
    obtain ⟨hfz9_0, hfz9_1, hfz9_2⟩ := bf3 BK257.out
    go_wp2_with (first | ((with_reducible refine Xp (f := 19) rfl ?_); refine XL (some 15) rfl rfl Try.func19 (by kernel_rfl) rfl #[.int .i64 a1_0, .int .i64 0, .int .i64 1000] rfl (by (try simp only [List.map_toArray, List.map_cons, List.map_nil]); first | done | rfl | (simp only [List.length_drop, List.length_take]; rfl)) ?_; (with_reducible refine (Xj.calls a1_0 0 1000 true _ A5.out).mono ?_); rintro e w' ⟨rfl, ⟨nd, rfl⟩⟩; refine ⟨_, rfl, ?_⟩) | (go_at_call 19; (with_reducible refine (Xj.calls a1_1 0 a1_2 true _ A7.out).mono ?_); rintro e w' ⟨rfl, ⟨nd, rfl⟩⟩))
    go_meet
    case rel => exact ⟨_, (decide (a1_2 > 100000)), fx_, H', ⟨by first | omega | exact Nat.le_refl _⟩, BK257, ⟨hb_ HB⟩⟩
   ·replace c8 := Bool.eq_false_iff.mpr c8
    subst c8
    have H1 : (Xd.j0 k l0 true a1_0 a1_1 a1_2) = some (r1, r2) := by rw [if_neg (show ¬ (false = true) by decide)] at H; exact H
    clear H
    have H := H1
    clear H1
    have H' := Xa.mk H
    clear H
    obtain ⟨hcz10_0, hcz10_1, hcz10_2⟩ := bc3 BK257.out
    obtain ⟨hfz10_0, hfz10_1, hfz10_2⟩ := bf3 BK257.out
    go_wp2_with (first | ((with_reducible refine Xp (f := 19) rfl ?_); refine XL (some 15) rfl rfl Try.func19 (by kernel_rfl) rfl #[.int .i64 a1_0, .int .i64 0, .int .i64 1000] rfl (by (try simp only [List.map_toArray, List.map_cons, List.map_nil]); first | done | rfl | (simp only [List.length_drop, List.length_take]; rfl)) ?_; (with_reducible refine (Xj.calls a1_0 0 1000 true _ A5.out).mono ?_); rintro e w' ⟨rfl, ⟨nd, rfl⟩⟩; refine ⟨_, rfl, ?_⟩) | (go_at_call 19; (with_reducible refine (Xj.calls a1_1 0 a1_2 false _ A7.out).mono ?_); rintro e w' ⟨rfl, ⟨nd, rfl⟩⟩))
    go_meet
    case rel => exact ⟨_, (true), fx_, H', ⟨by first | omega | exact Nat.le_refl _⟩, BK257, ⟨hb_ HB⟩⟩
  ·replace c6 := Bool.eq_false_iff.mpr c6
   subst c6
   have H1 : (Xd.j0 k l0 true a1_0 a1_1 a1_2) = some (r1, r2) := by rw [if_neg (show ¬ (false = true) by decide)] at H; exact H
   clear H
   have H := H1
   clear H1
   have H' := Xa.mk H
   clear H
   obtain ⟨hcz11_0, hcz11_1, hcz11_2⟩ := bc3 BK257.out
   obtain ⟨hfz11_0, hfz11_1, hfz11_2⟩ := bf3 BK257.out
   go_wp2_with (first | ((with_reducible refine Xp (f := 19) rfl ?_); refine XL (some 15) rfl rfl Try.func19 (by kernel_rfl) rfl #[.int .i64 a1_0, .int .i64 0, .int .i64 1000] rfl (by (try simp only [List.map_toArray, List.map_cons, List.map_nil]); first | done | rfl | (simp only [List.length_drop, List.length_take]; rfl)) ?_; (with_reducible refine (Xj.calls a1_0 0 1000 false _ A5.out).mono ?_); rintro e w' ⟨rfl, ⟨nd, rfl⟩⟩; refine ⟨_, rfl, ?_⟩))
   go_meet
   case rel => exact ⟨_, (true), fx_, H', ⟨by first | omega | exact Nat.le_refl _⟩, BK257, ⟨hb_ HB⟩⟩
 case rest => as_aux_lemma =>
  clear HC3
  obtain ⟨kq, x29_2, rfl, HA, HJ2, BK257, HB⟩ := hcut
  cases kq with
  | zero => exact absurd HA.out (by simp [Xd.j0])
  | succ kj2 =>
   have H := HA.out
   clear HA
   simp only [Xd.j0] at H
   by_cases c12 : x29_2 = true
   ·subst c12
    have H1 : (some (([] : List (S79)), 2)) = some (r1, r2) := by rw [if_pos rfl] at H; exact H
    clear H
    have H := H1
    clear H1
    simp only [Option.some.injEq, Prod.mk.injEq] at H
    obtain ⟨rfl, rfl⟩ := H
    go_wp2
    go_ret2
    exact ⟨_, by first | rfl | (simp [errW_none, errW_some] <;> rfl) | (simp [*, errW_none, errW_some] <;> rfl), by first | exact Kd.R_nil _ _ _ _ _ | exact Kd.N_nil _ _ _ _ _ | exact Kd.V_nil _ _ _ _ _ | exact Kd.Q_nil _ _ _ _ _ | exact Kd.S_nil _ _ _ _ _, by repeat (first | (with_reducible first | exact HB.out | apply Xs | apply Xo | apply Xl | refine XC ?_ (Xa.out (by assumption))) | exact HB.out)⟩
   ·replace c12 := Bool.eq_false_iff.mpr c12
    subst c12
    have H1 : (Xd.l0 kj2 l0 (([] : List (S79))) 0 0 a1_0 a1_1 a1_2) = some (r1, r2) := by rw [if_neg (show ¬ (false = true) by decide)] at H; exact H
    clear H
    have H := H1
    clear H1
    obtain ⟨y260, hy260⟩ : ∃ y_ : List (S79), y_ = (([] : List (S79))) := ⟨_, rfl⟩
    replace H : (Xd.l0 kj2 l0 y260 0 0 a1_0 a1_1 a1_2) = some (r1, r2) := by first | (rw [hy260]; with_reducible exact H) | (have H2_ := (Option.bind_some _ _).symm.trans H; rw [hy260]; with_reducible exact H2_) | (have H2_ := (Option.bind_some _ _).symm.trans H; with_reducible exact H2_) | with_reducible exact H | (rw [hy260]; exact H) | exact H
    have Ny260 := Xa.mk hy260
    clear hy260
    have H' := Xa.mk H
    clear H
    go_wp2_with (first | ((with_reducible refine Xz (N := 30) rfl ?_); refine Kd.R_lit k79 _ 79 ?hg (N := 30) ?hd (xs := ([] : List (S79))) (inner := []) (ok := fun _ => True) (okp := fun _ => True) ?hr ?hp (fun _ hk => hk) trivial (Below.refl _ _) (Nat.le_refl _) (by simp) ?_; (case hd => rfl); (case hg => rfl); (case hr => first | (go_simp; done) | (go_simp; rfl)); (case hp => exact (Reps.none _ _)); intro v261 w13 ho14 hb hg_ hnew_; clear hg_ hnew_; (first | rw [← Ny260.out] at ho14 | (simp only [Int.reduceToNat] at ho14; rw [← Ny260.out] at ho14)); have HO262 := Xa.mk (Kd.R_lower ho14 (Xg (hb_ HB))); replace BK257 := Xa.mk (Xu (g := gb257) (o := .cells #[.int .i64 a1_0, .int .i64 a1_1, .int .i64 a1_2] 58 (0, 0)) (bk_ BK257) hb); replace HB := sb_ HB hb; clear hb ho14))
    go_loopg [6, 7, 8] kj2 (fun kq v6 v7 v8 w' => ∃ (x6_2 : List (S79)) (x7_2 : Int) (x8_2 : Int), v7 = .int .i64 x7_2 ∧ v8 = .int .i64 x8_2 ∧ Xa (Xd.l0 kq l0 x6_2 x7_2 x8_2 a1_0 a1_1 a1_2 = some (r1, r2)) ∧ Xa (kq ≤ kj2) ∧ Xa (Kd.R k79 79 w' w.heap.size (fun _ => True) v6 x6_2) ∧ Xa (w'.heap[gb257]? = some (.cells #[.int .i64 a1_0, .int .i64 a1_1, .int .i64 a1_2] 58 (0, 0))) ∧ Xa (Below w.heap.size w w'))
    case atStart => exact ⟨(y260), (0), (0), fx_, fx_, H', ⟨Nat.le_refl _⟩, ⟨ro_ HO262⟩, BK257, ⟨hb_ HB⟩⟩
    case round => as_aux_lemma =>
     clear H'
     obtain ⟨x6_2, x7_2, x8_2, rfl, rfl, HA, HK2, HO_6, BK257, HB⟩ := hrel
     cases gk with
     | zero => exact absurd HA.out (by simp [Xd.l0])
     | succ k2 =>
      have H := HA.out
      clear HA
      simp only [Xd.l0] at H
      by_cases c15 : x8_2 < (l0.length : Int)
      ·rw [if_pos c15] at H
       have c15b0 : decide (x8_2 < (l0.length : Int)) = true := decide_eq_true c15
       clear c15
       by_cases c16 : 0 ≤ x8_2
       ·rw [if_pos c16] at H
        have c16b0 : decide (0 ≤ x8_2) = true := decide_eq_true c16
        clear c16
        obtain ⟨ji17, hji17⟩ : ∃ j_ : Int, (mx ((Xc l0 x8_2).f1) a1_1) = j_ := ⟨_, rfl⟩
        replace H : (if ((Xc l0 x8_2).f0) = a1_0 then (Xd.j2 k2 l0 x6_2 x7_2 x8_2 ji17 (mn ((Xc l0 x8_2).f2) a1_2) (decide ((ji17) > (mn ((Xc l0 x8_2).f2) a1_2))) a1_0 a1_1 a1_2) else (Xd.j2 k2 l0 x6_2 x7_2 x8_2 ji17 (mn ((Xc l0 x8_2).f2) a1_2) true a1_0 a1_1 a1_2)) = some (r1, r2) := by first | (rw [hji17] at H; exact H) | (simp only [hji17] at H ⊢; exact H)
        have hji17_ : (if ((Xc l0 x8_2).f1) < a1_1 then a1_1 else ((Xc l0 x8_2).f1)) = ji17 := hji17
        obtain ⟨ji18, hji18⟩ : ∃ j_ : Int, (mn ((Xc l0 x8_2).f2) a1_2) = j_ := ⟨_, rfl⟩
        replace H : (if ((Xc l0 x8_2).f0) = a1_0 then (Xd.j2 k2 l0 x6_2 x7_2 x8_2 ji17 ji18 (decide ((ji17) > (ji18))) a1_0 a1_1 a1_2) else (Xd.j2 k2 l0 x6_2 x7_2 x8_2 ji17 ji18 true a1_0 a1_1 a1_2)) = some (r1, r2) := by first | (rw [hji18] at H; exact H) | (simp only [hji18] at H ⊢; exact H)
        have hji18_ : (if a1_2 < ((Xc l0 x8_2).f2) then a1_2 else ((Xc l0 x8_2).f2)) = ji18 := hji18
        have HC19 := Xa.mk H
        clear H
        try go_wp2
        have n0_ := Xa.mk (Kd.R_drew HO_6.out)
        have n1_ := Xa.mk (X3 BK257.out)
        have n2_ := Xa.mk (Xl HB.out)
        clear HO_6
        clear BK257
        clear HB
        have HO_6 := n0_
        have BK257 := n1_
        have HB := n2_
        clear n0_ n1_ n2_
        have p263 : 0 ≤ (x8_2 : Int) := of_decide_eq_true ‹_›
        have q263 : x8_2 < (l0.length : Int) := of_decide_eq_true ‹_›
        obtain ⟨ad263, e263, hx263_0, hx263_1, hx263_2, hx263_3, hx263_4⟩ := Yb HR0.out x8_2 p263 q263
        have hw263_4 := hx263_4
        have hw263_3 := hx263_3
        have hw263_2 := hx263_2
        have hw263_1 := hx263_1
        have hw263_0 := hx263_0
        cases e263
        replace hx263_0 := bl_ HB hx263_0
        replace hx263_1 := bl_ HB hx263_1
        replace hx263_2 := bl_ HB hx263_2
        replace hx263_3 := bl_ HB hx263_3
        replace hx263_4 := bl_ HB hx263_4
        replace p263 := eq_true p263
        replace q263 := eq_true q263
        have p264 : 0 ≤ (x8_2 : Int) := of_decide_eq_true ‹_›
        have q264 : x8_2 < (l0.length : Int) := of_decide_eq_true ‹_›
        obtain ⟨ad264, e264, hx264_0, hx264_1, hx264_2, hx264_3, hx264_4⟩ := Yb HR0.out x8_2 p264 q264
        have hw264_4 := hx264_4
        have hw264_3 := hx264_3
        have hw264_2 := hx264_2
        have hw264_1 := hx264_1
        have hw264_0 := hx264_0
        obtain rfl : ad263 = ad264 := (by injection e264)
        replace hx264_0 := bl_ HB hx264_0
        replace hx264_1 := bl_ HB hx264_1
        replace hx264_2 := bl_ HB hx264_2
        replace hx264_3 := bl_ HB hx264_3
        replace hx264_4 := bl_ HB hx264_4
        replace p264 := eq_true p264
        replace q264 := eq_true q264
        refine Yy (n := 18) (S := fun w' => w'.cell? ⟨gb257, 0, none⟩ = some (.int .i64 a1_0) ∧ w'.cell? ⟨gb257, 1, none⟩ = some (.int .i64 a1_1) ∧ w'.cell? ⟨gb257, 2, none⟩ = some (.int .i64 a1_2) ∧ w'.cell? (ad263.add ((x8_2).toNat * 5)) = some (.int .i64 ((Xc l0 x8_2).f0)) ∧ w'.cell? ⟨(ad263.add ((x8_2).toNat * 5)).block, (ad263.add ((x8_2).toNat * 5)).off + 1, none⟩ = some (.int .i64 ((Xc l0 x8_2).f1)) ∧ w'.cell? ⟨(ad263.add ((x8_2).toNat * 5)).block, (ad263.add ((x8_2).toNat * 5)).off + 2, none⟩ = some (.int .i64 ((Xc l0 x8_2).f2)) ∧ w'.cell? ⟨(ad263.add ((x8_2).toNat * 5)).block, (ad263.add ((x8_2).toNat * 5)).off + 3, none⟩ = some (.int .i64 ((Xc l0 x8_2).f3)) ∧ w'.cell? ⟨(ad263.add ((x8_2).toNat * 5)).block, (ad263.add ((x8_2).toNat * 5)).off + 4, none⟩ = some (.int .i64 ((Xc l0 x8_2).f4))) (ds := []) #[ff, ff, ff, ff, ff, ff, ff, ff, ff, ff, ff, ff, ff, ff, ff, ff, ff, ff] (by kernel_rfl) rfl rfl ⟨(Xe BK257.out 0).trans rfl, (Xe BK257.out 1).trans rfl, (Xe BK257.out 2).trans rfl, ((HB.out.cell (World.block_lt_of_cell? w _ hw263_0)).trans hw263_0), ((HB.out.cell (World.block_lt_of_cell? w _ hw263_1)).trans hw263_1), ((HB.out.cell (World.block_lt_of_cell? w _ hw263_2)).trans hw263_2), ((HB.out.cell (World.block_lt_of_cell? w _ hw263_3)).trans hw263_3), ((HB.out.cell (World.block_lt_of_cell? w _ hw263_4)).trans hw263_4)⟩ (fun hHeld => ?_); refine X9 Xd.tab7 Xd.bits7 (fun HT_ HW_ => ?_)
        generalize wr.drew = w20 at HO_6 BK257 HB hx263_0 hx263_1 hx263_2 hx263_3 hx263_4 hx264_0 hx264_1 hx264_2 hx264_3 hx264_4 hHeld ⊢
        refine pu_ 0 37 HT_ ?_
        refine pu_ 1 38 HT_ ?_
        refine pu_ 2 39 HT_ ?_
        refine pu_ 3 40 HT_ ?_
        refine pu_ 5 42 HT_ ?_
        refine pu_ 8 45 HT_ ?_
        refine pu_ 9 46 HT_ ?_
        refine pu_ 10 47 HT_ ?_
        refine pu_ 11 48 HT_ ?_
        refine pu_ 13 50 HT_ ?_
        refine tw_ 4 41 HT_ HW_ hHeld ?_
        refine tw_ 6 43 HT_ HW_ hHeld ?_
        refine pu_ 7 44 HT_ ?_
        refine pu_ 16 9 HT_ ?_
        refine tw_ 12 49 HT_ HW_ hHeld ?_
        refine tw_ 14 51 HT_ HW_ hHeld ?_
        refine pu_ 15 52 HT_ ?_
        refine pu_ 17 10 HT_ ?_
        refine YS (Yo HT_.out (by kernel_rfl)) ?_
        go_upto_region 8 with (fail)
        go_cut [65] (fun v65 wc => ∃ (kq : Nat) (x65_18 : Bool), v65 = .bool x65_18 ∧ Xa (Xd.j2 kq l0 x6_2 x7_2 x8_2 ji17 ji18 x65_18 a1_0 a1_1 a1_2 = some (r1, r2)) ∧ Xa (kq ≤ k2) ∧ Xa (Kd.R k79 79 wc w.heap.size (fun _ => True) u6 x6_2) ∧ Xa (wc.heap[gb257]? = some (.cells #[.int .i64 a1_0, .int .i64 a1_1, .int .i64 a1_2] 58 (0, 0))) ∧ Xa (Below w.heap.size w wc))
        case first => as_aux_lemma =>
         have H := HC19.out
         clear HC19
         by_cases c21 : ((Xc l0 x8_2).f0) = a1_0
         ·rw [if_pos c21] at H
          have c21b0 : (((Xc l0 x8_2).f0) == a1_0) = true := beq_iff_eq.mpr c21
          have c21b1 : (((Xc l0 x8_2).f0) != a1_0) = false := bne_eq_false_iff_eq.mpr c21
          clear c21
          (first | rw [c21b0] | (simp only [XR, XS]; rw [c21b0]) | skip)
          have H' := Xa.mk H
          clear H
          try go_wp2
          have n0_ := Xa.mk (Kd.R_drew HO_6.out)
          have n1_ := Xa.mk (X3 BK257.out)
          have n2_ := Xa.mk (Xl HB.out)
          clear HO_6
          clear BK257
          clear HB
          have HO_6 := n0_
          have BK257 := n1_
          have HB := n2_
          clear n0_ n1_ n2_
          have p265 : 0 ≤ (x8_2 : Int) := of_decide_eq_true ‹_›
          have q265 : x8_2 < (l0.length : Int) := of_decide_eq_true ‹_›
          obtain ⟨ad265, e265, hx265_0, hx265_1, hx265_2, hx265_3, hx265_4⟩ := Yb HR0.out x8_2 p265 q265
          have hw265_4 := hx265_4
          have hw265_3 := hx265_3
          have hw265_2 := hx265_2
          have hw265_1 := hx265_1
          have hw265_0 := hx265_0
          obtain rfl : ad263 = ad265 := (by injection e265)
          replace hx265_0 := bl_ HB hx265_0
          replace hx265_1 := bl_ HB hx265_1
          replace hx265_2 := bl_ HB hx265_2
          replace hx265_3 := bl_ HB hx265_3
          replace hx265_4 := bl_ HB hx265_4
          replace p265 := eq_true p265
          replace q265 := eq_true q265
          refine Yy (n := 13) (S := fun w' => w'.cell? ⟨gb257, 0, none⟩ = some (.int .i64 a1_0) ∧ w'.cell? ⟨gb257, 1, none⟩ = some (.int .i64 a1_1) ∧ w'.cell? ⟨gb257, 2, none⟩ = some (.int .i64 a1_2) ∧ w'.cell? (ad263.add ((x8_2).toNat * 5)) = some (.int .i64 ((Xc l0 x8_2).f0)) ∧ w'.cell? ⟨(ad263.add ((x8_2).toNat * 5)).block, (ad263.add ((x8_2).toNat * 5)).off + 1, none⟩ = some (.int .i64 ((Xc l0 x8_2).f1)) ∧ w'.cell? ⟨(ad263.add ((x8_2).toNat * 5)).block, (ad263.add ((x8_2).toNat * 5)).off + 2, none⟩ = some (.int .i64 ((Xc l0 x8_2).f2)) ∧ w'.cell? ⟨(ad263.add ((x8_2).toNat * 5)).block, (ad263.add ((x8_2).toNat * 5)).off + 3, none⟩ = some (.int .i64 ((Xc l0 x8_2).f3)) ∧ w'.cell? ⟨(ad263.add ((x8_2).toNat * 5)).block, (ad263.add ((x8_2).toNat * 5)).off + 4, none⟩ = some (.int .i64 ((Xc l0 x8_2).f4))) (ds := []) #[ff, ff, ff, ff, ff, ff, ff, ff, ff, ff, ff, ff, ff] (by kernel_rfl) rfl rfl ⟨(Xe BK257.out 0).trans rfl, (Xe BK257.out 1).trans rfl, (Xe BK257.out 2).trans rfl, ((HB.out.cell (World.block_lt_of_cell? w _ hw265_0)).trans hw265_0), ((HB.out.cell (World.block_lt_of_cell? w _ hw265_1)).trans hw265_1), ((HB.out.cell (World.block_lt_of_cell? w _ hw265_2)).trans hw265_2), ((HB.out.cell (World.block_lt_of_cell? w _ hw265_3)).trans hw265_3), ((HB.out.cell (World.block_lt_of_cell? w _ hw265_4)).trans hw265_4)⟩ (fun hHeld => ?_); refine X9 Xd.tab8 Xd.bits8 (fun HT_ HW_ => ?_)
          generalize w20.drew = w22 at HO_6 BK257 HB hx265_0 hx265_1 hx265_2 hx265_3 hx265_4 hHeld ⊢
          refine pu_ 0 53 HT_ ?_
          refine pu_ 1 54 HT_ ?_
          refine pu_ 2 55 HT_ ?_
          refine pu_ 3 56 HT_ ?_
          refine pu_ 5 58 HT_ ?_
          refine tw_ 4 57 HT_ HW_ hHeld ?_
          refine tw_ 6 59 HT_ HW_ hHeld ?_
          refine pu_ 7 60 HT_ ?_
          refine pu_ 8 61 HT_ ?_
          refine pu_ 9 62 HT_ ?_
          refine pu_ 10 63 HT_ ?_
          refine pu_ 11 64 HT_ ?_
          refine pu_ 12 65 HT_ ?_
          refine YS (Yo HT_.out (by kernel_rfl)) ?_
          try go_wp2
          go_meet
          case rel => exact ⟨_, (decide ((ji17) > (ji18))), (by first | rfl | (simp; done) | (simp only [← hji17, ← hji18] <;> (first | rfl | simp)) | (simp [*]; done)), H', ⟨by have := HJ2.out; have := HK2.out; first | omega | exact Nat.le_refl _⟩, ⟨ro_ HO_6⟩, BK257, ⟨hb_ HB⟩⟩
         ·rw [if_neg c21] at H
          have c21b0 : (((Xc l0 x8_2).f0) == a1_0) = false := beq_eq_false_iff_ne.mpr c21
          have c21b1 : (((Xc l0 x8_2).f0) != a1_0) = true := bne_iff_ne.mpr c21
          (first | rw [c21b0] | (simp only [XR, XS]; rw [c21b0]) | skip)
          have H' := Xa.mk H
          clear H
          try go_wp2
          have n0_ := Xa.mk (Kd.R_drew HO_6.out)
          have n1_ := Xa.mk (X3 BK257.out)
          have n2_ := Xa.mk (Xl HB.out)
          clear HO_6
          clear BK257
          clear HB
          have HO_6 := n0_
          have BK257 := n1_
          have HB := n2_
          clear n0_ n1_ n2_
          have p265 : 0 ≤ (x8_2 : Int) := of_decide_eq_true ‹_›
          have q265 : x8_2 < (l0.length : Int) := of_decide_eq_true ‹_›
          obtain ⟨ad265, e265, hx265_0, hx265_1, hx265_2, hx265_3, hx265_4⟩ := Yb HR0.out x8_2 p265 q265
          have hw265_4 := hx265_4
          have hw265_3 := hx265_3
          have hw265_2 := hx265_2
          have hw265_1 := hx265_1
          have hw265_0 := hx265_0
          obtain rfl : ad263 = ad265 := (by injection e265)
          replace hx265_0 := bl_ HB hx265_0
          replace hx265_1 := bl_ HB hx265_1
          replace hx265_2 := bl_ HB hx265_2
          replace hx265_3 := bl_ HB hx265_3
          replace hx265_4 := bl_ HB hx265_4
          replace p265 := eq_true p265
          replace q265 := eq_true q265
          refine Yy (n := 13) (S := fun w' => w'.cell? ⟨gb257, 0, none⟩ = some (.int .i64 a1_0) ∧ w'.cell? ⟨gb257, 1, none⟩ = some (.int .i64 a1_1) ∧ w'.cell? ⟨gb257, 2, none⟩ = some (.int .i64 a1_2) ∧ w'.cell? (ad263.add ((x8_2).toNat * 5)) = some (.int .i64 ((Xc l0 x8_2).f0)) ∧ w'.cell? ⟨(ad263.add ((x8_2).toNat * 5)).block, (ad263.add ((x8_2).toNat * 5)).off + 1, none⟩ = some (.int .i64 ((Xc l0 x8_2).f1)) ∧ w'.cell? ⟨(ad263.add ((x8_2).toNat * 5)).block, (ad263.add ((x8_2).toNat * 5)).off + 2, none⟩ = some (.int .i64 ((Xc l0 x8_2).f2)) ∧ w'.cell? ⟨(ad263.add ((x8_2).toNat * 5)).block, (ad263.add ((x8_2).toNat * 5)).off + 3, none⟩ = some (.int .i64 ((Xc l0 x8_2).f3)) ∧ w'.cell? ⟨(ad263.add ((x8_2).toNat * 5)).block, (ad263.add ((x8_2).toNat * 5)).off + 4, none⟩ = some (.int .i64 ((Xc l0 x8_2).f4))) (ds := []) #[ff, ff, ff, ff, ff, ff, ff, ff, ff, ff, ff, ff, ff] (by kernel_rfl) rfl rfl ⟨(Xe BK257.out 0).trans rfl, (Xe BK257.out 1).trans rfl, (Xe BK257.out 2).trans rfl, ((HB.out.cell (World.block_lt_of_cell? w _ hw265_0)).trans hw265_0), ((HB.out.cell (World.block_lt_of_cell? w _ hw265_1)).trans hw265_1), ((HB.out.cell (World.block_lt_of_cell? w _ hw265_2)).trans hw265_2), ((HB.out.cell (World.block_lt_of_cell? w _ hw265_3)).trans hw265_3), ((HB.out.cell (World.block_lt_of_cell? w _ hw265_4)).trans hw265_4)⟩ (fun hHeld => ?_); refine X9 Xd.tab8 Xd.bits8 (fun HT_ HW_ => ?_)
          generalize w20.drew = w23 at HO_6 BK257 HB hx265_0 hx265_1 hx265_2 hx265_3 hx265_4 hHeld ⊢
          refine pu_ 0 53 HT_ ?_
          refine pu_ 1 54 HT_ ?_
          refine pu_ 2 55 HT_ ?_
          refine pu_ 3 56 HT_ ?_
          refine pu_ 5 58 HT_ ?_
          refine tw_ 4 57 HT_ HW_ hHeld ?_
          refine tw_ 6 59 HT_ HW_ hHeld ?_
          refine pu_ 7 60 HT_ ?_
          refine pu_ 8 61 HT_ ?_
          refine po_ 9 62 HT_ ?_
          refine po_ 10 63 HT_ ?_
          refine po_ 11 64 HT_ ?_
          refine pu_ 12 65 HT_ ?_
          refine YS (Yo HT_.out (by kernel_rfl)) ?_
          try go_wp2
          go_meet
          case rel => exact ⟨_, (true), fx_, H', ⟨by have := HJ2.out; have := HK2.out; first | omega | exact Nat.le_refl _⟩, ⟨ro_ HO_6⟩, BK257, ⟨hb_ HB⟩⟩
        case rest => as_aux_lemma =>
         clear HC19
         clear c15b0 c16b0 hx263_0 hx263_1 hx263_2 hx263_3 hx263_4 hx264_0 hx264_1 hx264_2 hx264_3 hx264_4 p263 p264 q263 q264
         obtain ⟨kq, x65_18, rfl, HA, HJ18, HO_6, BK257, HB⟩ := hcut
         cases kq with
         | zero => exact absurd HA.out (by simp [Xd.j2])
         | succ kj18 =>
          have H := HA.out
          clear HA
          simp only [Xd.j2] at H
          by_cases c24 : x65_18 = true
          ·subst c24
           have H1 : (Xd.l0 kj18 l0 x6_2 x7_2 (wrap64 (x8_2 + 1)) a1_0 a1_1 a1_2) = some (r1, r2) := by rw [if_pos rfl] at H; exact H
           clear H
           have H := H1
           clear H1
           have H' := Xa.mk H
           clear H
           go_wp2
           go_roundg kj18
           case measure => have := HJ2.out; have := HK2.out; have := HJ18.out; omega
           case rel => exact ⟨(x6_2), (x7_2), (wrap64 (x8_2 + 1)), fx_, fx_, H', ⟨by have := HJ2.out; have := HK2.out; have := HJ18.out; omega⟩, ⟨ro_ HO_6⟩, BK257, ⟨hb_ HB⟩⟩
          ·replace c24 := Bool.eq_false_iff.mpr c24
           subst c24
           have H1 : (if 0 ≤ x8_2 then (if x8_2 < (l0.length : Int) then ((Xm.f kj18 x6_2 1 0 ((Xc l0 x8_2).f3)).bind fun t267 => ((Xm.f kj18 t267 2 0 ((Xc l0 x8_2).f4)).bind fun t271 => (Xd.l0 kj18 l0 t271 (wrap64 (x7_2 + (wrap64 ((wrap64 (ji18 - ji17)) + 1)))) (wrap64 (x8_2 + 1)) a1_0 a1_1 a1_2))) else (none)) else (none)) = some (r1, r2) := by rw [if_neg (show ¬ (false = true) by decide)] at H; exact H
           clear H
           have H := H1
           clear H1
           by_cases c25 : 0 ≤ x8_2
           ·rw [if_pos c25] at H
            have c25b0 : decide (0 ≤ x8_2) = true := decide_eq_true c25
            clear c25
            by_cases c26 : x8_2 < (l0.length : Int)
            ·rw [if_pos c26] at H
             have c26b0 : decide (x8_2 < (l0.length : Int)) = true := decide_eq_true c26
             clear c26
             replace H := Option.bind_eq_some_iff.mp H
             obtain ⟨t267, A270, H⟩ := H; (try dsimp only at H)
             have A27 := Xa.mk A270
             clear A270
             replace H := Option.bind_eq_some_iff.mp H
             obtain ⟨t271, A280, H⟩ := H; (try dsimp only at H)
             have A28 := Xa.mk A280
             clear A280
             have H' := Xa.mk H
             clear H
             try go_wp2
             have n0_ := Xa.mk (Kd.R_drew HO_6.out)
             have n1_ := Xa.mk (X3 BK257.out)
             have n2_ := Xa.mk (Xl HB.out)
             clear HO_6
             clear BK257
             clear HB
             have HO_6 := n0_
             have BK257 := n1_
             have HB := n2_
             clear n0_ n1_ n2_
             have p266 : 0 ≤ (x8_2 : Int) := of_decide_eq_true ‹_›
             have q266 : x8_2 < (l0.length : Int) := of_decide_eq_true ‹_›
             obtain ⟨ad266, e266, hx266_0, hx266_1, hx266_2, hx266_3, hx266_4⟩ := Yb HR0.out x8_2 p266 q266
             have hw266_4 := hx266_4
             have hw266_3 := hx266_3
             have hw266_2 := hx266_2
             have hw266_1 := hx266_1
             have hw266_0 := hx266_0
             obtain rfl : ad263 = ad266 := (by injection e266)
             replace hx266_0 := bl_ HB hx266_0
             replace hx266_1 := bl_ HB hx266_1
             replace hx266_2 := bl_ HB hx266_2
             replace hx266_3 := bl_ HB hx266_3
             replace hx266_4 := bl_ HB hx266_4
             replace p266 := eq_true p266
             replace q266 := eq_true q266
             have p270 : 0 ≤ (x8_2 : Int) := of_decide_eq_true ‹_›
             have q270 : x8_2 < (l0.length : Int) := of_decide_eq_true ‹_›
             obtain ⟨ad270, e270, hx270_0, hx270_1, hx270_2, hx270_3, hx270_4⟩ := Yb HR0.out x8_2 p270 q270
             have hw270_4 := hx270_4
             have hw270_3 := hx270_3
             have hw270_2 := hx270_2
             have hw270_1 := hx270_1
             have hw270_0 := hx270_0
             obtain rfl : ad263 = ad270 := (by injection e270)
             replace hx270_0 := bl_ HB hx270_0
             replace hx270_1 := bl_ HB hx270_1
             replace hx270_2 := bl_ HB hx270_2
             replace hx270_3 := bl_ HB hx270_3
             replace hx270_4 := bl_ HB hx270_4
             replace p270 := eq_true p270
             replace q270 := eq_true q270
             obtain ⟨Ao30, co30, eo30⟩ := Kd.R_slice HO_6.out
             (first | subst eo30 | (injection eo30 with f1_ f2_ f3_; have f4_ := f1_.symm; have f5_ := f3_.symm; clear f1_ f2_ f3_; subst f4_; subst f5_))
             refine Yy (n := 16) (S := fun w' => w'.cell? (ad263.add ((x8_2).toNat * 5)) = some (.int .i64 ((Xc l0 x8_2).f0)) ∧ w'.cell? ⟨(ad263.add ((x8_2).toNat * 5)).block, (ad263.add ((x8_2).toNat * 5)).off + 1, none⟩ = some (.int .i64 ((Xc l0 x8_2).f1)) ∧ w'.cell? ⟨(ad263.add ((x8_2).toNat * 5)).block, (ad263.add ((x8_2).toNat * 5)).off + 2, none⟩ = some (.int .i64 ((Xc l0 x8_2).f2)) ∧ w'.cell? ⟨(ad263.add ((x8_2).toNat * 5)).block, (ad263.add ((x8_2).toNat * 5)).off + 3, none⟩ = some (.int .i64 ((Xc l0 x8_2).f3)) ∧ w'.cell? ⟨(ad263.add ((x8_2).toNat * 5)).block, (ad263.add ((x8_2).toNat * 5)).off + 4, none⟩ = some (.int .i64 ((Xc l0 x8_2).f4)) ∧ w'.cell? (ad263.add ((x8_2).toNat * 5)) = some (.int .i64 ((Xc l0 x8_2).f0)) ∧ w'.cell? ⟨(ad263.add ((x8_2).toNat * 5)).block, (ad263.add ((x8_2).toNat * 5)).off + 1, none⟩ = some (.int .i64 ((Xc l0 x8_2).f1)) ∧ w'.cell? ⟨(ad263.add ((x8_2).toNat * 5)).block, (ad263.add ((x8_2).toNat * 5)).off + 2, none⟩ = some (.int .i64 ((Xc l0 x8_2).f2)) ∧ w'.cell? ⟨(ad263.add ((x8_2).toNat * 5)).block, (ad263.add ((x8_2).toNat * 5)).off + 3, none⟩ = some (.int .i64 ((Xc l0 x8_2).f3)) ∧ w'.cell? ⟨(ad263.add ((x8_2).toNat * 5)).block, (ad263.add ((x8_2).toNat * 5)).off + 4, none⟩ = some (.int .i64 ((Xc l0 x8_2).f4))) (ds := []) #[ff, ff, ff, ff, ff, ff, ff, ff, ff, ff, ff, ff, ff, ff, ff, ff] (by kernel_rfl) rfl rfl ⟨((HB.out.cell (World.block_lt_of_cell? w _ hw266_0)).trans hw266_0), ((HB.out.cell (World.block_lt_of_cell? w _ hw266_1)).trans hw266_1), ((HB.out.cell (World.block_lt_of_cell? w _ hw266_2)).trans hw266_2), ((HB.out.cell (World.block_lt_of_cell? w _ hw266_3)).trans hw266_3), ((HB.out.cell (World.block_lt_of_cell? w _ hw266_4)).trans hw266_4), ((HB.out.cell (World.block_lt_of_cell? w _ hw270_0)).trans hw270_0), ((HB.out.cell (World.block_lt_of_cell? w _ hw270_1)).trans hw270_1), ((HB.out.cell (World.block_lt_of_cell? w _ hw270_2)).trans hw270_2), ((HB.out.cell (World.block_lt_of_cell? w _ hw270_3)).trans hw270_3), ((HB.out.cell (World.block_lt_of_cell? w _ hw270_4)).trans hw270_4)⟩ (fun hHeld => ?_); refine X9 Xd.tab9 Xd.bits9 (fun HT_ HW_ => ?_)
             generalize wc.drew = w29 at HO_6 BK257 HB hx266_0 hx266_1 hx266_2 hx266_3 hx266_4 hx270_0 hx270_1 hx270_2 hx270_3 hx270_4 hHeld ⊢
             refine pu_ 0 66 HT_ ?_
             refine pu_ 1 67 HT_ ?_
             refine pu_ 2 68 HT_ ?_
             refine pu_ 3 69 HT_ ?_
             refine pu_ 4 70 HT_ ?_
             refine pu_ 8 74 HT_ ?_
             refine pu_ 9 75 HT_ ?_
             refine pu_ 10 76 HT_ ?_
             refine pu_ 11 77 HT_ ?_
             refine tw_ 5 71 HT_ HW_ hHeld ?_
             refine pu_ 6 72 HT_ ?_
             refine tw_ 12 78 HT_ HW_ hHeld ?_
             refine pu_ 13 79 HT_ ?_
             refine one_ (i := 7) (N := some 73) #[tt, tt, tt, tt, tt, tt, tt, tt, tt, tt, tt, tt, tt, tt, ff, ff] rfl rfl (Ys HT_.out (by kernel_rfl)) (by decide) (fun K hK => ?_)
             refine Y8 Try.func71 (by kernel_rfl) rfl #[.slice Ao30 x6_2.length co30, .agg #[.int .i64 1, .int .i64 0, .int .i64 ((Xc l0 x8_2).f3)]] (by rfl) rfl rfl (by (try simp only [List.map_toArray, List.map_cons, List.map_nil]); first | done | rfl | (simp only [List.length_drop, List.length_take]; rfl)) ?_
             with_reducible refine (Xm.calls_R (base := w.heap.size) kj18 _ _ x6_2 1 0 ((Xc l0 x8_2).f3) t267 _ ?side1 ?side2 A27.out).mono ?_
             (case side1 => exact (ro_ HO_6))
             (case side2 => exact (Xg (hb_ HB)))
             rintro e w31 ⟨v268, rfl, ho0, hb⟩
             refine ⟨_, rfl, ?_⟩
             have n1_ := Xa.mk ho0
             have n2_ := Xa.mk (Xu (g := gb257) (o := .cells #[.int .i64 a1_0, .int .i64 a1_1, .int .i64 a1_2] 58 (0, 0)) (bk_ BK257) hb)
             have n3_ := sb_ HB hb
             clear HO_6
             clear BK257
             clear HB
             have HO269 := n1_
             have BK257 := n2_
             have HB := n3_
             clear n1_ n2_ n3_
             (try clear hb)
             (try clear hb2)
             (try clear hk)
             (try clear hi)
             (try clear ho0)
             obtain ⟨Ao32, co32, eo32⟩ := Kd.R_slice HO269.out
             (first | subst eo32 | (injection eo32 with f1_ f2_ f3_; have f4_ := f1_.symm; have f5_ := f3_.symm; clear f1_ f2_ f3_; subst f4_; subst f5_))
             refine hK.out _ _ ⟨((HB.out.cell (World.block_lt_of_cell? w _ hw266_0)).trans hw266_0), ((HB.out.cell (World.block_lt_of_cell? w _ hw266_1)).trans hw266_1), ((HB.out.cell (World.block_lt_of_cell? w _ hw266_2)).trans hw266_2), ((HB.out.cell (World.block_lt_of_cell? w _ hw266_3)).trans hw266_3), ((HB.out.cell (World.block_lt_of_cell? w _ hw266_4)).trans hw266_4), ((HB.out.cell (World.block_lt_of_cell? w _ hw270_0)).trans hw270_0), ((HB.out.cell (World.block_lt_of_cell? w _ hw270_1)).trans hw270_1), ((HB.out.cell (World.block_lt_of_cell? w _ hw270_2)).trans hw270_2), ((HB.out.cell (World.block_lt_of_cell? w _ hw270_3)).trans hw270_3), ((HB.out.cell (World.block_lt_of_cell? w _ hw270_4)).trans hw270_4)⟩ (fun hHeld => ?_)
             clear hK K
             refine Yr (a' := ?_) ?_ ?_
             rotate_left
             ·show Act.put _ (some 73) _ = _
              simp only [Act.put, sa_, s0_, s1_, XR, XS]
              rfl
             refine one_ (i := 14) (N := some 80) #[tt, tt, tt, tt, tt, tt, tt, tt, tt, tt, tt, tt, tt, tt, tt, ff] rfl rfl (Ys HT_.out (by kernel_rfl)) (by decide) (fun K hK => ?_)
             refine Y8 Try.func71 (by kernel_rfl) rfl #[.slice Ao32 t267.length co32, .agg #[.int .i64 2, .int .i64 0, .int .i64 ((Xc l0 x8_2).f4)]] (by rfl) rfl rfl (by (try simp only [List.map_toArray, List.map_cons, List.map_nil]); first | done | rfl | (simp only [List.length_drop, List.length_take]; rfl)) ?_
             with_reducible refine (Xm.calls_R (base := w.heap.size) kj18 _ _ t267 2 0 ((Xc l0 x8_2).f4) t271 _ ?side1 ?side2 A28.out).mono ?_
             (case side1 => exact (ro_ HO269))
             (case side2 => exact (Xg (hb_ HB)))
             rintro e w33 ⟨v272, rfl, ho0, hb⟩
             refine ⟨_, rfl, ?_⟩
             have n2_ := Xa.mk ho0
             have n3_ := Xa.mk (Xu (g := gb257) (o := .cells #[.int .i64 a1_0, .int .i64 a1_1, .int .i64 a1_2] 58 (0, 0)) (bk_ BK257) hb)
             have n4_ := sb_ HB hb
             clear HO_6
             clear HO269
             clear BK257
             clear HB
             have HO273 := n2_
             have BK257 := n3_
             have HB := n4_
             clear n2_ n3_ n4_
             (try clear hb)
             (try clear hb2)
             (try clear hk)
             (try clear hi)
             (try clear ho0)
             refine hK.out _ _ ⟨((HB.out.cell (World.block_lt_of_cell? w _ hw266_0)).trans hw266_0), ((HB.out.cell (World.block_lt_of_cell? w _ hw266_1)).trans hw266_1), ((HB.out.cell (World.block_lt_of_cell? w _ hw266_2)).trans hw266_2), ((HB.out.cell (World.block_lt_of_cell? w _ hw266_3)).trans hw266_3), ((HB.out.cell (World.block_lt_of_cell? w _ hw266_4)).trans hw266_4), ((HB.out.cell (World.block_lt_of_cell? w _ hw270_0)).trans hw270_0), ((HB.out.cell (World.block_lt_of_cell? w _ hw270_1)).trans hw270_1), ((HB.out.cell (World.block_lt_of_cell? w _ hw270_2)).trans hw270_2), ((HB.out.cell (World.block_lt_of_cell? w _ hw270_3)).trans hw270_3), ((HB.out.cell (World.block_lt_of_cell? w _ hw270_4)).trans hw270_4)⟩ (fun hHeld => ?_)
             clear hK K
             refine Yr (a' := ?_) ?_ ?_
             rotate_left
             ·show Act.put _ (some 80) _ = _
              simp only [Act.put, sa_, s0_, s1_, XR, XS]
              rfl
             refine pu_ 15 6 HT_ ?_
             refine YS (Yo HT_.out (by kernel_rfl)) ?_
             try go_wp2
             go_roundg kj18
             case measure => have := HJ2.out; have := HK2.out; have := HJ18.out; omega
             case rel => exact ⟨(t271), (wrap64 (x7_2 + (wrap64 ((wrap64 (ji18 - ji17)) + 1)))), (wrap64 (x8_2 + 1)), (by first | rfl | (simp; done) | (simp only [← hji17, ← hji18] <;> (first | rfl | simp)) | (simp [*]; done)), fx_, H', ⟨by have := HJ2.out; have := HK2.out; have := HJ18.out; omega⟩, ⟨by (with_reducible repeat (first | apply Kd.R_alloc | apply Kd.R_drewN | apply Kd.R_drew)); exact Kd.R_mono HO273.out (fun _ hk => trivial)⟩, BK257, ⟨hb_ HB⟩⟩
            ·rw [if_neg c26] at H
             exact absurd H (by simp)
           ·rw [if_neg c25] at H
            exact absurd H (by simp)
       ·rw [if_neg c16] at H
        exact absurd H (by simp)
      ·rw [if_neg c15] at H
       have c15b0 : decide (x8_2 < (l0.length : Int)) = false := decide_eq_false c15
       clear c15
       by_cases c34 : (wrap64 ((x6_2.length : Int) + x7_2)) > 1000
       ·rw [if_pos c34] at H
        have c34b0 : decide (1000 < (wrap64 ((x6_2.length : Int) + x7_2))) = true := decide_eq_true c34
        clear c34
        simp only [Option.some.injEq, Prod.mk.injEq] at H
        obtain ⟨rfl, rfl⟩ := H
        obtain ⟨Ao35, co35, eo35⟩ := Kd.R_slice HO_6.out
        subst eo35
        go_wp2
        go_ret2
        exact ⟨_, by first | rfl | (simp [errW_none, errW_some] <;> rfl) | (simp [*, errW_none, errW_some] <;> rfl), by first | exact Kd.R_nil _ _ _ _ _ | exact Kd.N_nil _ _ _ _ _ | exact Kd.V_nil _ _ _ _ _ | exact Kd.Q_nil _ _ _ _ _ | exact Kd.S_nil _ _ _ _ _, by repeat (first | (with_reducible first | exact HB.out | apply Xs | apply Xo | apply Xl | refine XC ?_ (Xa.out (by assumption))) | exact HB.out)⟩
       ·rw [if_neg c34] at H
        have c34b0 : decide (1000 < (wrap64 ((x6_2.length : Int) + x7_2))) = false := decide_eq_false c34
        clear c34
        have H' := Xa.mk H
        clear H
        obtain ⟨Ao36, co36, eo36⟩ := Kd.R_slice HO_6.out
        subst eo36
        obtain ⟨hcz37_0, hcz37_1, hcz37_2⟩ := bc3 BK257.out
        obtain ⟨hfz37_0, hfz37_1, hfz37_2⟩ := bf3 BK257.out
        go_wp2
        go_loopg [6, 7, 11] k2 (fun kq v6 v7 v11 w' => ∃ (x6_3 : List (S79)) (x7_3 : Int) (x11_3 : Int), v7 = .int .i64 x7_3 ∧ v11 = .int .i64 x11_3 ∧ Xa (Xd.l1 kq l0 x6_3 x7_3 x11_3 a1_0 a1_1 a1_2 = some (r1, r2)) ∧ Xa (kq ≤ k2) ∧ Xa (Kd.R k79 79 w' w.heap.size (fun _ => True) v6 x6_3) ∧ Xa (w'.heap[gb257]? = some (.cells #[.int .i64 a1_0, .int .i64 a1_1, .int .i64 a1_2] 58 (0, 0))) ∧ Xa (Below w.heap.size w w'))
        case atStart => exact ⟨(x6_2), (x7_2), (a1_1), fx_, fx_, H', ⟨Nat.le_refl _⟩, ⟨ro_ HO_6⟩, BK257, ⟨hb_ HB⟩⟩
        case round => as_aux_lemma =>
         clear H'
         clear c15b0 c34b0 hcz37_0 hcz37_1 hcz37_2 hfz37_0 hfz37_1 hfz37_2
         obtain ⟨x6_3, x7_3, x11_3, rfl, rfl, HA, HK3, HO_6, BK257, HB⟩ := hrel
         cases gk with
         | zero => exact absurd HA.out (by simp [Xd.l1])
         | succ k3 =>
          have H := HA.out
          clear HA
          simp only [Xd.l1] at H
          have HC38 := Xa.mk H
          clear H
          go_upto_region 14 with (fail)
          go_cut [101] (fun v101 wc => ∃ (kq : Nat) (x101_37 : Bool), v101 = .bool x101_37 ∧ Xa (Xd.j4 kq l0 x6_3 x7_3 x11_3 x101_37 a1_0 a1_1 a1_2 = some (r1, r2)) ∧ Xa (kq ≤ k3) ∧ Xa (Kd.R k79 79 wc w.heap.size (fun _ => True) u6 x6_3) ∧ Xa (wc.heap[gb257]? = some (.cells #[.int .i64 a1_0, .int .i64 a1_1, .int .i64 a1_2] 58 (0, 0))) ∧ Xa (Below w.heap.size w wc))
          case first => as_aux_lemma =>
           have H := HC38.out
           clear HC38
           by_cases c39 : x11_3 ≤ a1_2
           ·rw [if_pos c39] at H
            have c39b0 : decide (x11_3 ≤ a1_2) = true := decide_eq_true c39
            clear c39
            (first | rw [c39b0] | (simp only [XR, XS]; rw [c39b0]) | skip)
            have H' := Xa.mk H
            clear H
            obtain ⟨hcz40_0, hcz40_1, hcz40_2⟩ := bc3 BK257.out
            obtain ⟨hfz40_0, hfz40_1, hfz40_2⟩ := bf3 BK257.out
            go_wp2
            go_meet
            case rel => exact ⟨_, (decide (x7_3 > 0)), fx_, H', ⟨by have := HJ2.out; have := HK2.out; have := HK3.out; first | omega | exact Nat.le_refl _⟩, ⟨ro_ HO_6⟩, BK257, ⟨hb_ HB⟩⟩
           ·rw [if_neg c39] at H
            have c39b0 : decide (x11_3 ≤ a1_2) = false := decide_eq_false c39
            clear c39
            (first | rw [c39b0] | (simp only [XR, XS]; rw [c39b0]) | skip)
            have H' := Xa.mk H
            clear H
            obtain ⟨hcz41_0, hcz41_1, hcz41_2⟩ := bc3 BK257.out
            obtain ⟨hfz41_0, hfz41_1, hfz41_2⟩ := bf3 BK257.out
            go_wp2
            go_meet
            case rel => exact ⟨_, (false), fx_, H', ⟨by have := HJ2.out; have := HK2.out; have := HK3.out; first | omega | exact Nat.le_refl _⟩, ⟨ro_ HO_6⟩, BK257, ⟨hb_ HB⟩⟩
          case rest => as_aux_lemma =>
           clear HC38
           obtain ⟨kq, x101_37, rfl, HA, HJ37, HO_6, BK257, HB⟩ := hcut
           cases kq with
           | zero => exact absurd HA.out (by simp [Xd.j4])
           | succ kj37 =>
            have H := HA.out
            clear HA
            simp only [Xd.j4] at H
            by_cases c42 : x101_37 = true
            ·subst c42
             have H1 : (Xd.l2 kj37 l0 x6_3 x7_3 x11_3 0 a1_0 a1_1 a1_2) = some (r1, r2) := by rw [if_pos rfl] at H; exact H
             clear H
             have H := H1
             clear H1
             have H' := Xa.mk H
             clear H
             go_wp2
             go_loopg [6, 7, 12] kj37 (fun kq v6 v7 v12 w' => ∃ (x6_5 : List (S79)) (x7_5 : Int) (x12_5 : Int), v7 = .int .i64 x7_5 ∧ v12 = .int .i64 x12_5 ∧ Xa (Xd.l2 kq l0 x6_5 x7_5 x11_3 x12_5 a1_0 a1_1 a1_2 = some (r1, r2)) ∧ Xa (kq ≤ kj37) ∧ Xa (Kd.R k79 79 w' w.heap.size (fun _ => True) v6 x6_5) ∧ Xa (w'.heap[gb257]? = some (.cells #[.int .i64 a1_0, .int .i64 a1_1, .int .i64 a1_2] 58 (0, 0))) ∧ Xa (Below w.heap.size w w'))
             case atStart => exact ⟨(x6_3), (x7_3), (0), fx_, fx_, H', ⟨Nat.le_refl _⟩, ⟨ro_ HO_6⟩, BK257, ⟨hb_ HB⟩⟩
             case round => as_aux_lemma =>
              clear H'
              obtain ⟨x6_5, x7_5, x12_5, rfl, rfl, HA, HK5, HO_6, BK257, HB⟩ := hrel
              cases gk with
              | zero => exact absurd HA.out (by simp [Xd.l2])
              | succ k5 =>
               have H := HA.out
               clear HA
               simp only [Xd.l2] at H
               by_cases c43 : x12_5 < (l0.length : Int)
               ·rw [if_pos c43] at H
                have c43b0 : decide (x12_5 < (l0.length : Int)) = true := decide_eq_true c43
                clear c43
                by_cases c44 : 0 ≤ x12_5
                ·rw [if_pos c44] at H
                 have c44b0 : decide (0 ≤ x12_5) = true := decide_eq_true c44
                 clear c44
                 by_cases c45 : ((Xc l0 x12_5).f0) = a1_0
                 ·rw [if_pos c45] at H
                  have c45b0 : (((Xc l0 x12_5).f0) == a1_0) = true := beq_iff_eq.mpr c45
                  have c45b1 : (((Xc l0 x12_5).f0) != a1_0) = false := bne_eq_false_iff_eq.mpr c45
                  clear c45
                  replace H := Option.bind_eq_some_iff.mp H
                  obtain ⟨t277, A460, H⟩ := H; (try dsimp only at H)
                  have A46 := Xa.mk A460
                  clear A460
                  by_cases c47 : t277 = true
                  ·subst c47
                   have H1 : (if x6_5.length < 5864062014805 then (Xd.l2 k5 l0 (x6_5 ++ [(⟨3, a1_0, x11_3⟩ : S79)]) (wrap64 (x7_5 - 1)) x11_3 (wrap64 (x12_5 + 1)) a1_0 a1_1 a1_2) else (none)) = some (r1, r2) := by rw [if_pos rfl] at H; exact H
                   clear H
                   have H := H1
                   clear H1
                   by_cases c48 : x6_5.length < 5864062014805
                   ·rw [if_pos c48] at H
                    have LMc48 := Xa.mk c48
                    clear c48
                    obtain ⟨y278, hy278⟩ : ∃ y_ : List (S79), y_ = (x6_5 ++ [(⟨3, a1_0, x11_3⟩ : S79)]) := ⟨_, rfl⟩
                    replace H : (Xd.l2 k5 l0 y278 (wrap64 (x7_5 - 1)) x11_3 (wrap64 (x12_5 + 1)) a1_0 a1_1 a1_2) = some (r1, r2) := by first | (rw [hy278]; with_reducible exact H) | (have H2_ := (Option.bind_some _ _).symm.trans H; rw [hy278]; with_reducible exact H2_) | (have H2_ := (Option.bind_some _ _).symm.trans H; with_reducible exact H2_) | with_reducible exact H | (rw [hy278]; exact H) | exact H
                    have Ny278 := Xa.mk hy278
                    clear hy278
                    have H' := Xa.mk H
                    clear H
                    try go_wp2
                    have n0_ := Xa.mk (Kd.R_drew HO_6.out)
                    have n1_ := Xa.mk (X3 BK257.out)
                    have n2_ := Xa.mk (Xl HB.out)
                    clear HO_6
                    clear BK257
                    clear HB
                    have HO_6 := n0_
                    have BK257 := n1_
                    have HB := n2_
                    clear n0_ n1_ n2_
                    have p274 : 0 ≤ (x12_5 : Int) := of_decide_eq_true ‹_›
                    have q274 : x12_5 < (l0.length : Int) := of_decide_eq_true ‹_›
                    obtain ⟨ad274, e274, hx274_0, hx274_1, hx274_2, hx274_3, hx274_4⟩ := Yb HR0.out x12_5 p274 q274
                    have hw274_4 := hx274_4
                    have hw274_3 := hx274_3
                    have hw274_2 := hx274_2
                    have hw274_1 := hx274_1
                    have hw274_0 := hx274_0
                    cases e274
                    replace hx274_0 := bl_ HB hx274_0
                    replace hx274_1 := bl_ HB hx274_1
                    replace hx274_2 := bl_ HB hx274_2
                    replace hx274_3 := bl_ HB hx274_3
                    replace hx274_4 := bl_ HB hx274_4
                    replace p274 := eq_true p274
                    replace q274 := eq_true q274
                    have p275 : 0 ≤ (x12_5 : Int) := of_decide_eq_true ‹_›
                    have q275 : x12_5 < (l0.length : Int) := of_decide_eq_true ‹_›
                    obtain ⟨ad275, e275, hx275_0, hx275_1, hx275_2, hx275_3, hx275_4⟩ := Yb HR0.out x12_5 p275 q275
                    have hw275_4 := hx275_4
                    have hw275_3 := hx275_3
                    have hw275_2 := hx275_2
                    have hw275_1 := hx275_1
                    have hw275_0 := hx275_0
                    obtain rfl : ad274 = ad275 := (by injection e275)
                    replace hx275_0 := bl_ HB hx275_0
                    replace hx275_1 := bl_ HB hx275_1
                    replace hx275_2 := bl_ HB hx275_2
                    replace hx275_3 := bl_ HB hx275_3
                    replace hx275_4 := bl_ HB hx275_4
                    replace p275 := eq_true p275
                    replace q275 := eq_true q275
                    have p276 : 0 ≤ (x12_5 : Int) := of_decide_eq_true ‹_›
                    have q276 : x12_5 < (l0.length : Int) := of_decide_eq_true ‹_›
                    obtain ⟨ad276, e276, hx276_0, hx276_1, hx276_2, hx276_3, hx276_4⟩ := Yb HR0.out x12_5 p276 q276
                    have hw276_4 := hx276_4
                    have hw276_3 := hx276_3
                    have hw276_2 := hx276_2
                    have hw276_1 := hx276_1
                    have hw276_0 := hx276_0
                    obtain rfl : ad274 = ad276 := (by injection e276)
                    replace hx276_0 := bl_ HB hx276_0
                    replace hx276_1 := bl_ HB hx276_1
                    replace hx276_2 := bl_ HB hx276_2
                    replace hx276_3 := bl_ HB hx276_3
                    replace hx276_4 := bl_ HB hx276_4
                    replace p276 := eq_true p276
                    replace q276 := eq_true q276
                    refine Yy (n := 22) (S := fun w' => w'.cell? ⟨gb257, 0, none⟩ = some (.int .i64 a1_0) ∧ w'.cell? ⟨gb257, 1, none⟩ = some (.int .i64 a1_1) ∧ w'.cell? ⟨gb257, 2, none⟩ = some (.int .i64 a1_2) ∧ w'.cell? (ad274.add ((x12_5).toNat * 5)) = some (.int .i64 ((Xc l0 x12_5).f0)) ∧ w'.cell? ⟨(ad274.add ((x12_5).toNat * 5)).block, (ad274.add ((x12_5).toNat * 5)).off + 1, none⟩ = some (.int .i64 ((Xc l0 x12_5).f1)) ∧ w'.cell? ⟨(ad274.add ((x12_5).toNat * 5)).block, (ad274.add ((x12_5).toNat * 5)).off + 2, none⟩ = some (.int .i64 ((Xc l0 x12_5).f2)) ∧ w'.cell? ⟨(ad274.add ((x12_5).toNat * 5)).block, (ad274.add ((x12_5).toNat * 5)).off + 3, none⟩ = some (.int .i64 ((Xc l0 x12_5).f3)) ∧ w'.cell? ⟨(ad274.add ((x12_5).toNat * 5)).block, (ad274.add ((x12_5).toNat * 5)).off + 4, none⟩ = some (.int .i64 ((Xc l0 x12_5).f4)) ∧ w'.cell? (ad274.add ((x12_5).toNat * 5)) = some (.int .i64 ((Xc l0 x12_5).f0)) ∧ w'.cell? ⟨(ad274.add ((x12_5).toNat * 5)).block, (ad274.add ((x12_5).toNat * 5)).off + 1, none⟩ = some (.int .i64 ((Xc l0 x12_5).f1)) ∧ w'.cell? ⟨(ad274.add ((x12_5).toNat * 5)).block, (ad274.add ((x12_5).toNat * 5)).off + 2, none⟩ = some (.int .i64 ((Xc l0 x12_5).f2)) ∧ w'.cell? ⟨(ad274.add ((x12_5).toNat * 5)).block, (ad274.add ((x12_5).toNat * 5)).off + 3, none⟩ = some (.int .i64 ((Xc l0 x12_5).f3)) ∧ w'.cell? ⟨(ad274.add ((x12_5).toNat * 5)).block, (ad274.add ((x12_5).toNat * 5)).off + 4, none⟩ = some (.int .i64 ((Xc l0 x12_5).f4)) ∧ w'.cell? (ad274.add ((x12_5).toNat * 5)) = some (.int .i64 ((Xc l0 x12_5).f0)) ∧ w'.cell? ⟨(ad274.add ((x12_5).toNat * 5)).block, (ad274.add ((x12_5).toNat * 5)).off + 1, none⟩ = some (.int .i64 ((Xc l0 x12_5).f1)) ∧ w'.cell? ⟨(ad274.add ((x12_5).toNat * 5)).block, (ad274.add ((x12_5).toNat * 5)).off + 2, none⟩ = some (.int .i64 ((Xc l0 x12_5).f2)) ∧ w'.cell? ⟨(ad274.add ((x12_5).toNat * 5)).block, (ad274.add ((x12_5).toNat * 5)).off + 3, none⟩ = some (.int .i64 ((Xc l0 x12_5).f3)) ∧ w'.cell? ⟨(ad274.add ((x12_5).toNat * 5)).block, (ad274.add ((x12_5).toNat * 5)).off + 4, none⟩ = some (.int .i64 ((Xc l0 x12_5).f4))) (ds := []) #[ff, ff, ff, ff, ff, ff, ff, ff, ff, ff, ff, ff, ff, ff, ff, ff, ff, ff, ff, ff, ff, ff] (by kernel_rfl) rfl rfl ⟨(Xe BK257.out 0).trans rfl, (Xe BK257.out 1).trans rfl, (Xe BK257.out 2).trans rfl, ((HB.out.cell (World.block_lt_of_cell? w _ hw274_0)).trans hw274_0), ((HB.out.cell (World.block_lt_of_cell? w _ hw274_1)).trans hw274_1), ((HB.out.cell (World.block_lt_of_cell? w _ hw274_2)).trans hw274_2), ((HB.out.cell (World.block_lt_of_cell? w _ hw274_3)).trans hw274_3), ((HB.out.cell (World.block_lt_of_cell? w _ hw274_4)).trans hw274_4), ((HB.out.cell (World.block_lt_of_cell? w _ hw275_0)).trans hw275_0), ((HB.out.cell (World.block_lt_of_cell? w _ hw275_1)).trans hw275_1), ((HB.out.cell (World.block_lt_of_cell? w _ hw275_2)).trans hw275_2), ((HB.out.cell (World.block_lt_of_cell? w _ hw275_3)).trans hw275_3), ((HB.out.cell (World.block_lt_of_cell? w _ hw275_4)).trans hw275_4), ((HB.out.cell (World.block_lt_of_cell? w _ hw276_0)).trans hw276_0), ((HB.out.cell (World.block_lt_of_cell? w _ hw276_1)).trans hw276_1), ((HB.out.cell (World.block_lt_of_cell? w _ hw276_2)).trans hw276_2), ((HB.out.cell (World.block_lt_of_cell? w _ hw276_3)).trans hw276_3), ((HB.out.cell (World.block_lt_of_cell? w _ hw276_4)).trans hw276_4)⟩ (fun hHeld => ?_); refine X9 Xd.tab19 Xd.bits19 (fun HT_ HW_ => ?_)
                    generalize wr.drew = w49 at HO_6 BK257 HB hx274_0 hx274_1 hx274_2 hx274_3 hx274_4 hx275_0 hx275_1 hx275_2 hx275_3 hx275_4 hx276_0 hx276_1 hx276_2 hx276_3 hx276_4 hHeld ⊢
                    refine pu_ 0 110 HT_ ?_
                    refine pu_ 1 111 HT_ ?_
                    refine pu_ 2 112 HT_ ?_
                    refine pu_ 3 113 HT_ ?_
                    refine pu_ 5 115 HT_ ?_
                    refine tw_ 4 114 HT_ HW_ hHeld ?_
                    refine tw_ 6 116 HT_ HW_ hHeld ?_
                    refine pu_ 7 117 HT_ ?_
                    refine pu_ 8 118 HT_ ?_
                    refine pu_ 9 119 HT_ ?_
                    refine pu_ 10 120 HT_ ?_
                    refine pu_ 11 121 HT_ ?_
                    refine pu_ 12 122 HT_ ?_
                    refine pu_ 13 123 HT_ ?_
                    refine pu_ 15 125 HT_ ?_
                    refine pu_ 16 126 HT_ ?_
                    refine pu_ 17 127 HT_ ?_
                    refine pu_ 18 128 HT_ ?_
                    refine tw_ 14 124 HT_ HW_ hHeld ?_
                    refine tw_ 19 129 HT_ HW_ hHeld ?_
                    refine one_ (i := 20) (N := some 130) #[tt, tt, tt, tt, tt, tt, tt, tt, tt, tt, tt, tt, tt, tt, tt, tt, tt, tt, tt, tt, tt, ff] rfl rfl (Ys HT_.out (by kernel_rfl)) (by decide) (fun K hK => ?_)
                    refine Y8 Try.func19 (by kernel_rfl) rfl #[.int .i64 x11_3, .int .i64 ((Xc l0 x12_5).f1), .int .i64 ((Xc l0 x12_5).f2)] (by rfl) rfl rfl (by (try simp only [List.map_toArray, List.map_cons, List.map_nil]); first | done | rfl | (simp only [List.length_drop, List.length_take]; rfl)) ?_
                    with_reducible refine (Xj.calls x11_3 ((Xc l0 x12_5).f1) ((Xc l0 x12_5).f2) true _ A46.out).mono ?_
                    rintro e w' ⟨rfl, ⟨nd, rfl⟩⟩
                    refine ⟨_, rfl, ?_⟩
                    refine hK.out _ _ ⟨(Xe BK257.out 0).trans rfl, (Xe BK257.out 1).trans rfl, (Xe BK257.out 2).trans rfl, ((HB.out.cell (World.block_lt_of_cell? w _ hw274_0)).trans hw274_0), ((HB.out.cell (World.block_lt_of_cell? w _ hw274_1)).trans hw274_1), ((HB.out.cell (World.block_lt_of_cell? w _ hw274_2)).trans hw274_2), ((HB.out.cell (World.block_lt_of_cell? w _ hw274_3)).trans hw274_3), ((HB.out.cell (World.block_lt_of_cell? w _ hw274_4)).trans hw274_4), ((HB.out.cell (World.block_lt_of_cell? w _ hw275_0)).trans hw275_0), ((HB.out.cell (World.block_lt_of_cell? w _ hw275_1)).trans hw275_1), ((HB.out.cell (World.block_lt_of_cell? w _ hw275_2)).trans hw275_2), ((HB.out.cell (World.block_lt_of_cell? w _ hw275_3)).trans hw275_3), ((HB.out.cell (World.block_lt_of_cell? w _ hw275_4)).trans hw275_4), ((HB.out.cell (World.block_lt_of_cell? w _ hw276_0)).trans hw276_0), ((HB.out.cell (World.block_lt_of_cell? w _ hw276_1)).trans hw276_1), ((HB.out.cell (World.block_lt_of_cell? w _ hw276_2)).trans hw276_2), ((HB.out.cell (World.block_lt_of_cell? w _ hw276_3)).trans hw276_3), ((HB.out.cell (World.block_lt_of_cell? w _ hw276_4)).trans hw276_4)⟩ (fun hHeld => ?_)
                    clear hK K
                    refine Yr (a' := ?_) ?_ ?_
                    rotate_left
                    ·show Act.put _ (some 130) _ = _
                     simp only [Act.put, sa_, s0_, s1_, XR, XS]
                     rfl
                    refine pu_ 21 131 HT_ ?_
                    refine YS (Yo HT_.out (by kernel_rfl)) ?_
                    obtain ⟨hcz50_0, hcz50_1, hcz50_2⟩ := bc3 BK257.out
                    obtain ⟨hfz50_0, hfz50_1, hfz50_2⟩ := bf3 BK257.out
                    try go_wp2_with (first | ((with_reducible refine YJ (b := .append) (xs := #[.tmp 132, .tmp 137]) rfl ?_); at_builtin; refine Kd.R_append k79 (w0 := w) w.heap.size rfl (.tmp 132) (.tmp 137) 62 79 (.agg #[(.int .i64 0), (.int .i64 0), (.int .i64 0)]) 24 rfl Try.underlying62 Xae rfl (by decide) (by omega) u6 x6_5 (⟨3, a1_0, x11_3⟩ : S79) [.int .i64 3, .int .i64 a1_0, .int .i64 x11_3] (fun _ => True) (fun _ => False) rfl rfl ?aP (fun _ hk => hk.elim) ?aF ?aO ?aB ?aS ?aL ?_; (case aP => exact XbD _ _ _ (⟨3, a1_0, x11_3⟩ : S79)); (case aB => exact (hb_ HB)); (case aF => exact (fun _ _ => trivial)); (case aO => exact (ro_ HO_6)); (case aS => exact (Xg (hb_ HB))); (case aL => have := LMc48.out; omega); intro v279 w51 ho hb hg hat; rw [← Ny278.out] at ho; replace BK257 := Xa.mk (Yx (g := gb257) (o := .cells #[.int .i64 a1_0, .int .i64 a1_1, .int .i64 a1_2] 58 (0, 0)) (bk_ BK257) hg (Kd.R_ne HO_6.out BK257.out (by decide))); replace HB := Xa.mk (hb); have HO280 := Xa.mk (ho); clear HO_6; clear ho hb hg hat))
                    go_roundg k5
                    case measure => have := HJ2.out; have := HK2.out; have := HK3.out; have := HJ37.out; have := HK5.out; omega
                    case rel => exact ⟨(y278), (wrap64 (x7_5 - 1)), (wrap64 (x12_5 + 1)), fx_, fx_, H', ⟨by have := HJ2.out; have := HK2.out; have := HK3.out; have := HJ37.out; have := HK5.out; omega⟩, ⟨ro_ HO280⟩, BK257, ⟨hb_ HB⟩⟩
                   ·rw [if_neg c48] at H
                    exact absurd H (by simp)
                  ·replace c47 := Bool.eq_false_iff.mpr c47
                   subst c47
                   have H1 : (Xd.l2 k5 l0 x6_5 x7_5 x11_3 (wrap64 (x12_5 + 1)) a1_0 a1_1 a1_2) = some (r1, r2) := by rw [if_neg (show ¬ (false = true) by decide)] at H; exact H
                   clear H
                   have H := H1
                   clear H1
                   have H' := Xa.mk H
                   clear H
                   try go_wp2
                   have n0_ := Xa.mk (Kd.R_drew HO_6.out)
                   have n1_ := Xa.mk (X3 BK257.out)
                   have n2_ := Xa.mk (Xl HB.out)
                   clear HO_6
                   clear BK257
                   clear HB
                   have HO_6 := n0_
                   have BK257 := n1_
                   have HB := n2_
                   clear n0_ n1_ n2_
                   have p274 : 0 ≤ (x12_5 : Int) := of_decide_eq_true ‹_›
                   have q274 : x12_5 < (l0.length : Int) := of_decide_eq_true ‹_›
                   obtain ⟨ad274, e274, hx274_0, hx274_1, hx274_2, hx274_3, hx274_4⟩ := Yb HR0.out x12_5 p274 q274
                   have hw274_4 := hx274_4
                   have hw274_3 := hx274_3
                   have hw274_2 := hx274_2
                   have hw274_1 := hx274_1
                   have hw274_0 := hx274_0
                   cases e274
                   replace hx274_0 := bl_ HB hx274_0
                   replace hx274_1 := bl_ HB hx274_1
                   replace hx274_2 := bl_ HB hx274_2
                   replace hx274_3 := bl_ HB hx274_3
                   replace hx274_4 := bl_ HB hx274_4
                   replace p274 := eq_true p274
                   replace q274 := eq_true q274
                   have p275 : 0 ≤ (x12_5 : Int) := of_decide_eq_true ‹_›
                   have q275 : x12_5 < (l0.length : Int) := of_decide_eq_true ‹_›
                   obtain ⟨ad275, e275, hx275_0, hx275_1, hx275_2, hx275_3, hx275_4⟩ := Yb HR0.out x12_5 p275 q275
                   have hw275_4 := hx275_4
                   have hw275_3 := hx275_3
                   have hw275_2 := hx275_2
                   have hw275_1 := hx275_1
                   have hw275_0 := hx275_0
                   obtain rfl : ad274 = ad275 := (by injection e275)
                   replace hx275_0 := bl_ HB hx275_0
                   replace hx275_1 := bl_ HB hx275_1
                   replace hx275_2 := bl_ HB hx275_2
                   replace hx275_3 := bl_ HB hx275_3
                   replace hx275_4 := bl_ HB hx275_4
                   replace p275 := eq_true p275
                   replace q275 := eq_true q275
                   have p276 : 0 ≤ (x12_5 : Int) := of_decide_eq_true ‹_›
                   have q276 : x12_5 < (l0.length : Int) := of_decide_eq_true ‹_›
                   obtain ⟨ad276, e276, hx276_0, hx276_1, hx276_2, hx276_3, hx276_4⟩ := Yb HR0.out x12_5 p276 q276
                   have hw276_4 := hx276_4
                   have hw276_3 := hx276_3
                   have hw276_2 := hx276_2
                   have hw276_1 := hx276_1
                   have hw276_0 := hx276_0
                   obtain rfl : ad274 = ad276 := (by injection e276)
                   replace hx276_0 := bl_ HB hx276_0
                   replace hx276_1 := bl_ HB hx276_1
                   replace hx276_2 := bl_ HB hx276_2
                   replace hx276_3 := bl_ HB hx276_3
                   replace hx276_4 := bl_ HB hx276_4
                   replace p276 := eq_true p276
                   replace q276 := eq_true q276
                   refine Yy (n := 22) (S := fun w' => w'.cell? ⟨gb257, 0, none⟩ = some (.int .i64 a1_0) ∧ w'.cell? ⟨gb257, 1, none⟩ = some (.int .i64 a1_1) ∧ w'.cell? ⟨gb257, 2, none⟩ = some (.int .i64 a1_2) ∧ w'.cell? (ad274.add ((x12_5).toNat * 5)) = some (.int .i64 ((Xc l0 x12_5).f0)) ∧ w'.cell? ⟨(ad274.add ((x12_5).toNat * 5)).block, (ad274.add ((x12_5).toNat * 5)).off + 1, none⟩ = some (.int .i64 ((Xc l0 x12_5).f1)) ∧ w'.cell? ⟨(ad274.add ((x12_5).toNat * 5)).block, (ad274.add ((x12_5).toNat * 5)).off + 2, none⟩ = some (.int .i64 ((Xc l0 x12_5).f2)) ∧ w'.cell? ⟨(ad274.add ((x12_5).toNat * 5)).block, (ad274.add ((x12_5).toNat * 5)).off + 3, none⟩ = some (.int .i64 ((Xc l0 x12_5).f3)) ∧ w'.cell? ⟨(ad274.add ((x12_5).toNat * 5)).block, (ad274.add ((x12_5).toNat * 5)).off + 4, none⟩ = some (.int .i64 ((Xc l0 x12_5).f4)) ∧ w'.cell? (ad274.add ((x12_5).toNat * 5)) = some (.int .i64 ((Xc l0 x12_5).f0)) ∧ w'.cell? ⟨(ad274.add ((x12_5).toNat * 5)).block, (ad274.add ((x12_5).toNat * 5)).off + 1, none⟩ = some (.int .i64 ((Xc l0 x12_5).f1)) ∧ w'.cell? ⟨(ad274.add ((x12_5).toNat * 5)).block, (ad274.add ((x12_5).toNat * 5)).off + 2, none⟩ = some (.int .i64 ((Xc l0 x12_5).f2)) ∧ w'.cell? ⟨(ad274.add ((x12_5).toNat * 5)).block, (ad274.add ((x12_5).toNat * 5)).off + 3, none⟩ = some (.int .i64 ((Xc l0 x12_5).f3)) ∧ w'.cell? ⟨(ad274.add ((x12_5).toNat * 5)).block, (ad274.add ((x12_5).toNat * 5)).off + 4, none⟩ = some (.int .i64 ((Xc l0 x12_5).f4)) ∧ w'.cell? (ad274.add ((x12_5).toNat * 5)) = some (.int .i64 ((Xc l0 x12_5).f0)) ∧ w'.cell? ⟨(ad274.add ((x12_5).toNat * 5)).block, (ad274.add ((x12_5).toNat * 5)).off + 1, none⟩ = some (.int .i64 ((Xc l0 x12_5).f1)) ∧ w'.cell? ⟨(ad274.add ((x12_5).toNat * 5)).block, (ad274.add ((x12_5).toNat * 5)).off + 2, none⟩ = some (.int .i64 ((Xc l0 x12_5).f2)) ∧ w'.cell? ⟨(ad274.add ((x12_5).toNat * 5)).block, (ad274.add ((x12_5).toNat * 5)).off + 3, none⟩ = some (.int .i64 ((Xc l0 x12_5).f3)) ∧ w'.cell? ⟨(ad274.add ((x12_5).toNat * 5)).block, (ad274.add ((x12_5).toNat * 5)).off + 4, none⟩ = some (.int .i64 ((Xc l0 x12_5).f4))) (ds := []) #[ff, ff, ff, ff, ff, ff, ff, ff, ff, ff, ff, ff, ff, ff, ff, ff, ff, ff, ff, ff, ff, ff] (by kernel_rfl) rfl rfl ⟨(Xe BK257.out 0).trans rfl, (Xe BK257.out 1).trans rfl, (Xe BK257.out 2).trans rfl, ((HB.out.cell (World.block_lt_of_cell? w _ hw274_0)).trans hw274_0), ((HB.out.cell (World.block_lt_of_cell? w _ hw274_1)).trans hw274_1), ((HB.out.cell (World.block_lt_of_cell? w _ hw274_2)).trans hw274_2), ((HB.out.cell (World.block_lt_of_cell? w _ hw274_3)).trans hw274_3), ((HB.out.cell (World.block_lt_of_cell? w _ hw274_4)).trans hw274_4), ((HB.out.cell (World.block_lt_of_cell? w _ hw275_0)).trans hw275_0), ((HB.out.cell (World.block_lt_of_cell? w _ hw275_1)).trans hw275_1), ((HB.out.cell (World.block_lt_of_cell? w _ hw275_2)).trans hw275_2), ((HB.out.cell (World.block_lt_of_cell? w _ hw275_3)).trans hw275_3), ((HB.out.cell (World.block_lt_of_cell? w _ hw275_4)).trans hw275_4), ((HB.out.cell (World.block_lt_of_cell? w _ hw276_0)).trans hw276_0), ((HB.out.cell (World.block_lt_of_cell? w _ hw276_1)).trans hw276_1), ((HB.out.cell (World.block_lt_of_cell? w _ hw276_2)).trans hw276_2), ((HB.out.cell (World.block_lt_of_cell? w _ hw276_3)).trans hw276_3), ((HB.out.cell (World.block_lt_of_cell? w _ hw276_4)).trans hw276_4)⟩ (fun hHeld => ?_); refine X9 Xd.tab19 Xd.bits19 (fun HT_ HW_ => ?_)
                   generalize wr.drew = w52 at HO_6 BK257 HB hx274_0 hx274_1 hx274_2 hx274_3 hx274_4 hx275_0 hx275_1 hx275_2 hx275_3 hx275_4 hx276_0 hx276_1 hx276_2 hx276_3 hx276_4 hHeld ⊢
                   refine pu_ 0 110 HT_ ?_
                   refine pu_ 1 111 HT_ ?_
                   refine pu_ 2 112 HT_ ?_
                   refine pu_ 3 113 HT_ ?_
                   refine pu_ 5 115 HT_ ?_
                   refine tw_ 4 114 HT_ HW_ hHeld ?_
                   refine tw_ 6 116 HT_ HW_ hHeld ?_
                   refine pu_ 7 117 HT_ ?_
                   refine pu_ 8 118 HT_ ?_
                   refine pu_ 9 119 HT_ ?_
                   refine pu_ 10 120 HT_ ?_
                   refine pu_ 11 121 HT_ ?_
                   refine pu_ 12 122 HT_ ?_
                   refine pu_ 13 123 HT_ ?_
                   refine pu_ 15 125 HT_ ?_
                   refine pu_ 16 126 HT_ ?_
                   refine pu_ 17 127 HT_ ?_
                   refine pu_ 18 128 HT_ ?_
                   refine tw_ 14 124 HT_ HW_ hHeld ?_
                   refine tw_ 19 129 HT_ HW_ hHeld ?_
                   refine one_ (i := 20) (N := some 130) #[tt, tt, tt, tt, tt, tt, tt, tt, tt, tt, tt, tt, tt, tt, tt, tt, tt, tt, tt, tt, tt, ff] rfl rfl (Ys HT_.out (by kernel_rfl)) (by decide) (fun K hK => ?_)
                   refine Y8 Try.func19 (by kernel_rfl) rfl #[.int .i64 x11_3, .int .i64 ((Xc l0 x12_5).f1), .int .i64 ((Xc l0 x12_5).f2)] (by rfl) rfl rfl (by (try simp only [List.map_toArray, List.map_cons, List.map_nil]); first | done | rfl | (simp only [List.length_drop, List.length_take]; rfl)) ?_
                   with_reducible refine (Xj.calls x11_3 ((Xc l0 x12_5).f1) ((Xc l0 x12_5).f2) false _ A46.out).mono ?_
                   rintro e w' ⟨rfl, ⟨nd, rfl⟩⟩
                   refine ⟨_, rfl, ?_⟩
                   refine hK.out _ _ ⟨(Xe BK257.out 0).trans rfl, (Xe BK257.out 1).trans rfl, (Xe BK257.out 2).trans rfl, ((HB.out.cell (World.block_lt_of_cell? w _ hw274_0)).trans hw274_0), ((HB.out.cell (World.block_lt_of_cell? w _ hw274_1)).trans hw274_1), ((HB.out.cell (World.block_lt_of_cell? w _ hw274_2)).trans hw274_2), ((HB.out.cell (World.block_lt_of_cell? w _ hw274_3)).trans hw274_3), ((HB.out.cell (World.block_lt_of_cell? w _ hw274_4)).trans hw274_4), ((HB.out.cell (World.block_lt_of_cell? w _ hw275_0)).trans hw275_0), ((HB.out.cell (World.block_lt_of_cell? w _ hw275_1)).trans hw275_1), ((HB.out.cell (World.block_lt_of_cell? w _ hw275_2)).trans hw275_2), ((HB.out.cell (World.block_lt_of_cell? w _ hw275_3)).trans hw275_3), ((HB.out.cell (World.block_lt_of_cell? w _ hw275_4)).trans hw275_4), ((HB.out.cell (World.block_lt_of_cell? w _ hw276_0)).trans hw276_0), ((HB.out.cell (World.block_lt_of_cell? w _ hw276_1)).trans hw276_1), ((HB.out.cell (World.block_lt_of_cell? w _ hw276_2)).trans hw276_2), ((HB.out.cell (World.block_lt_of_cell? w _ hw276_3)).trans hw276_3), ((HB.out.cell (World.block_lt_of_cell? w _ hw276_4)).trans hw276_4)⟩ (fun hHeld => ?_)
                   clear hK K
                   refine Yr (a' := ?_) ?_ ?_
                   rotate_left
                   ·show Act.put _ (some 130) _ = _
                    simp only [Act.put, sa_, s0_, s1_, XR, XS]
                    rfl
                   refine pu_ 21 131 HT_ ?_
                   refine YS (Yo HT_.out (by kernel_rfl)) ?_
                   try go_wp2
                   go_roundg k5
                   case measure => have := HJ2.out; have := HK2.out; have := HK3.out; have := HJ37.out; have := HK5.out; omega
                   case rel => exact ⟨(x6_5), (x7_5), (wrap64 (x12_5 + 1)), fx_, fx_, H', ⟨by have := HJ2.out; have := HK2.out; have := HK3.out; have := HJ37.out; have := HK5.out; omega⟩, ⟨ro_ HO_6⟩, BK257, ⟨hb_ HB⟩⟩
                 ·rw [if_neg c45] at H
                  have c45b0 : (((Xc l0 x12_5).f0) == a1_0) = false := beq_eq_false_iff_ne.mpr c45
                  have c45b1 : (((Xc l0 x12_5).f0) != a1_0) = true := bne_iff_ne.mpr c45
                  have H' := Xa.mk H
                  clear H
                  try go_wp2
                  have n0_ := Xa.mk (Kd.R_drew HO_6.out)
                  have n1_ := Xa.mk (X3 BK257.out)
                  have n2_ := Xa.mk (Xl HB.out)
                  clear HO_6
                  clear BK257
                  clear HB
                  have HO_6 := n0_
                  have BK257 := n1_
                  have HB := n2_
                  clear n0_ n1_ n2_
                  have p274 : 0 ≤ (x12_5 : Int) := of_decide_eq_true ‹_›
                  have q274 : x12_5 < (l0.length : Int) := of_decide_eq_true ‹_›
                  obtain ⟨ad274, e274, hx274_0, hx274_1, hx274_2, hx274_3, hx274_4⟩ := Yb HR0.out x12_5 p274 q274
                  have hw274_4 := hx274_4
                  have hw274_3 := hx274_3
                  have hw274_2 := hx274_2
                  have hw274_1 := hx274_1
                  have hw274_0 := hx274_0
                  cases e274
                  replace hx274_0 := bl_ HB hx274_0
                  replace hx274_1 := bl_ HB hx274_1
                  replace hx274_2 := bl_ HB hx274_2
                  replace hx274_3 := bl_ HB hx274_3
                  replace hx274_4 := bl_ HB hx274_4
                  replace p274 := eq_true p274
                  replace q274 := eq_true q274
                  refine Yy (n := 22) (S := fun w' => w'.cell? ⟨gb257, 0, none⟩ = some (.int .i64 a1_0) ∧ w'.cell? ⟨gb257, 1, none⟩ = some (.int .i64 a1_1) ∧ w'.cell? ⟨gb257, 2, none⟩ = some (.int .i64 a1_2) ∧ w'.cell? (ad274.add ((x12_5).toNat * 5)) = some (.int .i64 ((Xc l0 x12_5).f0)) ∧ w'.cell? ⟨(ad274.add ((x12_5).toNat * 5)).block, (ad274.add ((x12_5).toNat * 5)).off + 1, none⟩ = some (.int .i64 ((Xc l0 x12_5).f1)) ∧ w'.cell? ⟨(ad274.add ((x12_5).toNat * 5)).block, (ad274.add ((x12_5).toNat * 5)).off + 2, none⟩ = some (.int .i64 ((Xc l0 x12_5).f2)) ∧ w'.cell? ⟨(ad274.add ((x12_5).toNat * 5)).block, (ad274.add ((x12_5).toNat * 5)).off + 3, none⟩ = some (.int .i64 ((Xc l0 x12_5).f3)) ∧ w'.cell? ⟨(ad274.add ((x12_5).toNat * 5)).block, (ad274.add ((x12_5).toNat * 5)).off + 4, none⟩ = some (.int .i64 ((Xc l0 x12_5).f4))) (ds := []) #[ff, ff, ff, ff, ff, ff, ff, ff, ff, ff, ff, ff, ff, ff, ff, ff, ff, ff, ff, ff, ff, ff] (by kernel_rfl) rfl rfl ⟨(Xe BK257.out 0).trans rfl, (Xe BK257.out 1).trans rfl, (Xe BK257.out 2).trans rfl, ((HB.out.cell (World.block_lt_of_cell? w _ hw274_0)).trans hw274_0), ((HB.out.cell (World.block_lt_of_cell? w _ hw274_1)).trans hw274_1), ((HB.out.cell (World.block_lt_of_cell? w _ hw274_2)).trans hw274_2), ((HB.out.cell (World.block_lt_of_cell? w _ hw274_3)).trans hw274_3), ((HB.out.cell (World.block_lt_of_cell? w _ hw274_4)).trans hw274_4)⟩ (fun hHeld => ?_); refine X9 Xd.tab19 Xd.bits19 (fun HT_ HW_ => ?_)
                  generalize wr.drew = w53 at HO_6 BK257 HB hx274_0 hx274_1 hx274_2 hx274_3 hx274_4 hHeld ⊢
                  refine pu_ 0 110 HT_ ?_
                  refine pu_ 1 111 HT_ ?_
                  refine pu_ 2 112 HT_ ?_
                  refine pu_ 3 113 HT_ ?_
                  refine pu_ 5 115 HT_ ?_
                  refine tw_ 4 114 HT_ HW_ hHeld ?_
                  refine tw_ 6 116 HT_ HW_ hHeld ?_
                  refine pu_ 7 117 HT_ ?_
                  refine pu_ 8 118 HT_ ?_
                  refine po_ 9 119 HT_ ?_
                  refine po_ 10 120 HT_ ?_
                  refine po_ 11 121 HT_ ?_
                  refine po_ 12 122 HT_ ?_
                  refine po_ 13 123 HT_ ?_
                  refine po_ 14 124 HT_ ?_
                  refine po_ 15 125 HT_ ?_
                  refine po_ 16 126 HT_ ?_
                  refine po_ 17 127 HT_ ?_
                  refine po_ 18 128 HT_ ?_
                  refine po_ 19 129 HT_ ?_
                  refine po_ 20 130 HT_ ?_
                  refine pu_ 21 131 HT_ ?_
                  refine YS (Yo HT_.out (by kernel_rfl)) ?_
                  try go_wp2
                  go_roundg k5
                  case measure => have := HJ2.out; have := HK2.out; have := HK3.out; have := HJ37.out; have := HK5.out; omega
                  case rel => exact ⟨(x6_5), (x7_5), (wrap64 (x12_5 + 1)), fx_, fx_, H', ⟨by have := HJ2.out; have := HK2.out; have := HK3.out; have := HJ37.out; have := HK5.out; omega⟩, ⟨ro_ HO_6⟩, BK257, ⟨hb_ HB⟩⟩
                ·rw [if_neg c44] at H
                 exact absurd H (by simp)
               ·rw [if_neg c43] at H
                have c43b0 : decide (x12_5 < (l0.length : Int)) = false := decide_eq_false c43
                clear c43
                have H' := Xa.mk H
                clear H
                go_wp2
                go_roundg k5
                case measure => have := HJ2.out; have := HK2.out; have := HK3.out; have := HJ37.out; have := HK5.out; omega
                case rel => exact ⟨(x6_5), (x7_5), (wrap64 (x11_3 + 1)), fx_, fx_, H', ⟨by have := HJ2.out; have := HK2.out; have := HK3.out; have := HJ37.out; have := HK5.out; omega⟩, ⟨ro_ HO_6⟩, BK257, ⟨hb_ HB⟩⟩
            ·replace c42 := Bool.eq_false_iff.mpr c42
             subst c42
             have H1 : (some (x6_3, 0)) = some (r1, r2) := by rw [if_neg (show ¬ (false = true) by decide)] at H; exact H
             clear H
             have H := H1
             clear H1
             simp only [Option.some.injEq, Prod.mk.injEq] at H
             obtain ⟨rfl, rfl⟩ := H
             go_wp2
             go_ret2
             exact ⟨_, by first | rfl | (simp [errW_none, errW_some] <;> rfl) | (simp [*, errW_none, errW_some] <;> rfl), by (with_reducible repeat (first | apply Kd.R_alloc | apply Kd.R_drewN | apply Kd.R_drew)); exact HO_6.out, by repeat (first | (with_reducible first | exact HB.out | apply Xs | apply Xo | apply Xl | refine XC ?_ (Xa.out (by assumption))) | exact HB.out)⟩

end Go.Proofs.Ytiaiecfnpompcaa.T
namespace Go.Proofs.Ytiaiecfnpompcaa.T
open Go.RowKit Go.Proofs.YtiaiecfnpompcaaW.PrintWords Go.Proofs.YtiaiecfnpompcaaW.PrintLast Go.Proofs.YtiaiecfnpompcaaW.PrintMore
attribute [local go_sem] XX XW X6 X5 XQ XP X0 XZ
set_option linter.unusedVariables false
set_option linter.unusedSimpArgs false
attribute [local go_sem] XO

def Xx.l0 : Nat → List (S144) → List (S58) → List (List (S79)) → Int → Option ((List (List (S79))) × Int)
 | 0, _, _, _, _ => none
 | k + 1, x0, x1, x6, x7 => if x7 < (x1.length : Int) then (if 0 ≤ x7 then ((Xd.f k x0 ((XJ x1 x7).f0) ((XJ x1 x7).f1) ((XJ x1 x7).f2)).bind fun bt436 => (if bt436.2 = 0 then (if x6.length < 5864062014805 then (Xx.l0 k x0 x1 (x6 ++ [bt436.1]) (wrap64 (x7 + 1))) else (none)) else (some (([] : List (List (S79))), bt436.2)))) else (none)) else (some (x6, 0))
def Xx.f (k : Nat) (l0 : List (S144)) (l1 : List (S58)) : Option ((List (List (S79))) × Int) := Xx.l0 k l0 l1 (([] : List (List (S79)))) 0
set_option maxHeartbeats 8000000 in
set_option maxRecDepth 100000 in
theorem Xx.calls (k : Nat) (A0 : Option Addr) (c0 : Nat) (l0 : List (S144)) (A1 : Option Addr) (c1 : Nat) (l1 : List (S58)) (r1 : List (List (S79))) (r2 : Int) (w : World) (hr0 : Kd.C k144 w A0 l0.length l0) (hc0 : l0.length ≤ c0) (hr1 : Kd.C k58 w A1 l1.length l1) (hc1 : l1.length ≤ c1) (h : Xx.f k l0 l1 = some (r1, r2)) :
  Calls Try.prog 46 #[.slice A0 l0.length c0, .slice A1 l1.length c1] w fun e w' => ∃ v0_ : Value, e = .returned (.tuple #[v0_, .int .i64 r2]) ∧ Kd.S (Kd.slice 79 k79) 62 w' w.heap.size (fun _ => True) v0_ r1 ∧ Below w.heap.size w w' := by
 have hu58 := Try.underlying58
 have HR0 := Xa.mk hr0
 have HC0 := Xa.mk hc0
 clear hr0 hc0
 have HR1 := Xa.mk hr1
 have HC1 := Xa.mk hc1
 clear hr1 hc1
 have HB := Xa.mk (Below.refl w.heap.size w)
 have H : (Xx.l0 k l0 l1 (([] : List (List (S79)))) 0) = some (r1, r2) := h
 clear h
 obtain ⟨y432, hy432⟩ : ∃ y_ : List (List (S79)), y_ = (([] : List (List (S79)))) := ⟨_, rfl⟩
 replace H : (Xx.l0 k l0 l1 y432 0) = some (r1, r2) := by first | (rw [hy432]; with_reducible exact H) | (have H2_ := (Option.bind_some _ _).symm.trans H; rw [hy432]; with_reducible exact H2_) | (have H2_ := (Option.bind_some _ _).symm.trans H; with_reducible exact H2_) | with_reducible exact H | (rw [hy432]; exact H) | exact H
 have Ny432 := Xa.mk hy432
 clear hy432
 have H' := Xa.mk H
 clear H
 go_enter Try.func46, Try.ntmps46
 go_wp2_with (first | ((with_reducible refine Xz (N := 10) rfl ?_); refine Kd.S_lit (Kd.slice 79 k79) _ 62 ?hg (N := 10) ?hd (xs := ([] : List (List (S79)))) (inner := []) (ok := fun _ => True) (okp := fun _ => True) ?hr ?hp (fun _ hk => hk) trivial (Below.refl _ _) (Nat.le_refl _) (by simp) ?_; (case hd => rfl); (case hg => rfl); (case hr => first | (go_simp; done) | (go_simp; rfl)); (case hp => exact (Reps.none _ _)); intro v433 w3 ho4 hb hg_ hnew_; clear hg_ hnew_; (first | rw [← Ny432.out] at ho4 | (simp only [Int.reduceToNat] at ho4; rw [← Ny432.out] at ho4)); have HO434 := Xa.mk (Kd.S_lower ho4 (Xg HB.out)); replace HB := Xa.mk (Xi HB.out hb); clear hb ho4))
 go_loopg [6, 7] k (fun kq v6 v7 w' => ∃ (x6_1 : List (List (S79))) (x7_1 : Int), v7 = .int .i64 x7_1 ∧ Xa (Xx.l0 kq l0 l1 x6_1 x7_1 = some (r1, r2)) ∧ Xa (kq ≤ k) ∧ Xa (Kd.S (Kd.slice 79 k79) 62 w' w.heap.size (fun _ => True) v6 x6_1) ∧ Xa (Below w.heap.size w w'))
 case atStart => exact ⟨(y432), (0), fx_, H', ⟨Nat.le_refl _⟩, ⟨by (with_reducible repeat (first | apply Kd.S_alloc | apply Kd.S_drewN | apply Kd.S_drew)); exact HO434.out⟩, ⟨hb_ HB⟩⟩
 case round =>
  clear H'
  try clear c1; try clear p2; try clear c4
  obtain ⟨x6_1, x7_1, rfl, HA, HK1, HO_6, HB⟩ := hrel
  cases gk with
  | zero => exact absurd HA.out (by simp [Xx.l0])
  | succ k1 =>
   have H := HA.out
   clear HA
   simp only [Xx.l0] at H
   by_cases c5 : x7_1 < (l1.length : Int)
   ·rw [if_pos c5] at H
    have c5b0 : decide (x7_1 < (l1.length : Int)) = true := decide_eq_true c5
    clear c5
    by_cases c6 : 0 ≤ x7_1
    ·rw [if_pos c6] at H
     have c6b0 : decide (0 ≤ x7_1) = true := decide_eq_true c6
     clear c6
     replace H := Option.bind_eq_some_iff.mp H
     obtain ⟨⟨t436, t439⟩, A70, H⟩ := H; (try dsimp only at H)
     have A7 := Xa.mk A70
     clear A70
     by_cases c8 : t439 = 0
     ·rw [if_pos c8] at H
      have c8b0 : (t439 == 0) = true := beq_iff_eq.mpr c8
      have c8b1 : (t439 != 0) = false := bne_eq_false_iff_eq.mpr c8
      clear c8
      by_cases c9 : x6_1.length < 5864062014805
      ·rw [if_pos c9] at H
       have LMc9 := Xa.mk c9
       clear c9
       obtain ⟨y440, hy440⟩ : ∃ y_ : List (List (S79)), y_ = (x6_1 ++ [t436]) := ⟨_, rfl⟩
       replace H : (Xx.l0 k1 l0 l1 y440 (wrap64 (x7_1 + 1))) = some (r1, r2) := by first | (rw [hy440]; with_reducible exact H) | (have H2_ := (Option.bind_some _ _).symm.trans H; rw [hy440]; with_reducible exact H2_) | (have H2_ := (Option.bind_some _ _).symm.trans H; with_reducible exact H2_) | with_reducible exact H | (rw [hy440]; exact H) | exact H
       have Ny440 := Xa.mk hy440
       clear hy440
       have H' := Xa.mk H
       clear H
       have p435 : 0 ≤ (x7_1 : Int) := of_decide_eq_true ‹_›
       have q435 : x7_1 < (l1.length : Int) := of_decide_eq_true ‹_›
       obtain ⟨ad435, e435, hx435_0, hx435_1, hx435_2⟩ := YW HR1.out x7_1 p435 q435
       cases e435
       replace hx435_0 := bl_ HB hx435_0
       replace hx435_1 := bl_ HB hx435_1
       replace hx435_2 := bl_ HB hx435_2
       replace p435 := eq_true p435
       replace q435 := eq_true q435
       go_wp2_with (first | ((with_reducible refine Xp (f := 36) rfl ?_); refine XL (some 23) rfl rfl Try.func36 (by kernel_rfl) rfl #[.slice A0 l0.length c0, .agg #[.int .i64 ((XJ l1 x7_1).f0), .int .i64 ((XJ l1 x7_1).f1), .int .i64 ((XJ l1 x7_1).f2)]] rfl (by (try simp only [List.map_toArray, List.map_cons, List.map_nil]); first | done | rfl | (simp only [List.length_drop, List.length_take]; rfl)) ?_; (with_reducible refine (Xd.calls k1 _ _ l0 ((XJ l1 x7_1).f0) ((XJ l1 x7_1).f1) ((XJ l1 x7_1).f2) t436 t439 _ ?side1 ?side2 A7.out).mono ?_); (case side1 => exact cA_ (Kd.C_below HR0.out HB.out)); (case side2 => exact HC0.out); rintro e w10 ⟨v437, rfl, ho0, hb⟩; refine ⟨_, rfl, ?_⟩; replace HO_6 := Xa.mk (Kd.S_elder' (by (with_reducible repeat (first | apply Kd.S_alloc | apply Kd.S_drewN | apply Kd.S_drew)); exact HO_6.out) (Kd.R_base ho0) hb); have HO438 := Xa.mk (Kd.R_lower ho0 (Xg HB.out)); replace HB := Xa.mk (Xi HB.out hb); (try clear hb); (try clear hb2); (try clear hk); (try clear hi); (try clear ho0); obtain ⟨Ao12, co12, eo12⟩ := Kd.R_slice HO438.out; subst eo12) | ((with_reducible refine YJ (b := .append) (xs := #[.tmp 29, .tmp 31]) rfl ?_); at_builtin; refine Kd.S_append (Kd.slice 79 k79) (w0 := w) w.heap.size rfl (.tmp 29) (.tmp 31) 84 62 (.slice none 0 0) 24 rfl Try.underlying84 Xis rfl (by decide) (by omega) u6 x6_1 t436 [.slice Ao12 t436.length co12] (fun _ => True) (fun k_ => some k_ = (.slice Ao12 t436.length co12 : Value).ownBlock) rfl rfl ?aP (fun k_ hk_ => ((Kd.R_mono (ok' := fun k_ => ((fun _ => True)) k_ ∧ some k_ ≠ (u6 : Value).ownBlock) (Kd.R_apart' (HO438.out) (Kd.S_typed HO_6.out) (by decide)) (fun k_ hk => ⟨trivial, hk.2⟩))).1 k_ hk_.symm) ?aF ?aO ?aB ?aS ?aL ?_; (case aP => exact Kd.M_row (Kd.R_mono (Kd.R_tight rfl (Kd.R_mono (ok' := fun k_ => ((fun _ => True)) k_ ∧ some k_ ≠ (u6 : Value).ownBlock) (Kd.R_apart' (HO438.out) (Kd.S_typed HO_6.out) (by decide)) (fun k_ hk => ⟨trivial, hk.2⟩))) (fun _ h_ => h_))); (case aB => exact HB.out); (case aF => exact (fun _ _ => trivial)); (case aO => exact (by (with_reducible repeat (first | apply Kd.S_alloc | apply Kd.S_drewN | apply Kd.S_drew)); exact Kd.S_mono HO_6.out (fun k_ hk => ⟨trivial, fun e_ => hk.2 e_⟩))); (case aS => exact (Xg HB.out)); (case aL => have := LMc9.out; omega); intro v441 w11 ho hb hg hat; rw [← Ny440.out] at ho; replace HB := Xa.mk (hb); have HO442 := Xa.mk (ho); clear HO_6 HO438; clear ho hb hg hat))
       go_roundg k1
       case measure => have := HK1.out; omega
       case rel => exact ⟨(y440), (wrap64 (x7_1 + 1)), fx_, H', ⟨by have := HK1.out; omega⟩, ⟨by (with_reducible repeat (first | apply Kd.S_alloc | apply Kd.S_drewN | apply Kd.S_drew)); exact HO442.out⟩, ⟨hb_ HB⟩⟩
      ·rw [if_neg c9] at H
       exact absurd H (by simp)
     ·rw [if_neg c8] at H
      have c8b0 : (t439 == 0) = false := beq_eq_false_iff_ne.mpr c8
      have c8b1 : (t439 != 0) = true := bne_iff_ne.mpr c8
      simp only [Option.some.injEq, Prod.mk.injEq] at H
      obtain ⟨rfl, rfl⟩ := H
      have p435 : 0 ≤ (x7_1 : Int) := of_decide_eq_true ‹_›
      have q435 : x7_1 < (l1.length : Int) := of_decide_eq_true ‹_›
      obtain ⟨ad435, e435, hx435_0, hx435_1, hx435_2⟩ := YW HR1.out x7_1 p435 q435
      cases e435
      replace hx435_0 := bl_ HB hx435_0
      replace hx435_1 := bl_ HB hx435_1
      replace hx435_2 := bl_ HB hx435_2
      replace p435 := eq_true p435
      replace q435 := eq_true q435
      go_wp2_with (first | ((with_reducible refine Xp (f := 36) rfl ?_); refine XL (some 23) rfl rfl Try.func36 (by kernel_rfl) rfl #[.slice A0 l0.length c0, .agg #[.int .i64 ((XJ l1 x7_1).f0), .int .i64 ((XJ l1 x7_1).f1), .int .i64 ((XJ l1 x7_1).f2)]] rfl (by (try simp only [List.map_toArray, List.map_cons, List.map_nil]); first | done | rfl | (simp only [List.length_drop, List.length_take]; rfl)) ?_; (with_reducible refine (Xd.calls k1 _ _ l0 ((XJ l1 x7_1).f0) ((XJ l1 x7_1).f1) ((XJ l1 x7_1).f2) t436 t439 _ ?side1 ?side2 A7.out).mono ?_); (case side1 => exact cA_ (Kd.C_below HR0.out HB.out)); (case side2 => exact HC0.out); rintro e w13 ⟨v437, rfl, ho0, hb⟩; refine ⟨_, rfl, ?_⟩; replace HO_6 := Xa.mk (Kd.S_elder' (by (with_reducible repeat (first | apply Kd.S_alloc | apply Kd.S_drewN | apply Kd.S_drew)); exact HO_6.out) (Kd.R_base ho0) hb); have HO438 := Xa.mk (Kd.R_lower ho0 (Xg HB.out)); replace HB := Xa.mk (Xi HB.out hb); (try clear hb); (try clear hb2); (try clear hk); (try clear hi); (try clear ho0)))
      go_ret2
      exact ⟨_, by first | rfl | (simp [errW_none, errW_some] <;> rfl) | (simp [*, errW_none, errW_some] <;> rfl), by first | exact Kd.S_nil _ _ _ _ _ | exact Kd.N_nil _ _ _ _ _ | exact Kd.V_nil _ _ _ _ _ | exact Kd.Q_nil _ _ _ _ _ | exact Kd.R_nil _ _ _ _ _, by repeat (first | (with_reducible first | exact HB.out | apply Xs | apply Xo | apply Xl) | exact HB.out)⟩
    ·rw [if_neg c6] at H
     exact absurd H (by simp)
   ·rw [if_neg c5] at H
    have c5b0 : decide (x7_1 < (l1.length : Int)) = false := decide_eq_false c5
    clear c5
    simp only [Option.some.injEq, Prod.mk.injEq] at H
    obtain ⟨rfl, rfl⟩ := H
    go_wp2
    go_ret2
    exact ⟨_, by first | rfl | (simp [errW_none, errW_some] <;> rfl) | (simp [*, errW_none, errW_some] <;> rfl), by (with_reducible repeat (first | apply Kd.S_alloc | apply Kd.S_drewN | apply Kd.S_drew)); exact HO_6.out, by repeat (first | (with_reducible first | exact HB.out | apply Xs | apply Xo | apply Xl) | exact HB.out)⟩

end Go.Proofs.Ytiaiecfnpompcaa.T
