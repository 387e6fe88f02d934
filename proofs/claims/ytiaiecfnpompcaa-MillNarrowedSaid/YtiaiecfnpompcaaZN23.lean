-- cut down, squeezed and laid together by pack.py (a program of this repository) out of this seat's texts
import Derived.WalkKit
import Derived.MapKept
import Derived.RangeFuncNested
import Derived.RangeFuncBound
import Derived.RangeFuncCalls
import Derived.RangeFuncLeaves
import Derived.Shelf.Abstract
import Derived.Shelf.RegionOpen
import Derived.OwnWalkIn
import Derived.TacticsInMore
import Derived.LoopNIn
import Derived.LoopIn
import Derived.ChangeKeysEq
import Derived.ProofKit
import Derived.OpenShut
import Derived.ShutString
import Derived.ChangeOld
import Derived.Below
import Derived.SizedLaws
import Derived.Carry
import Derived.Test.YtiaiecfnpompcaaRows
import Derived.Test.YtiaiecfnpompcaaZN14
import Derived.Test.YtiaiecfnpompcaaZN16
import Derived.Test.YtiaiecfnpompcaaZN11
import Derived.Test.YtiaiecfnpompcaaZN2
import Derived.Test.YtiaiecfnpompcaaZN9
import Derived.Test.YtiaiecfnpompcaaZN5
import Derived.Test.YtiaiecfnpompcaaZN19
import Derived.Test.YtiaiecfnpompcaaZN21
import Derived.Test.YtiaiecfnpompcaaZN8
import Derived.Test.YtiaiecfnpompcaaZN10
import Derived.Test.YtiaiecfnpompcaaZN22
import Derived.Test.YtiaiecfnpompcaaZN20
import Derived.Test.YtiaiecfnpompcaaZN15
import Derived.Test.YtiaiecfnpompcaaZN4
import Derived.Test.YtiaiecfnpompcaaZN7
import Derived.Test.YtiaiecfnpompcaaZN3
import Derived.Test.YtiaiecfnpompcaaZN6
import Derived.Test.YtiaiecfnpompcaaZN1
import Derived.Test.YtiaiecfnpompcaaZN12
import Derived.Test.YtiaiecfnpompcaaZN13
import Derived.Test.YtiaiecfnpompcaaZN18
import Derived.Test.YtiaiecfnpompcaaZN17
namespace Go.Proofs.Ytiaiecfnpompcaa.T
open Go.RowKit Go.Proofs.YtiaiecfnpompcaaW.PrintWords
set_option linter.unusedVariables false
set_option linter.unusedSimpArgs false
set_option linter.unusedSectionVars false
theorem lots_eq {l : List S58} (h : l.length ≤ 1000000) : acmelaw12_lots.f l = some l := by
 unfold acmelaw12_lots.f
 simp only [Option.bind_some, List.length_nil, List.nil_append]
 rw [if_pos (by omega)]
theorem runs_eq {l : List S144} (h : l.length ≤ 1000000) : acmelaw12_runs.f l = some l := by
 unfold acmelaw12_runs.f
 simp only [Option.bind_some, List.length_nil, List.nil_append]
 rw [if_pos (by omega)]
section
variable {l : List S144} (hlen : l.length ≤ 60) (hok : ∀ x ∈ l, okRun x) (hap : l.Pairwise apart)
end
section
variable {kss gss : List (List S79)} {K0 : List S79} {kr : List (List S79)} (hk : kss = K0 :: kr) (h1 : ∀ ks ∈ kss, ks.length ≤ 1000000) (h2 : ∀ ks ∈ gss, ks.length ≤ 1000000) (hn1 : kss.length ≤ 1000) (hn2 : gss.length ≤ 1000)
end
def culV (l : List S144) (bad good : List S58) : List S79 × Int :=
 if 40 < bad.length ∨ 40 < good.length then ([], 5) else if bad.length = 0 then ([], 7) else if allE l bad ≠ 0 then ([], allE l bad) else if allE l good ≠ 0 then ([], allE l good) else (sortC (culKeys (bad.map (keysOf l)) (good.map (keysOf l))), 0)
theorem millCul_eq {l : List S144} (hlen : l.length ≤ 12 ∨ 60 < l.length) (bad good : List S58) : mill_Culprits.f l bad good = some (if chk l ≠ 0 then ([], chk l) else culV l bad good) := by
 unfold mill_Culprits.f culF
 rw [mcheck_eq hlen (by omega), Option.bind_some]
 by_cases g : chk l = 0
 rotate_left
 ·rw [if_pos g, if_pos g, Option.bind_some, sortC_nil]
 ·have eR : (if chk l ≠ 0 then (([] : List S79), chk l) else culV l bad good) = culV l bad good := if_neg (by simp [g])
  rw [eR, if_neg (by simp [g])]
  clear eR
  have hle : l.length ≤ 60 := by
   unfold chk at g
   split at g
   ·cases g
   ·omega
  have hcf : chkF [] l = 0 := by unfold chk at g; rwa [if_neg (by omega)] at g
  obtain ⟨hok, hap⟩ := chkF_zero l [] (by simp) (by simp) hcf
  rw [List.nil_append] at hok
  unfold culV
  by_cases g1 : 40 < bad.length ∨ 40 < good.length
  ·rw [if_pos g1, if_pos g1, Option.bind_some, sortC_nil]
  ·rw [if_neg g1, if_neg g1]
   by_cases g2 : bad.length = 0
   ·rw [if_pos g2, if_pos g2, Option.bind_some, sortC_nil]
   ·rw [if_neg g2, if_neg g2, if_pos ⟨by omega, hok⟩]
    by_cases g3 : allE l bad = 0
    rotate_left
    ·rw [if_pos g3, if_pos g3, Option.bind_some, sortC_nil]
    ·rw [if_neg (show ¬ (allE l bad ≠ 0) by simp [g3]), if_neg (show ¬ (allE l bad ≠ 0) by simp [g3])]
     by_cases g4 : allE l good = 0
     rotate_left
     ·rw [if_pos g4, if_pos g4, Option.bind_some, sortC_nil]
     ·rw [if_neg (show ¬ (allE l good ≠ 0) by simp [g4]), if_neg (show ¬ (allE l good ≠ 0) by simp [g4]), Option.bind_some]
end Go.Proofs.Ytiaiecfnpompcaa.T
namespace Go.Proofs.Ytiaiecfnpompcaa.T
open Go.RowKit Go.Proofs.YtiaiecfnpompcaaW.PrintWords
set_option linter.unusedVariables false
set_option linter.unusedSimpArgs false
def u8s (x : Int) : Prop := 0 ≤ x ∧ x ≤ 255
theorem u8_wrap {x : Int} (h : u8s x) : wrap64 x = x := wrap64_id (by have := h.1; omega) (by have := h.2; omega)
theorem u8_mod {x : Int} (h : u8s x) (n : Int) : Int.tmod (wrap64 x) n = x % n := by rw [u8_wrap h, Int.tmod_eq_emod_of_nonneg h.1]
def wfR (v : S162) : Prop := u8s v.f0 ∧ u8s v.f1 ∧ u8s v.f2 ∧ u8s v.f3
def wfL (v : S94) : Prop := u8s v.f0 ∧ u8s v.f1 ∧ u8s v.f2
def runStep (s : List S144 × Int × Int) (v : S162) : List S144 × Int × Int :=
 if v.f0 % 2 = 0 then (s.1 ++ [⟨0, s.2.1 + v.f1 % 4, s.2.1 + v.f1 % 4 + v.f2 % 6, v.f3 % 4, v.f3 / 16 % 4⟩], s.2.1 + v.f1 % 4 + v.f2 % 6 + 1, s.2.2)
 else (s.1 ++ [⟨1, s.2.2 + v.f1 % 4, s.2.2 + v.f1 % 4 + v.f2 % 6, v.f3 % 4, v.f3 / 16 % 4⟩], s.2.1, s.2.2 + v.f1 % 4 + v.f2 % 6 + 1)
def runsF (l : List S162) : List S144 := ((l.take 10).foldl runStep ([], 0, 0)).1
def endOf (s : List S144 × Int × Int) (m : Int) : Int := if m = 0 then s.2.1 else s.2.2
def RInv (s : List S144 × Int × Int) (i : Nat) : Prop :=
 s.1.length = i ∧ (0 ≤ s.2.1 ∧ s.2.1 ≤ 10 * i) ∧ (0 ≤ s.2.2 ∧ s.2.2 ≤ 10 * i) ∧ (∀ x ∈ s.1, okRun x ∧ (x.f0 = 0 ∨ x.f0 = 1) ∧ x.f2 < endOf s x.f0 ∧ x.f2 ≤ x.f1 + 5) ∧ s.1.Pairwise apart
theorem RInv.step {s : List S144 × Int × Int} {i : Nat} {v : S162} (h : RInv s i) (hi : i < 100) (hv : wfR v) : RInv (runStep s v) (i + 1) := by
 obtain ⟨h1, h2, h3, h4, h5⟩ := h
 obtain ⟨v0, v1, v2, v3⟩ := hv
 obtain ⟨l, a, b⟩ := s
 dsimp only at h1 h2 h3 h4 h5
 have e3 : 0 ≤ v.f3 := v3.1
 have e4 : v.f3 ≤ 255 := v3.2
 unfold runStep
 by_cases g : v.f0 % 2 = 0
 ·rw [if_pos g]
  refine ⟨by simp [h1], by dsimp only; omega, by dsimp only; omega, fun x hx => ?_, ?_⟩
  ·rcases List.mem_append.1 hx with q | q
   ·obtain ⟨q1, q2, q3, q4⟩ := h4 x q
    refine ⟨q1, q2, ?_, q4⟩
    unfold endOf at q3 ⊢
    split at q3
    ·rename_i g0; rw [if_pos g0]; dsimp only at q3 ⊢; omega
    ·rename_i g0; rw [if_neg g0]; exact q3
   ·rw [List.mem_singleton] at q
    subst q
    refine ⟨⟨⟨?_, ?_⟩, ⟨?_, ?_⟩, ⟨?_, ?_⟩, ?_, ?_, ?_⟩, .inl rfl, ?_, ?_⟩ <;> (try unfold endOf) <;> (try rw [if_pos rfl]) <;> dsimp only <;> omega
  ·rw [List.pairwise_append]
   refine ⟨h5, by simp, fun x hx y hy => ?_⟩
   rw [List.mem_singleton] at hy
   subst hy
   obtain ⟨q1, q2, q3, q4⟩ := h4 x hx
   rintro ⟨g0, g1, g2⟩
   dsimp only at g0 g1 g2
   unfold endOf at q3
   rw [if_pos g0] at q3
   dsimp only at q3
   omega
 ·rw [if_neg g]
  refine ⟨by simp [h1], by dsimp only; omega, by dsimp only; omega, fun x hx => ?_, ?_⟩
  ·rcases List.mem_append.1 hx with q | q
   ·obtain ⟨q1, q2, q3, q4⟩ := h4 x q
    refine ⟨q1, q2, ?_, q4⟩
    unfold endOf at q3 ⊢
    split at q3
    ·rename_i g0; rw [if_pos g0]; exact q3
    ·rename_i g0; rw [if_neg g0]; dsimp only at q3 ⊢; omega
   ·rw [List.mem_singleton] at q
    subst q
    refine ⟨⟨⟨?_, ?_⟩, ⟨?_, ?_⟩, ⟨?_, ?_⟩, ?_, ?_, ?_⟩, .inr rfl, ?_, ?_⟩ <;> (try unfold endOf) <;> (try rw [if_neg (show ¬ (1 : Int) = 0 by omega)]) <;> dsimp only <;> omega
  ·rw [List.pairwise_append]
   refine ⟨h5, by simp, fun x hx y hy => ?_⟩
   rw [List.mem_singleton] at hy
   subst hy
   obtain ⟨q1, q2, q3, q4⟩ := h4 x hx
   rintro ⟨g0, g1, g2⟩
   dsimp only at g0 g1 g2
   unfold endOf at q3
   rw [if_neg (show ¬ x.f0 = 0 by omega)] at q3
   dsimp only at q3
   omega
theorem runs_inv {l : List S162} (hw : ∀ v ∈ l, wfR v) : ∀ i : Nat, i ≤ l.length → i ≤ 10 → RInv ((l.take i).foldl runStep ([], 0, 0)) i
 | 0, _, _ => ⟨rfl, by simp, by simp, fun x hx => by simp at hx, by simp⟩
 | i + 1, hi, hi2 => by
  rw [List.take_succ_eq_append_getElem (by omega), List.foldl_append]
  exact (runs_inv hw i (by omega) (by omega)).step (by omega) (hw _ (List.getElem_mem _))
theorem runs_loop {l : List S162} (l1 : List S94) (hw : ∀ v ∈ l, wfR v) : ∀ (n i : Nat), n = min l.length 10 - i → i ≤ min l.length 10 →
  Ev (fun k => acmelaw12_Works_runs.l0 k ((l.take i).foldl runStep ([], 0, 0)).1 i l l1 ((l.take i).foldl runStep ([], 0, 0)).2.1 ((l.take i).foldl runStep ([], 0, 0)).2.2) (runsF l) := by
 intro n
 induction n with
 | zero =>
  intro i hn hi
  have hfin : ((l.take i).foldl runStep ([], 0, 0)).1 = runsF l := by
   unfold runsF
   have : l.take i = l.take 10 := by
    by_cases g : l.length ≤ 10
    ·rw [List.take_of_length_le (by omega), List.take_of_length_le g]
    ·have : i = 10 := by omega
     rw [this]
   rw [this]
  refine Ev.succ ?_
  rw [hfin]
  by_cases g : (i : Int) < (l.length : Int)
  ·have g2 : ¬ (i : Int) < 10 := by omega
   simp only [acmelaw12_Works_runs.l0, if_pos g, if_neg g2]
   exact Ev.pure _
  ·simp only [acmelaw12_Works_runs.l0, if_neg g]
   exact Ev.pure _
 | succ n ih =>
  intro i hn hi
  have hlt : i < l.length := by omega
  have g : (i : Int) < (l.length : Int) := by omega
  have g2 : (i : Int) < 10 := by omega
  have g3 : (0 : Int) ≤ (i : Int) := by omega
  have ih' := ih (i + 1) (by omega) (by omega)
  have hinv := runs_inv hw i (by omega) (by omega)
  obtain ⟨w0, w1, w2, w3⟩ := hw l[i] (List.getElem_mem hlt)
  rw [List.take_succ_eq_append_getElem hlt, List.foldl_append] at ih'
  have hrd : rd_T162 l (i : Int) = l[i] := by simp [rd_T162, hlt]
  generalize l[i] = v at ih' hrd w0 w1 w2 w3
  generalize hs : (l.take i).foldl runStep ([], 0, 0) = s at ih' hinv ⊢
  obtain ⟨h1, h2, h3, h4, h5⟩ := hinv
  obtain ⟨acc, a, b⟩ := s
  dsimp only at h1 h2 h3 ⊢
  have hst : [v].foldl runStep (acc, a, b) = runStep (acc, a, b) v := rfl
  rw [hst] at ih'
  have b1 := w1.1; have b2 := w1.2; have b3 := w2.1; have b4 := w2.2; have b5 := w3.1; have b6 := w3.2
  have hd : Int.tmod (wrap64 (Int.tdiv (wrap64 v.f3) 16)) 4 = v.f3 / 16 % 4 := by
   rw [u8_wrap w3, Int.tdiv_eq_ediv_of_nonneg w3.1, wrap64_id (by omega) (by omega), Int.tmod_eq_emod_of_nonneg (by omega)]
  have hlen : acc.length < 3518437208883 := by omega
  refine Ev.succ ?_
  simp only [acmelaw12_Works_runs.l0, if_pos g, if_pos g2, if_pos g3, hrd]
  refine Ev.succ ?_
  simp only [acmelaw12_Works_runs.j1, u8_mod w0, u8_mod w1, u8_mod w2, u8_mod w3, hd, if_pos hlen, idx1 (show i ≤ 1000000 by omega)]
  unfold runStep at ih'
  by_cases c : v.f0 % 2 = 0
  ·rw [if_pos c] at ih'
   simp only [if_pos c]
   rw [wrap64_id (x := a + v.f1 % 4) (by omega) (by omega), wrap64_id (x := a + v.f1 % 4 + v.f2 % 6) (by omega) (by omega), wrap64_id (x := a + v.f1 % 4 + v.f2 % 6 + 1) (by omega) (by omega)]
   exact ih'
  ·rw [if_neg c] at ih'
   have c2 : v.f0 % 2 = 1 := by omega
   simp only [if_neg c, if_pos c2]
   rw [wrap64_id (x := b + v.f1 % 4) (by omega) (by omega), wrap64_id (x := b + v.f1 % 4 + v.f2 % 6) (by omega) (by omega), wrap64_id (x := b + v.f1 % 4 + v.f2 % 6 + 1) (by omega) (by omega)]
   exact ih'
theorem runs_ev {l : List S162} (l1 : List S94) (hw : ∀ v ∈ l, wfR v) : Ev (fun k => acmelaw12_Works_runs.f k l l1) (runsF l) := by
 have := runs_loop l1 hw (min l.length 10) 0 (by omega) (by omega)
 simpa [acmelaw12_Works_runs.f] using this
theorem runsF_ok {l : List S162} (hw : ∀ v ∈ l, wfR v) : (runsF l).length ≤ 10 ∧ (∀ x ∈ runsF l, okRun x ∧ (x.f0 = 0 ∨ x.f0 = 1) ∧ x.f2 ≤ x.f1 + 5) ∧ (runsF l).Pairwise apart := by
 have key : ∃ i, i ≤ 10 ∧ RInv ((l.take 10).foldl runStep ([], 0, 0)) i := by
  by_cases g : l.length ≤ 10
  ·refine ⟨l.length, g, ?_⟩
   have := runs_inv hw l.length (by omega) g
   rw [List.take_length] at this
   rw [List.take_of_length_le g]
   exact this
  ·exact ⟨10, by omega, runs_inv hw 10 (by omega) (by omega)⟩
 obtain ⟨i, hi, h1, _, _, h4, h5⟩ := key
 exact ⟨by unfold runsF; omega, fun x hx => ⟨(h4 x hx).1, (h4 x hx).2.1, (h4 x hx).2.2.2⟩, h5⟩
theorem chkF_ok : ∀ (r b : List S144), (∀ x ∈ r, okRun x) → (b ++ r).Pairwise apart → chkF b r = 0
 | [], b, _, _ => rfl
 | x :: r, b, h, hp => by
  unfold chkF
  rw [if_neg (fun q => q (h x (by simp)))]
  have hp2 := hp
  rw [List.pairwise_append] at hp2
  rw [if_neg (by rintro ⟨y, hy, q⟩; exact q (hp2.2.2 y hy x (by simp)))]
  exact chkF_ok r (b ++ [x]) (fun y hy => h y (by simp [hy])) (by rw [List.append_assoc]; exact hp)
theorem chk_runs {l : List S162} (hw : ∀ v ∈ l, wfR v) : chk (runsF l) = 0 := by
 obtain ⟨h1, h2, h3⟩ := runsF_ok hw
 unfold chk
 rw [if_neg (by omega)]
 exact chkF_ok _ [] (fun x hx => (h2 x hx).1) h3
def lotOf (v : S94) : S58 := ⟨v.f0 % 2, v.f1 % 25, v.f1 % 25 + v.f2 % 12⟩
def lotsF (l : List S94) : List S58 := (l.take 8).map lotOf
theorem lots_loop2 {l : List S94} (l0 : List S162) (hw : ∀ v ∈ l, wfL v) : ∀ (n i : Nat), n = min l.length 8 - i → i ≤ min l.length 8 → Ev (fun k => acmelaw12_Works_lots.l0 k ((l.take i).map lotOf) i l0 l) (lotsF l) := by
 intro n
 induction n with
 | zero =>
  intro i hn hi
  have hfin : (l.take i).map lotOf = lotsF l := by
   unfold lotsF
   have : l.take i = l.take 8 := by
    by_cases g : l.length ≤ 8
    ·rw [List.take_of_length_le (by omega), List.take_of_length_le g]
    ·have : i = 8 := by omega
     rw [this]
   rw [this]
  refine Ev.succ ?_
  rw [hfin]
  by_cases g : (i : Int) < (l.length : Int)
  ·have g2 : ¬ (i : Int) < 8 := by omega
   simp only [acmelaw12_Works_lots.l0, if_pos g, if_neg g2]
   exact Ev.pure _
  ·simp only [acmelaw12_Works_lots.l0, if_neg g]
   exact Ev.pure _
 | succ n ih =>
  intro i hn hi
  have hlt : i < l.length := by omega
  have g : (i : Int) < (l.length : Int) := by omega
  have g2 : (i : Int) < 8 := by omega
  have g3 : (0 : Int) ≤ (i : Int) := by omega
  have ih' := ih (i + 1) (by omega) (by omega)
  obtain ⟨w0, w1, w2⟩ := hw l[i] (List.getElem_mem hlt)
  rw [List.take_succ_eq_append_getElem hlt, List.map_append] at ih'
  have hrd : rd_T94 l (i : Int) = l[i] := by simp [rd_T94, hlt]
  have hlen : ((l.take i).map lotOf).length < 5864062014805 := by rw [List.length_map, List.length_take]; omega
  generalize l[i] = v at ih' hrd w0 w1 w2
  have b1 := w1.1; have b2 := w1.2; have b3 := w2.1; have b4 := w2.2
  refine Ev.succ ?_
  simp only [acmelaw12_Works_lots.l0, if_pos g, if_pos g2, if_pos g3, hrd, if_pos hlen, u8_mod w0, u8_mod w1, u8_mod w2, idx1 (show i ≤ 1000000 by omega)]
  rw [wrap64_id (x := v.f1 % 25 + v.f2 % 12) (by omega) (by omega)]
  exact ih'
theorem lotsF_ev {l : List S94} (l0 : List S162) (hw : ∀ v ∈ l, wfL v) : Ev (fun k => acmelaw12_Works_lots.f k l0 l) (lotsF l) := by
 have := lots_loop2 l0 hw (min l.length 8) 0 (by omega) (by omega)
 simpa [acmelaw12_Works_lots.f] using this
theorem lotsF_ok {l : List S94} (hw : ∀ v ∈ l, wfL v) : (lotsF l).length ≤ 8 ∧ ∀ x ∈ lotsF l, okLot x.f0 x.f1 x.f2 := by
 refine ⟨by unfold lotsF; rw [List.length_map, List.length_take]; omega, fun x hx => ?_⟩
 unfold lotsF at hx
 obtain ⟨v, hv, rfl⟩ := List.mem_map.1 hx
 obtain ⟨w0, w1, w2⟩ := hw v (List.mem_of_mem_take hv)
 have b1 := w1.1; have b2 := w2.1; have b3 := w0.1
 unfold okLot lotOf
 dsimp only
 omega
theorem runKeys_few {x : S144} {m f t : Int} (h : x.f2 ≤ x.f1 + 5) : (runKeys x m f t).length ≤ 8 := by
 have a1 := @mx_le x.f1 f
 have a2 := @mn_le x.f2 t
 unfold runKeys
 split
 ·simp
 ·rename_i g
  rw [List.length_append, hourKeys_len]
  have : (hoursR x m f t).2 - (hoursR x m f t).1 ≤ 5 := by
   unfold hoursR
   split
   ·dsimp only; omega
   ·dsimp only; omega
  simp only [List.length_cons, List.length_nil]
  omega
theorem allKeys_few {m f t : Int} : ∀ {l : List S144}, (∀ x ∈ l, x.f2 ≤ x.f1 + 5) → (allKeys l m f t).length ≤ 8 * l.length
 | [], _ => by simp [allKeys]
 | x :: l, h => by
  have h1 := runKeys_few (m := m) (f := f) (t := t) (h x (by simp))
  have h2 := allKeys_few (m := m) (f := f) (t := t) (l := l) (fun y hy => h y (by simp [hy]))
  have e : allKeys (x :: l) m f t = runKeys x m f t ++ allKeys l m f t := rfl
  rw [e, List.length_append, List.length_cons]
  omega
theorem errOf_zero {l : List S144} (hl : l.length ≤ 10) (h : ∀ x ∈ l, x.f2 ≤ x.f1 + 5) {q : S58} (hq : okLot q.f0 q.f1 q.f2) : errOf l q = 0 := by
 unfold errOf causesE
 rw [if_neg (fun g => g hq)]
 have hk := allKeys_few (m := q.f0) (f := q.f1) (t := q.f2) h
 have hd := distinctC_le (allKeys l q.f0 q.f1 q.f2)
 rw [if_neg, if_neg (by omega)]
 rintro ⟨x, hx, hlr⟩
 have := h x hx
 have a1 := @mx_le x.f1 q.f1
 have a2 := @mn_le x.f2 q.f2
 unfold longRun hoursR at hlr
 split at hlr
 ·dsimp only at hlr; omega
 ·dsimp only at hlr; omega
theorem sortC_len (ks : List S79) : (sortC ks).length = (distinctC ks).length := by unfold sortC; rw [List.length_mergeSort]
theorem distinct_filter (ks : List S79) (p : S79 → Bool) : (distinctC (ks.filter p)).length = ((distinctC ks).filter p).length := by
 obtain ⟨a1, a2⟩ := distinctC_nodup (ks.filter p)
 obtain ⟨b1, b2⟩ := distinctC_nodup ks
 refine ((List.perm_ext_iff_of_nodup a1 (List.Pairwise.filter _ b1)).2 fun x => ?_).length_eq
 rw [a2, List.mem_filter, List.mem_filter, b2]
theorem culKeys_bad {kss gss : List (List S79)} (h : 0 < kss.length) (kq : List S79) : culKeys (kss ++ [kq]) gss = (culKeys kss gss).filter fun x => decide (x ∈ kq) := by
 obtain ⟨K0, kr, rfl⟩ : ∃ K0 kr, kss = K0 :: kr := List.exists_cons_of_ne_nil (fun e => by rw [e] at h; simp at h)
 unfold culKeys
 rw [List.cons_append, List.headD_cons, List.headD_cons, List.filter_filter]
 congr 1
 funext x
 unfold gdB
 simp only [List.any_cons, List.any_append, List.any_nil, Bool.or_false]
 cases decide (x ∈ K0) <;> cases (kr.any fun ks => !decide (x ∈ ks)) <;> cases decide (x ∈ kq) <;> cases (gss.any fun ks => decide (x ∈ ks)) <;> rfl
theorem culKeys_good (kss gss : List (List S79)) (kq : List S79) : culKeys kss (gss ++ [kq]) = (culKeys kss gss).filter fun x => !decide (x ∈ kq) := by
 unfold culKeys
 rw [List.filter_filter]
 congr 1
 funext x
 unfold gdB
 simp only [List.any_cons, List.any_append, List.any_nil, Bool.or_false]
 cases (kss.any fun ks => !decide (x ∈ ks)) <;> cases decide (x ∈ kq) <;> cases (gss.any fun ks => decide (x ∈ ks)) <;> rfl
theorem split_len (c kq : List S79) : ((distinctC c).filter fun x => !decide (x ∈ kq)).length + cntC c kq = (distinctC c).length := by
 unfold cntC
 induction distinctC c with
 | nil => rfl
 | cons x r ih =>
  rw [List.filter_cons, List.filter_cons, List.length_cons]
  cases decide (x ∈ kq) <;> simp <;> omega
theorem narrow_len {kss gss : List (List S79)} (h : 0 < kss.length) (kq : List S79) :
  (sortC (culKeys (kss ++ [kq]) gss)).length + (sortC (culKeys kss (gss ++ [kq]))).length = (sortC (culKeys kss gss)).length ∧
  mx ((sortC (culKeys (kss ++ [kq]) gss)).length : Int) ((sortC (culKeys kss (gss ++ [kq]))).length : Int) = bothF (culKeys kss gss) kq := by
 have h1 := split_len (culKeys kss gss) kq
 rw [sortC_len, sortC_len, sortC_len, culKeys_bad h, culKeys_good, distinct_filter, distinct_filter]
 have h2 : ((distinctC (culKeys kss gss)).filter fun x => decide (x ∈ kq)).length = cntC (culKeys kss gss) kq := rfl
 rw [h2]
 refine ⟨by omega, ?_⟩
 unfold bothF
 congr 1
 omega
theorem stAt_spec (c : List S79) (kss : List (List S79)) (h : 0 < kss.length) : ∀ i : Nat, i ≤ kss.length → ∃ a : Nat, (stAt c kss i).1 = (a : Int) ∧ a < kss.length ∧ (stAt c kss i).2 = bothF c (kss.getD a []) ∧
  (∀ j : Nat, j < i → (stAt c kss i).2 ≤ bothF c (kss.getD j [])) ∧ ∀ j : Nat, j < a → (stAt c kss i).2 < bothF c (kss.getD j [])
 | 0, _ => by
  refine ⟨0, rfl, h, ?_, fun j hj => by omega, fun j hj => by omega⟩
  show bothF c (kss.headD []) = _
  cases kss with
  | nil => simp at h
  | cons a b => rfl
 | i + 1, hi => by
  obtain ⟨a, h1, h2, h3, h4, h5⟩ := stAt_spec c kss h i (by omega)
  by_cases g : bothF c (kss.getD i []) < (stAt c kss i).2
  ·have e : stAt c kss (i + 1) = ((i : Int), bothF c (kss.getD i [])) := by rw [stAt, if_pos g]
   rw [e]
   refine ⟨i, rfl, by omega, rfl, fun j hj => ?_, fun j hj => ?_⟩
   ·by_cases q : j = i
    ·rw [q]; exact Int.le_refl _
    ·have := h4 j (by omega); dsimp only; omega
   ·have := h4 j hj; dsimp only; omega
  ·have e : stAt c kss (i + 1) = stAt c kss i := by rw [stAt, if_neg g]
   rw [e]
   refine ⟨a, h1, h2, h3, fun j hj => ?_, h5⟩
   by_cases q : j = i
   ·rw [q]; omega
   ·exact h4 j (by omega)
end Go.Proofs.Ytiaiecfnpompcaa.T
namespace Go.Proofs.Ytiaiecfnpompcaa.T
open Go.RowKit Go.Proofs.YtiaiecfnpompcaaW.PrintWords Go.Proofs.YtiaiecfnpompcaaW.PrintLast Go.Proofs.YtiaiecfnpompcaaW.PrintMore
set_option linter.unusedVariables false
set_option linter.unusedSimpArgs false
structure Shop (l : List S144) : Prop where
 len : l.length ≤ 10
 ok : ∀ x ∈ l, okRun x
 few : ∀ x ∈ l, x.f2 ≤ x.f1 + 5
 chk : chk l = 0
def okLots (ls : List S58) : Prop := ls.length ≤ 9 ∧ ∀ x ∈ ls, okLot x.f0 x.f1 x.f2
theorem okLots.append {a : List S58} {q : S58} (h : okLots a) (hl : a.length ≤ 8) (hq : okLot q.f0 q.f1 q.f2) : okLots (a ++ [q]) := by
 refine ⟨by rw [List.length_append]; simp; omega, fun x hx => ?_⟩
 rcases List.mem_append.1 hx with g | g
 ·exact h.2 x g
 ·rw [List.mem_singleton] at g; rw [g]; exact hq
section
variable {l : List S144} (S : Shop l)
include S in
theorem Shop.allE {ls : List S58} (h : okLots ls) : allE l ls = 0 := allE_zero fun x hx => errOf_zero S.len S.few (h.2 x hx)
include S in
theorem Shop.cul {bad good : List S58} (hb : okLots bad) (hg : okLots good) : mill_Culprits.f l bad good = some (if bad.length = 0 then ([], 7) else (sortC (culKeys (bad.map (keysOf l)) (good.map (keysOf l))), 0)) := by
 have := S.len
 rw [millCul_eq (by omega), S.chk]
 have h1 := hb.1
 have h2 := hg.1
 rw [if_neg (by simp)]
 unfold culV
 rw [if_neg (by omega), S.allE hb, S.allE hg]
 by_cases g : bad.length = 0
 ·rw [if_pos g, if_pos g]
 ·rw [if_neg g, if_neg g, if_neg (by simp), if_neg (by simp)]
end
theorem shop_of {l : List S162} (hw : ∀ v ∈ l, wfR v) : Shop (runsF l) := by
 obtain ⟨h1, h2, h3⟩ := runsF_ok hw
 exact ⟨h1, fun x hx => (h2 x hx).1, fun x hx => (h2 x hx).2.2, chk_runs hw⟩
theorem u8_of {x : Int} (h : (Lit.int .u8 x).wf = true) : u8s x := by
 simp [Lit.wf, IntKind.min, IntKind.max, IntKind.signed, IntKind.bits] at h
 unfold u8s
 omega
end Go.Proofs.Ytiaiecfnpompcaa.T
namespace Go.Proofs.Ytiaiecfnpompcaa.T
open Go.RowKit Go.Proofs.YtiaiecfnpompcaaW.PrintWords Go.Proofs.YtiaiecfnpompcaaW.PrintLast Go.Proofs.YtiaiecfnpompcaaW.PrintMore
set_option linter.unusedVariables false
set_option linter.unusedSimpArgs false
section
variable {l : List S144} (S : Shop l)
include S in
theorem Shop.culF {bad good : List S58} (hb : okLots bad) (hg : okLots good) : culF 1000 l bad good = some (if bad.length = 0 then ([], 7) else (culKeys (bad.map (keysOf l)) (good.map (keysOf l)), 0)) := by
 have := S.len
 have h1 := hb.1
 have h2 := hg.1
 unfold T.culF
 rw [mcheck_eq (by omega) (by omega), Option.bind_some, S.chk, if_neg (by simp), if_neg (by omega), S.allE hb, S.allE hg]
 by_cases g : bad.length = 0
 ·rw [if_pos g, if_pos g]
 ·rw [if_neg g, if_neg g, if_pos ⟨by omega, S.ok⟩, if_neg (by simp), if_neg (by simp)]
include S in
theorem Shop.next {bad good rest : List S58} (hb : okLots bad) (hg : okLots good) (hr : okLots rest) : mill_Next.f l bad good rest = some (if bad.length = 0 then (0, 0, 7) else if rest.length = 0 then (0, 0, 7) else
  if (distinctC (culKeys (bad.map (keysOf l)) (good.map (keysOf l)))).length = 0 then (0, 0, 9) else
   ((stAt (culKeys (bad.map (keysOf l)) (good.map (keysOf l))) (rest.map (keysOf l)) rest.length).1, (stAt (culKeys (bad.map (keysOf l)) (good.map (keysOf l))) (rest.map (keysOf l)) rest.length).2, 0)) := by
 have h3 := hr.1
 unfold mill_Next.f mill_Next.g
 rw [S.culF hb hg, Option.bind_some]
 by_cases g : bad.length = 0
 ·rw [if_pos g, if_pos g]; rfl
 ·rw [if_neg g, if_neg g]
  dsimp only
  rw [if_neg (by simp), if_neg (by omega), S.allE hr, if_neg (by simp)]
  by_cases g2 : rest.length = 0
  ·rw [if_pos g2, if_pos g2]
  ·rw [if_neg g2, if_neg g2]
   by_cases g3 : (distinctC (culKeys (bad.map (keysOf l)) (good.map (keysOf l)))).length = 0
   ·rw [if_pos g3, if_pos g3]
   ·rw [if_neg g3, if_neg g3]
include S in
theorem narrowed_l1 {bad good rest : List S58} (hb : okLots bad) (hg : okLots good) (hr : okLots rest) (h0 : 0 < bad.length) (hb8 : bad.length ≤ 8) (hg8 : good.length ≤ 8) (hr0 : 0 < rest.length) :
  ∀ (n i : Nat), n = rest.length - i → i ≤ rest.length → Ev (fun k => acmelaw12_MillNarrowed.l1 k l bad good rest (sortC (culKeys (bad.map (keysOf l)) (good.map (keysOf l)))) (stAt (culKeys (bad.map (keysOf l)) (good.map (keysOf l))) (rest.map (keysOf l)) rest.length).1 (stAt (culKeys (bad.map (keysOf l)) (good.map (keysOf l))) (rest.map (keysOf l)) rest.length).2 (i : Int)) true := by
 intro n
 have h3 := hr.1
 have hl10 := S.len
 obtain ⟨a, s1, s2, s3, s4, s5⟩ := stAt_spec (culKeys (bad.map (keysOf l)) (good.map (keysOf l))) (rest.map (keysOf l)) (by rw [List.length_map]; exact hr0) rest.length (by simp)
 induction n with
 | zero =>
  intro i hn hi
  refine Ev.succ ?_
  have q : ¬ (i : Int) < (rest.length : Int) := by omega
  simp only [acmelaw12_MillNarrowed.l1, if_neg q, acmelaw12_known.f, Option.bind_some]
  exact Ev.pure _
 | succ n ih =>
  intro i hn hi
  have hlt : i < rest.length := by omega
  have q : (i : Int) < (rest.length : Int) := by omega
  have q2 : (0 : Int) ≤ (i : Int) := by omega
  have ih' := ih (i + 1) (by omega) (by omega)
  have hrd : rd_T58 rest (i : Int) = rest[i] := by simp [rd_T58, hlt]
  have hqo := hr.2 rest[i] (List.getElem_mem hlt)
  have hki : (rest.map (keysOf l)).getD i [] = keysOf l rest[i] := by simp [hlt]
  have t4 := s4 i hlt
  have t5 := s5 i
  rw [hki] at t4 t5
  generalize rest[i] = q0 at hrd hqo t4 t5 hki
  have c1 := S.cul (hb.append hb8 hqo) hg
  have c2 := S.cul hb (hg.append hg8 hqo)
  rw [if_neg (by rw [List.length_append]; simp), List.map_append] at c1
  rw [if_neg (by omega), List.map_append] at c2
  have nl := narrow_len (kss := bad.map (keysOf l)) (gss := good.map (keysOf l)) (by rw [List.length_map]; exact h0) (keysOf l q0)
  have e1 : (⟨(rd_T58 rest (i : Int)).f0, (rd_T58 rest (i : Int)).f1, (rd_T58 rest (i : Int)).f2⟩ : S58) = q0 := by rw [hrd]
  have hgl : bad.length + 1 < 5864062014805 := by omega
  have hgl2 : good.length + 1 < 5864062014805 := by omega
  rw [List.map_cons, List.map_nil] at c1 c2
  generalize hA : sortC (culKeys (bad.map (keysOf l) ++ [keysOf l q0]) (good.map (keysOf l))) = A at c1 nl
  generalize hBB : sortC (culKeys (bad.map (keysOf l)) (good.map (keysOf l) ++ [keysOf l q0])) = B at c2 nl
  obtain ⟨n1, n2⟩ := nl
  have hall : (sortC (culKeys (bad.map (keysOf l)) (good.map (keysOf l)))).length ≤ 1000000 := by
   rw [sortC_len]
   have d1 := distinctC_le (culKeys (bad.map (keysOf l)) (good.map (keysOf l)))
   have d2 : (culKeys (bad.map (keysOf l)) (good.map (keysOf l))).length ≤ ((bad.map (keysOf l)).headD []).length := by unfold culKeys; exact List.length_filter_le _ _
   obtain ⟨b0, br, rfl⟩ : ∃ b0 br, bad = b0 :: br := List.exists_cons_of_ne_nil (fun e => by rw [e] at h0; simp at h0)
   have d3 := allKeys_few (m := b0.f0) (f := b0.f1) (t := b0.f2) S.few
   have d4 : ((List.map (keysOf l) (b0 :: br)).headD []).length = (allKeys l b0.f0 b0.f1 b0.f2).length := rfl
   omega
  have hw : wrap64 ((A.length : Int) + (B.length : Int)) = ((sortC (culKeys (bad.map (keysOf l)) (good.map (keysOf l)))).length : Int) := by rw [wrap64_id (by omega) (by omega)]; omega
  refine Ev.succ ?_
  simp only [acmelaw12_MillNarrowed.l1, if_pos q, if_pos q2, e1, runs_eq (show l.length ≤ 1000000 by omega), lots_eq (show bad.length ≤ 1000000 by omega), lots_eq (show good.length ≤ 1000000 by omega), Option.bind_some, List.length_cons, List.length_nil, Nat.zero_add, if_pos hgl, if_pos hgl2, c1, c2, if_true, hw]
  have hne : (((sortC (culKeys (bad.map (keysOf l)) (good.map (keysOf l)))).length : Int) != ((sortC (culKeys (bad.map (keysOf l)) (good.map (keysOf l)))).length : Int)) = false := by simp
  rw [hne]
  refine Ev.succ ?_
  simp only [acmelaw12_MillNarrowed.j4, Bool.false_eq_true, if_false, n2, idx1 (show i ≤ 1000000 by omega)]
  have g1 : ¬ bothF (culKeys (bad.map (keysOf l)) (good.map (keysOf l))) (keysOf l q0) < (stAt (culKeys (bad.map (keysOf l)) (good.map (keysOf l))) (rest.map (keysOf l)) rest.length).2 := by omega
  simp only [if_neg g1]
  by_cases ia : (i : Int) = (stAt (culKeys (bad.map (keysOf l)) (good.map (keysOf l))) (rest.map (keysOf l)) rest.length).1
  ·have hia : i = a := by omega
   have g2 : bothF (culKeys (bad.map (keysOf l)) (good.map (keysOf l))) (keysOf l q0) = (stAt (culKeys (bad.map (keysOf l)) (good.map (keysOf l))) (rest.map (keysOf l)) rest.length).2 := by rw [s3, ← hia, hki]
   have g3 : ¬ (i : Int) < (stAt (culKeys (bad.map (keysOf l)) (good.map (keysOf l))) (rest.map (keysOf l)) rest.length).1 := by omega
   simp only [if_pos ia, if_pos g2, if_neg g3]
   exact ih'
  ·by_cases g3 : (i : Int) < (stAt (culKeys (bad.map (keysOf l)) (good.map (keysOf l))) (rest.map (keysOf l)) rest.length).1
   ·have t6 := t5 (by omega)
    have g2 : ¬ bothF (culKeys (bad.map (keysOf l)) (good.map (keysOf l))) (keysOf l q0) = (stAt (culKeys (bad.map (keysOf l)) (good.map (keysOf l))) (rest.map (keysOf l)) rest.length).2 := by omega
    simp only [if_neg ia, if_pos g3, if_neg g2]
    exact ih'
   ·simp only [if_neg ia, if_neg g3]
    exact ih'
def restOf (k : Nat) (l : List S144) (bad good rest : List S58) : Option Bool := (acmelaw12_runs.f l).bind fun t257 => ((acmelaw12_lots.f bad).bind fun t260 => ((acmelaw12_lots.f good).bind fun t263 => ((mill_Culprits.f t257 t260 t263).bind fun bt266 => ((acmelaw12_runs.f l).bind fun t270 => ((acmelaw12_lots.f bad).bind fun t273 => ((acmelaw12_lots.f good).bind fun t276 => ((acmelaw12_lots.f rest).bind fun t279 => ((mill_Next.f t270 t273 t276 t279).bind fun bt282 => (if (bad.length : Int) = 0 then (if bt266.2 = 7 then (if bt282.2.2 = bt266.2 then ((acmelaw12_known.f).bind fun t285 => (some t285)) else (none)) else (none)) else (if bt266.2 = 0 then (if (rest.length : Int) = 0 then (acmelaw12_MillNarrowed.j1 k l bad good rest bt266.1 bt282.1 bt282.2.1 bt282.2.2 true) else (acmelaw12_MillNarrowed.j1 k l bad good rest bt266.1 bt282.1 bt282.2.1 bt282.2.2 ((bt266.1.length : Int) == 0))) else (none)))))))))))
include S in
theorem narrowed_rest {bad good rest : List S58} (hb : okLots bad) (hg : okLots good) (hr : okLots rest) (hb8 : bad.length ≤ 8) (hg8 : good.length ≤ 8) : Ev (fun k => restOf k l bad good rest) true := by
 have hl10 := S.len
 have h1 := hb.1
 have h2 := hg.1
 have h3 := hr.1
 have c1 := S.cul hb hg
 have c2 := S.next hb hg hr
 simp only [restOf, runs_eq (show l.length ≤ 1000000 by omega), lots_eq (show bad.length ≤ 1000000 by omega), lots_eq (show good.length ≤ 1000000 by omega), lots_eq (show rest.length ≤ 1000000 by omega), Option.bind_some, c1, c2]
 by_cases g : bad.length = 0
 ·simp only [if_pos g, if_pos (show (bad.length : Int) = 0 by omega), if_true, acmelaw12_known.f, Option.bind_some]
  exact Ev.pure _
 ·simp only [if_neg g, if_neg (show ¬ (bad.length : Int) = 0 by omega), if_true]
  by_cases g2 : rest.length = 0
  ·simp only [if_pos g2, if_pos (show (rest.length : Int) = 0 by omega)]
   refine Ev.succ ?_
   simp only [acmelaw12_MillNarrowed.j1, if_true, if_pos (show (rest.length : Int) = 0 by omega), acmelaw12_known.f, Option.bind_some]
   exact Ev.pure _
  ·simp only [if_neg g2, if_neg (show ¬ (rest.length : Int) = 0 by omega)]
   have hsl := sortC_len (culKeys (bad.map (keysOf l)) (good.map (keysOf l)))
   by_cases g3 : (distinctC (culKeys (bad.map (keysOf l)) (good.map (keysOf l)))).length = 0
   ·have e : (((sortC (culKeys (bad.map (keysOf l)) (good.map (keysOf l)))).length : Int) == 0) = true := beq_iff_eq.mpr (by omega)
    rw [e]
    simp only [if_pos g3]
    refine Ev.succ ?_
    have h9 : ¬ (9 : Int) = 7 := by decide
    simp only [acmelaw12_MillNarrowed.j1, if_true, if_neg h9, if_pos (show (rest.length : Int) > 0 by omega), if_pos (show ((sortC (culKeys (bad.map (keysOf l)) (good.map (keysOf l)))).length : Int) = 0 by omega), acmelaw12_known.f, Option.bind_some]
    exact Ev.pure _
   ·have e : (((sortC (culKeys (bad.map (keysOf l)) (good.map (keysOf l)))).length : Int) == 0) = false := beq_eq_false_iff_ne.mpr (by omega)
    rw [e]
    simp only [if_neg g3]
    obtain ⟨a, s1, s2, _⟩ := stAt_spec (culKeys (bad.map (keysOf l)) (good.map (keysOf l))) (rest.map (keysOf l)) (by rw [List.length_map]; omega) rest.length (by simp)
    rw [List.length_map] at s2
    have g4 : ¬ (stAt (culKeys (bad.map (keysOf l)) (good.map (keysOf l))) (rest.map (keysOf l)) rest.length).1 < 0 := by omega
    have g5 : decide ((stAt (culKeys (bad.map (keysOf l)) (good.map (keysOf l))) (rest.map (keysOf l)) rest.length).1 ≥ (rest.length : Int)) = false := decide_eq_false (by omega)
    refine Ev.succ ?_
    simp only [acmelaw12_MillNarrowed.j1, Bool.false_eq_true, if_false, if_true, if_neg g4, g5]
    refine Ev.succ ?_
    simp only [acmelaw12_MillNarrowed.j2, Bool.false_eq_true, if_false]
    exact narrowed_l1 S hb hg hr (by omega) hb8 hg8 (by omega) rest.length 0 (by omega) (by omega)
theorem u64_nonneg (i : Int) : 0 ≤ IntKind.u64.wrap i := by
 unfold IntKind.wrap
 simp [IntKind.signed, IntKind.bits]
 omega
include S in
theorem narrowed_l0 {all : List S58} (ha : okLots all) (ha8 : all.length ≤ 8) (w : Int) (n0 : Int) :
  ∀ (n i : Nat) (bad good rest : List S58), n = all.length - i → i ≤ all.length → okLots bad → okLots good → okLots rest → bad.length ≤ i → good.length ≤ i → rest.length ≤ i → Ev (fun k => acmelaw12_MillNarrowed.l0 k w l all n0 bad good rest (i : Int)) true := by
 intro n
 induction n with
 | zero =>
  intro i bad good rest hn hi hb hg hr b1 b2 b3
  refine Ev.succ ?_
  have q : ¬ (i : Int) < (all.length : Int) := by omega
  simp only [acmelaw12_MillNarrowed.l0, if_neg q]
  exact narrowed_rest S hb hg hr (by omega) (by omega)
 | succ n ih =>
  intro i bad good rest hn hi hb hg hr b1 b2 b3
  have hlt : i < all.length := by omega
  have q : (i : Int) < (all.length : Int) := by omega
  have q2 : (0 : Int) ≤ (i : Int) := by omega
  have hrd : rd_T58 all (i : Int) = all[i] := by simp [rd_T58, hlt]
  have hqo := ha.2 all[i] (List.getElem_mem hlt)
  generalize all[i] = q0 at hrd hqo
  have e1 : (⟨(rd_T58 all (i : Int)).f0, (rd_T58 all (i : Int)).f1, (rd_T58 all (i : Int)).f2⟩ : S58) = q0 := by rw [hrd]
  have l1 : bad.length + 1 < 5864062014805 := by omega
  have l2 : good.length + 1 < 5864062014805 := by omega
  have l3 : rest.length + 1 < 5864062014805 := by omega
  have i1 := ih (i + 1) (bad ++ [q0]) good rest (by omega) (by omega) (hb.append (by omega) hqo) hg hr (by rw [List.length_append]; simp; omega) (by omega) (by omega)
  have i2 := ih (i + 1) bad (good ++ [q0]) rest (by omega) (by omega) hb (hg.append (by omega) hqo) hr (by omega) (by rw [List.length_append]; simp; omega) (by omega)
  have i3 := ih (i + 1) bad good (rest ++ [q0]) (by omega) (by omega) hb hg (hr.append (by omega) hqo) (by omega) (by omega) (by rw [List.length_append]; simp; omega)
  refine Ev.succ ?_
  simp only [acmelaw12_MillNarrowed.l0, if_pos q, if_pos q2, e1, if_pos (u64_nonneg (i : Int)), Option.bind_some, List.length_cons, List.length_nil, Nat.zero_add, if_pos l1, if_pos l2, if_pos l3, idx1 (show i ≤ 1000000 by omega)]
  refine Ev.ite (fun _ => i3) (fun _ => Ev.ite (fun _ => i1) (fun _ => Ev.ite (fun _ => i1) (fun _ => i2)))
end
theorem pure_MillNarrowed_ev (l0 : List S162) (l1 : List S94) (a1 a2 : Int) (w0 : ∀ v ∈ l0, wfR v) (w1 : ∀ v ∈ l1, wfL v) : Ev (fun k => acmelaw12_MillNarrowed.f k l0 l1 a1 a2) true := by
 simp only [acmelaw12_MillNarrowed.f]
 refine Ev.bind (runs_ev l1 w0) ?_
 refine Ev.bind (lotsF_ev l0 w1) ?_
 obtain ⟨h1, h2⟩ := lotsF_ok w1
 exact narrowed_l0 (shop_of w0) ⟨by omega, h2⟩ h1 a1 _ (lotsF l1).length 0 [] [] [] (by omega) (by omega) ⟨by simp, by simp⟩ ⟨by simp, by simp⟩ ⟨by simp, by simp⟩ (by simp) (by simp) (by simp)
theorem pure_MillNarrowed (l0_0 : List S162) (l0_1 : List S94) (a1 : Int) (a2 : Int) (w0_0 : ∀ x ∈ l0_0, wf162 x) (w0_1 : ∀ x ∈ l0_1, wf94 x) (w1 : (Lit.int .u8 a1).wf = true) (w2 : (Lit.int .u8 a2).wf = true) : ∃ k, acmelaw12_MillNarrowed.f k l0_0 l0_1 a1 a2 = some true :=
 (pure_MillNarrowed_ev l0_0 l0_1 a1 a2 (fun x hx => ⟨u8_of (w0_0 x hx).1, u8_of (w0_0 x hx).2.1, u8_of (w0_0 x hx).2.2.1, u8_of (w0_0 x hx).2.2.2⟩) (fun x hx => ⟨u8_of (w0_1 x hx).1, u8_of (w0_1 x hx).2.1, u8_of (w0_1 x hx).2.2⟩)).ex
end Go.Proofs.Ytiaiecfnpompcaa.T
namespace Go.Proofs.Ytiaiecfnpompcaa.millNarrowed
open Go.ChangeShapes Go.WideShapes Go.ChangeAt Go.RowKit Go.Proofs.Ytiaiecfnpompcaa.T
open Go.ChangeMaps (open_string shut_string)
set_option linter.unusedVariables false
theorem own : ownKnob Try.prog.godebug = none := by kernel_rfl
theorem laidOut : laidOutB Try.prog = true := by kernel_rfl
set_option maxRecDepth 100000 in
theorem lifted (os : Os) (started : os.Started) (H : Type) (enc : TypeId × Value → H) :
  ReturnsInHanded {} Try.checked os 13 .any (Rows.millNarrowedSpec.pre6 enc Try.prog Try.f13 Rows.millNarrowedRow.domain false) (Rows.millNarrowedSpec.post enc Try.prog Try.f13 false true false false) := by
 refine returnsInHanded_of_change_sized (C := Try.checked) own started (by kernel_rfl) Try.func13
  (ChangeSpec.witness6 (enc := enc) (C := Try.checked) false ⟨#[], #[.agg #[.slice none 0 0, .slice none 0 0], .int .u8 0, .int .u8 0], []⟩ 8 (by kernel_rfl) (by kernel_rfl) (by kernel_rfl) (by kernel_rfl)) ?_
 intro W base args ds gs before hval0 hW hcnd hsz0 _
 have hval : ∀ (j : Nat) t v, Try.f13.params[j]? = some t → args[j]? = some v → Value.okWide Try.prog W .any base t v := hval0
 have hW' := hW
 obtain ⟨p, q, hA0, hV, rfl, hfz, hnd⟩ := hW
 have hA : DataW.TrodAll enc Try.prog W 0 (fun _ => true) true Try.f13.params.toList args.toList ds p := hA0
 rw [Try.params13] at hA hval
 obtain ⟨v0, vs0, d0, ds0, p0, q0, hargs, rfl, rfl, h0, r0⟩ := trodAll_cons hA
 obtain ⟨v1, vs1, d1, ds1, p1, q1, rfl, rfl, rfl, h1, r1⟩ := trodAll_cons r0
 obtain ⟨v2, vs2, d2, ds2, p2, q2, rfl, rfl, rfl, h2, r2⟩ := trodAll_cons r1
 obtain ⟨rfl, rfl, rfl⟩ := trodAll_nil r2
 obtain rfl : args = #[v0, v1, v2] := by cases args; simp_all
 obtain ⟨rfl, rfl⟩ := trodVars_none hV
 have k0 := h0
 have lt0 : ∀ x ∈ p0, x.block < W.heap.size := by obtain ⟨m, hm⟩ := k0; exact DataW.trod_lt m _ _ _ hm
 obtain ⟨fuel0, hf0⟩ := h0
 obtain ⟨A0_0, c0_0, l0_0, A0_1, c0_1, l0_1, e0, ⟨C0_0, d0_0, w0_0⟩, ⟨C0_1, d0_1, w0_1⟩⟩ := open113 hf0
 obtain rfl : v0 = .agg #[.slice A0_0 l0_0.length c0_0, .slice A0_1 l0_1.length c0_1] := agg_of_cells e0 (by simp)
 have k1 := h1
 have lt1 : ∀ x ∈ p1, x.block < W.heap.size := by obtain ⟨m, hm⟩ := k1; exact DataW.trod_lt m _ _ _ hm
 obtain ⟨a1, rfl, rfl, rfl, w1⟩ := open_int Try.underlying5 (hval 1 5 v1 rfl rfl) h1
 have k2 := h2
 have lt2 : ∀ x ∈ p2, x.block < W.heap.size := by obtain ⟨m, hm⟩ := k2; exact DataW.trod_lt m _ _ _ hm
 obtain ⟨a2, rfl, rfl, rfl, w2⟩ := open_int Try.underlying5 (hval 2 5 v2 rfl rfl) h2
 clear hA0 hval0 hsz0
 obtain ⟨k, hk⟩ := pure_MillNarrowed l0_0 l0_1 a1 a2 w0_0 w0_1 w1 w2
 refine (acmelaw12_MillNarrowed.calls k A0_0 c0_0 l0_0 A0_1 c0_1 l0_1 a1 a2 true W C0_0 d0_0 C0_1 d0_1 hk).mono fun e W' ⟨he, bel⟩ => ?_
 subst he
 exact ⟨_, rfl, _, _, _, [], _, [], hW', trodAll_mk1 (shut_bool Try.underlying4 _), (trodAll_cons_mk (Below.trod laidOut (by kernel_rfl) (of_decide_eq_true (by kernel_rfl)) k0 bel lt0) (trodAll_cons_mk (Below.trod laidOut (by kernel_rfl) (of_decide_eq_true (by kernel_rfl)) k1 bel lt1) (trodAll_cons_mk (Below.trod laidOut (by kernel_rfl) (of_decide_eq_true (by kernel_rfl)) k2 bel lt2) trodAll_mk0))), rfl, bel.frame _, fun h => by cases h⟩
theorem over : Rows.millNarrowedRow.holds Try.pinned (OpenSpec.ofChange Rows.millNarrowedSpec) :=
 OpenClaim.holds_of_wide 13 Try.f13 rfl rfl rfl rfl rfl rfl rfl ⟨rfl, rfl, rfl, rfl, rfl⟩ rfl rfl rfl rfl rfl (by kernel_rfl) Try.func13 (by kernel_rfl)
  (of_decide_eq_true (by kernel_rfl)) (by unfold Func.isWrapper; first | (rw [if_pos (by decide +kernel)]; kernel_rfl) | (rw [if_neg (by decide +kernel)]; exact ⟨rfl, rfl⟩))
  (fun os started H enc _ => lifted os started H enc)
theorem proved : Rows.MillNarrowedSaid := over
end Go.Proofs.Ytiaiecfnpompcaa.millNarrowed
namespace Go.Proofs.Ytiaiecfnpompcaa
theorem millNarrowed_holds : Rows.MillNarrowedSaid := millNarrowed.proved
end Go.Proofs.Ytiaiecfnpompcaa
