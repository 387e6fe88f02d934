-- cut down, squeezed and laid together by pack.py (a program of this repository) out of this seat's texts
import Derived.WalkKit
import Derived.MapKept
import Derived.RangeFuncNested
import Derived.RangeFuncBound
import Derived.RangeFuncCalls
import Derived.RangeFuncLeaves
import Derived.Shelf.Abstract
import Derived.Shelf.RegionOpen
import Derived.OwnWalkIn
import Derived.TacticsInMore
import Derived.LoopNIn
import Derived.LoopIn
import Derived.ChangeKeysEq
import Derived.ProofKit
import Derived.OpenShut
import Derived.ShutString
import Derived.ChangeOld
import Derived.Below
import Derived.SizedLaws
import Derived.Carry
import Derived.Test.YtiaiecfnpompcaaRows
import Derived.Test.YtiaiecfnpompcaaZT11
import Derived.Test.YtiaiecfnpompcaaZT13
import Derived.Test.YtiaiecfnpompcaaZT2
import Derived.Test.YtiaiecfnpompcaaZT9
import Derived.Test.YtiaiecfnpompcaaZT5
import Derived.Test.YtiaiecfnpompcaaZT22
import Derived.Test.YtiaiecfnpompcaaZT8
import Derived.Test.YtiaiecfnpompcaaZT16
import Derived.Test.YtiaiecfnpompcaaZT10
import Derived.Test.YtiaiecfnpompcaaZT23
import Derived.Test.YtiaiecfnpompcaaZT19
import Derived.Test.YtiaiecfnpompcaaZT12
import Derived.Test.YtiaiecfnpompcaaZT4
import Derived.Test.YtiaiecfnpompcaaZT7
import Derived.Test.YtiaiecfnpompcaaZT3
import Derived.Test.YtiaiecfnpompcaaZT6
import Derived.Test.YtiaiecfnpompcaaZT1
import Derived.Test.YtiaiecfnpompcaaZT14
import Derived.Test.YtiaiecfnpompcaaZT17
import Derived.Test.YtiaiecfnpompcaaZT18
import Derived.Test.YtiaiecfnpompcaaZT15
import Derived.Test.YtiaiecfnpompcaaZT21
import Derived.Test.YtiaiecfnpompcaaZT20
namespace Go.Proofs.Ytiaiecfnpompcaa.T
open Go.RowKit Go.Proofs.YtiaiecfnpompcaaW.PrintWords
set_option linter.unusedVariables false
set_option linter.unusedSimpArgs false
set_option linter.unusedSectionVars false
theorem lots_eq {l : List S58} (h : l.length ≤ 1000000) : acmelaw12_lots.f l = some l := by
 unfold acmelaw12_lots.f
 simp only [Option.bind_some, List.length_nil, List.nil_append]
 rw [if_pos (by omega)]
theorem runs_eq {l : List S144} (h : l.length ≤ 1000000) : acmelaw12_runs.f l = some l := by
 unfold acmelaw12_runs.f
 simp only [Option.bind_some, List.length_nil, List.nil_append]
 rw [if_pos (by omega)]
section
variable {l : List S144} (hlen : l.length ≤ 60) (hok : ∀ x ∈ l, okRun x) (hap : l.Pairwise apart)
end
section
variable {kss gss : List (List S79)} {K0 : List S79} {kr : List (List S79)} (hk : kss = K0 :: kr) (h1 : ∀ ks ∈ kss, ks.length ≤ 1000000) (h2 : ∀ ks ∈ gss, ks.length ≤ 1000000) (hn1 : kss.length ≤ 1000) (hn2 : gss.length ≤ 1000)
end
theorem sortC_mem_iff {ks : List S79} {x : S79} : x ∈ sortC ks ↔ x ∈ ks := by
 unfold sortC
 rw [List.mem_mergeSort]
 obtain ⟨_, t2⟩ := distinctC_spec ks [] (by simp)
 show x ∈ distinctC ks ↔ _
 unfold distinctC
 rw [t2]; simp
def culV (l : List S144) (bad good : List S58) : List S79 × Int :=
 if 40 < bad.length ∨ 40 < good.length then ([], 5) else if bad.length = 0 then ([], 7) else if allE l bad ≠ 0 then ([], allE l bad) else if allE l good ≠ 0 then ([], allE l good) else (sortC (culKeys (bad.map (keysOf l)) (good.map (keysOf l))), 0)
theorem millCul_eq {l : List S144} (hlen : l.length ≤ 12 ∨ 60 < l.length) (bad good : List S58) : mill_Culprits.f l bad good = some (if chk l ≠ 0 then ([], chk l) else culV l bad good) := by
 unfold mill_Culprits.f culF
 rw [mcheck_eq hlen (by omega), Option.bind_some]
 by_cases g : chk l = 0
 rotate_left
 ·rw [if_pos g, if_pos g, Option.bind_some, sortC_nil]
 ·have eR : (if chk l ≠ 0 then (([] : List S79), chk l) else culV l bad good) = culV l bad good := if_neg (by simp [g])
  rw [eR, if_neg (by simp [g])]
  clear eR
  have hle : l.length ≤ 60 := by
   unfold chk at g
   split at g
   ·cases g
   ·omega
  have hcf : chkF [] l = 0 := by unfold chk at g; rwa [if_neg (by omega)] at g
  obtain ⟨hok, hap⟩ := chkF_zero l [] (by simp) (by simp) hcf
  rw [List.nil_append] at hok
  unfold culV
  by_cases g1 : 40 < bad.length ∨ 40 < good.length
  ·rw [if_pos g1, if_pos g1, Option.bind_some, sortC_nil]
  ·rw [if_neg g1, if_neg g1]
   by_cases g2 : bad.length = 0
   ·rw [if_pos g2, if_pos g2, Option.bind_some, sortC_nil]
   ·rw [if_neg g2, if_neg g2, if_pos ⟨by omega, hok⟩]
    by_cases g3 : allE l bad = 0
    rotate_left
    ·rw [if_pos g3, if_pos g3, Option.bind_some, sortC_nil]
    ·rw [if_neg (show ¬ (allE l bad ≠ 0) by simp [g3]), if_neg (show ¬ (allE l bad ≠ 0) by simp [g3])]
     by_cases g4 : allE l good = 0
     rotate_left
     ·rw [if_pos g4, if_pos g4, Option.bind_some, sortC_nil]
     ·rw [if_neg (show ¬ (allE l good ≠ 0) by simp [g4]), if_neg (show ¬ (allE l good ≠ 0) by simp [g4]), Option.bind_some]
end Go.Proofs.Ytiaiecfnpompcaa.T
namespace Go.Proofs.Ytiaiecfnpompcaa.T
open Go.RowKit Go.Proofs.YtiaiecfnpompcaaW.PrintWords
set_option linter.unusedVariables false
set_option linter.unusedSimpArgs false
def u8s (x : Int) : Prop := 0 ≤ x ∧ x ≤ 255
theorem u8_wrap {x : Int} (h : u8s x) : wrap64 x = x := wrap64_id (by have := h.1; omega) (by have := h.2; omega)
theorem u8_mod {x : Int} (h : u8s x) (n : Int) : Int.tmod (wrap64 x) n = x % n := by rw [u8_wrap h, Int.tmod_eq_emod_of_nonneg h.1]
def wfR (v : S162) : Prop := u8s v.f0 ∧ u8s v.f1 ∧ u8s v.f2 ∧ u8s v.f3
def wfL (v : S94) : Prop := u8s v.f0 ∧ u8s v.f1 ∧ u8s v.f2
def runStep (s : List S144 × Int × Int) (v : S162) : List S144 × Int × Int :=
 if v.f0 % 2 = 0 then (s.1 ++ [⟨0, s.2.1 + v.f1 % 4, s.2.1 + v.f1 % 4 + v.f2 % 6, v.f3 % 4, v.f3 / 16 % 4⟩], s.2.1 + v.f1 % 4 + v.f2 % 6 + 1, s.2.2)
 else (s.1 ++ [⟨1, s.2.2 + v.f1 % 4, s.2.2 + v.f1 % 4 + v.f2 % 6, v.f3 % 4, v.f3 / 16 % 4⟩], s.2.1, s.2.2 + v.f1 % 4 + v.f2 % 6 + 1)
def runsF (l : List S162) : List S144 := ((l.take 10).foldl runStep ([], 0, 0)).1
def endOf (s : List S144 × Int × Int) (m : Int) : Int := if m = 0 then s.2.1 else s.2.2
def RInv (s : List S144 × Int × Int) (i : Nat) : Prop :=
 s.1.length = i ∧ (0 ≤ s.2.1 ∧ s.2.1 ≤ 10 * i) ∧ (0 ≤ s.2.2 ∧ s.2.2 ≤ 10 * i) ∧ (∀ x ∈ s.1, okRun x ∧ (x.f0 = 0 ∨ x.f0 = 1) ∧ x.f2 < endOf s x.f0 ∧ x.f2 ≤ x.f1 + 5) ∧ s.1.Pairwise apart
theorem RInv.step {s : List S144 × Int × Int} {i : Nat} {v : S162} (h : RInv s i) (hi : i < 100) (hv : wfR v) : RInv (runStep s v) (i + 1) := by
 obtain ⟨h1, h2, h3, h4, h5⟩ := h
 obtain ⟨v0, v1, v2, v3⟩ := hv
 obtain ⟨l, a, b⟩ := s
 dsimp only at h1 h2 h3 h4 h5
 have e3 : 0 ≤ v.f3 := v3.1
 have e4 : v.f3 ≤ 255 := v3.2
 unfold runStep
 by_cases g : v.f0 % 2 = 0
 ·rw [if_pos g]
  refine ⟨by simp [h1], by dsimp only; omega, by dsimp only; omega, fun x hx => ?_, ?_⟩
  ·rcases List.mem_append.1 hx with q | q
   ·obtain ⟨q1, q2, q3, q4⟩ := h4 x q
    refine ⟨q1, q2, ?_, q4⟩
    unfold endOf at q3 ⊢
    split at q3
    ·rename_i g0; rw [if_pos g0]; dsimp only at q3 ⊢; omega
    ·rename_i g0; rw [if_neg g0]; exact q3
   ·rw [List.mem_singleton] at q
    subst q
    refine ⟨⟨⟨?_, ?_⟩, ⟨?_, ?_⟩, ⟨?_, ?_⟩, ?_, ?_, ?_⟩, .inl rfl, ?_, ?_⟩ <;> (try unfold endOf) <;> (try rw [if_pos rfl]) <;> dsimp only <;> omega
  ·rw [List.pairwise_append]
   refine ⟨h5, by simp, fun x hx y hy => ?_⟩
   rw [List.mem_singleton] at hy
   subst hy
   obtain ⟨q1, q2, q3, q4⟩ := h4 x hx
   rintro ⟨g0, g1, g2⟩
   dsimp only at g0 g1 g2
   unfold endOf at q3
   rw [if_pos g0] at q3
   dsimp only at q3
   omega
 ·rw [if_neg g]
  refine ⟨by simp [h1], by dsimp only; omega, by dsimp only; omega, fun x hx => ?_, ?_⟩
  ·rcases List.mem_append.1 hx with q | q
   ·obtain ⟨q1, q2, q3, q4⟩ := h4 x q
    refine ⟨q1, q2, ?_, q4⟩
    unfold endOf at q3 ⊢
    split at q3
    ·rename_i g0; rw [if_pos g0]; exact q3
    ·rename_i g0; rw [if_neg g0]; dsimp only at q3 ⊢; omega
   ·rw [List.mem_singleton] at q
    subst q
    refine ⟨⟨⟨?_, ?_⟩, ⟨?_, ?_⟩, ⟨?_, ?_⟩, ?_, ?_, ?_⟩, .inr rfl, ?_, ?_⟩ <;> (try unfold endOf) <;> (try rw [if_neg (show ¬ (1 : Int) = 0 by omega)]) <;> dsimp only <;> omega
  ·rw [List.pairwise_append]
   refine ⟨h5, by simp, fun x hx y hy => ?_⟩
   rw [List.mem_singleton] at hy
   subst hy
   obtain ⟨q1, q2, q3, q4⟩ := h4 x hx
   rintro ⟨g0, g1, g2⟩
   dsimp only at g0 g1 g2
   unfold endOf at q3
   rw [if_neg (show ¬ x.f0 = 0 by omega)] at q3
   dsimp only at q3
   omega
theorem runs_inv {l : List S162} (hw : ∀ v ∈ l, wfR v) : ∀ i : Nat, i ≤ l.length → i ≤ 10 → RInv ((l.take i).foldl runStep ([], 0, 0)) i
 | 0, _, _ => ⟨rfl, by simp, by simp, fun x hx => by simp at hx, by simp⟩
 | i + 1, hi, hi2 => by
  rw [List.take_succ_eq_append_getElem (by omega), List.foldl_append]
  exact (runs_inv hw i (by omega) (by omega)).step (by omega) (hw _ (List.getElem_mem _))
theorem runs_loop {l : List S162} (l1 : List S94) (hw : ∀ v ∈ l, wfR v) : ∀ (n i : Nat), n = min l.length 10 - i → i ≤ min l.length 10 →
  Ev (fun k => acmelaw12_Works_runs.l0 k ((l.take i).foldl runStep ([], 0, 0)).1 i l l1 ((l.take i).foldl runStep ([], 0, 0)).2.1 ((l.take i).foldl runStep ([], 0, 0)).2.2) (runsF l) := by
 intro n
 induction n with
 | zero =>
  intro i hn hi
  have hfin : ((l.take i).foldl runStep ([], 0, 0)).1 = runsF l := by
   unfold runsF
   have : l.take i = l.take 10 := by
    by_cases g : l.length ≤ 10
    ·rw [List.take_of_length_le (by omega), List.take_of_length_le g]
    ·have : i = 10 := by omega
     rw [this]
   rw [this]
  refine Ev.succ ?_
  rw [hfin]
  by_cases g : (i : Int) < (l.length : Int)
  ·have g2 : ¬ (i : Int) < 10 := by omega
   simp only [acmelaw12_Works_runs.l0, if_pos g, if_neg g2]
   exact Ev.pure _
  ·simp only [acmelaw12_Works_runs.l0, if_neg g]
   exact Ev.pure _
 | succ n ih =>
  intro i hn hi
  have hlt : i < l.length := by omega
  have g : (i : Int) < (l.length : Int) := by omega
  have g2 : (i : Int) < 10 := by omega
  have g3 : (0 : Int) ≤ (i : Int) := by omega
  have ih' := ih (i + 1) (by omega) (by omega)
  have hinv := runs_inv hw i (by omega) (by omega)
  obtain ⟨w0, w1, w2, w3⟩ := hw l[i] (List.getElem_mem hlt)
  rw [List.take_succ_eq_append_getElem hlt, List.foldl_append] at ih'
  have hrd : rd_T162 l (i : Int) = l[i] := by simp [rd_T162, hlt]
  generalize l[i] = v at ih' hrd w0 w1 w2 w3
  generalize hs : (l.take i).foldl runStep ([], 0, 0) = s at ih' hinv ⊢
  obtain ⟨h1, h2, h3, h4, h5⟩ := hinv
  obtain ⟨acc, a, b⟩ := s
  dsimp only at h1 h2 h3 ⊢
  have hst : [v].foldl runStep (acc, a, b) = runStep (acc, a, b) v := rfl
  rw [hst] at ih'
  have b1 := w1.1; have b2 := w1.2; have b3 := w2.1; have b4 := w2.2; have b5 := w3.1; have b6 := w3.2
  have hd : Int.tmod (wrap64 (Int.tdiv (wrap64 v.f3) 16)) 4 = v.f3 / 16 % 4 := by
   rw [u8_wrap w3, Int.tdiv_eq_ediv_of_nonneg w3.1, wrap64_id (by omega) (by omega), Int.tmod_eq_emod_of_nonneg (by omega)]
  have hlen : acc.length < 3518437208883 := by omega
  refine Ev.succ ?_
  simp only [acmelaw12_Works_runs.l0, if_pos g, if_pos g2, if_pos g3, hrd]
  refine Ev.succ ?_
  simp only [acmelaw12_Works_runs.j1, u8_mod w0, u8_mod w1, u8_mod w2, u8_mod w3, hd, if_pos hlen, idx1 (show i ≤ 1000000 by omega)]
  unfold runStep at ih'
  by_cases c : v.f0 % 2 = 0
  ·rw [if_pos c] at ih'
   simp only [if_pos c]
   rw [wrap64_id (x := a + v.f1 % 4) (by omega) (by omega), wrap64_id (x := a + v.f1 % 4 + v.f2 % 6) (by omega) (by omega), wrap64_id (x := a + v.f1 % 4 + v.f2 % 6 + 1) (by omega) (by omega)]
   exact ih'
  ·rw [if_neg c] at ih'
   have c2 : v.f0 % 2 = 1 := by omega
   simp only [if_neg c, if_pos c2]
   rw [wrap64_id (x := b + v.f1 % 4) (by omega) (by omega), wrap64_id (x := b + v.f1 % 4 + v.f2 % 6) (by omega) (by omega), wrap64_id (x := b + v.f1 % 4 + v.f2 % 6 + 1) (by omega) (by omega)]
   exact ih'
theorem runs_ev {l : List S162} (l1 : List S94) (hw : ∀ v ∈ l, wfR v) : Ev (fun k => acmelaw12_Works_runs.f k l l1) (runsF l) := by
 have := runs_loop l1 hw (min l.length 10) 0 (by omega) (by omega)
 simpa [acmelaw12_Works_runs.f] using this
theorem runsF_ok {l : List S162} (hw : ∀ v ∈ l, wfR v) : (runsF l).length ≤ 10 ∧ (∀ x ∈ runsF l, okRun x ∧ (x.f0 = 0 ∨ x.f0 = 1) ∧ x.f2 ≤ x.f1 + 5) ∧ (runsF l).Pairwise apart := by
 have key : ∃ i, i ≤ 10 ∧ RInv ((l.take 10).foldl runStep ([], 0, 0)) i := by
  by_cases g : l.length ≤ 10
  ·refine ⟨l.length, g, ?_⟩
   have := runs_inv hw l.length (by omega) g
   rw [List.take_length] at this
   rw [List.take_of_length_le g]
   exact this
  ·exact ⟨10, by omega, runs_inv hw 10 (by omega) (by omega)⟩
 obtain ⟨i, hi, h1, _, _, h4, h5⟩ := key
 exact ⟨by unfold runsF; omega, fun x hx => ⟨(h4 x hx).1, (h4 x hx).2.1, (h4 x hx).2.2.2⟩, h5⟩
theorem chkF_ok : ∀ (r b : List S144), (∀ x ∈ r, okRun x) → (b ++ r).Pairwise apart → chkF b r = 0
 | [], b, _, _ => rfl
 | x :: r, b, h, hp => by
  unfold chkF
  rw [if_neg (fun q => q (h x (by simp)))]
  have hp2 := hp
  rw [List.pairwise_append] at hp2
  rw [if_neg (by rintro ⟨y, hy, q⟩; exact q (hp2.2.2 y hy x (by simp)))]
  exact chkF_ok r (b ++ [x]) (fun y hy => h y (by simp [hy])) (by rw [List.append_assoc]; exact hp)
theorem chk_runs {l : List S162} (hw : ∀ v ∈ l, wfR v) : chk (runsF l) = 0 := by
 obtain ⟨h1, h2, h3⟩ := runsF_ok hw
 unfold chk
 rw [if_neg (by omega)]
 exact chkF_ok _ [] (fun x hx => (h2 x hx).1) h3
def lotOf (v : S94) : S58 := ⟨v.f0 % 2, v.f1 % 25, v.f1 % 25 + v.f2 % 12⟩
def lotsF (l : List S94) : List S58 := (l.take 8).map lotOf
theorem lots_loop2 {l : List S94} (l0 : List S162) (hw : ∀ v ∈ l, wfL v) : ∀ (n i : Nat), n = min l.length 8 - i → i ≤ min l.length 8 → Ev (fun k => acmelaw12_Works_lots.l0 k ((l.take i).map lotOf) i l0 l) (lotsF l) := by
 intro n
 induction n with
 | zero =>
  intro i hn hi
  have hfin : (l.take i).map lotOf = lotsF l := by
   unfold lotsF
   have : l.take i = l.take 8 := by
    by_cases g : l.length ≤ 8
    ·rw [List.take_of_length_le (by omega), List.take_of_length_le g]
    ·have : i = 8 := by omega
     rw [this]
   rw [this]
  refine Ev.succ ?_
  rw [hfin]
  by_cases g : (i : Int) < (l.length : Int)
  ·have g2 : ¬ (i : Int) < 8 := by omega
   simp only [acmelaw12_Works_lots.l0, if_pos g, if_neg g2]
   exact Ev.pure _
  ·simp only [acmelaw12_Works_lots.l0, if_neg g]
   exact Ev.pure _
 | succ n ih =>
  intro i hn hi
  have hlt : i < l.length := by omega
  have g : (i : Int) < (l.length : Int) := by omega
  have g2 : (i : Int) < 8 := by omega
  have g3 : (0 : Int) ≤ (i : Int) := by omega
  have ih' := ih (i + 1) (by omega) (by omega)
  obtain ⟨w0, w1, w2⟩ := hw l[i] (List.getElem_mem hlt)
  rw [List.take_succ_eq_append_getElem hlt, List.map_append] at ih'
  have hrd : rd_T94 l (i : Int) = l[i] := by simp [rd_T94, hlt]
  have hlen : ((l.take i).map lotOf).length < 5864062014805 := by rw [List.length_map, List.length_take]; omega
  generalize l[i] = v at ih' hrd w0 w1 w2
  have b1 := w1.1; have b2 := w1.2; have b3 := w2.1; have b4 := w2.2
  refine Ev.succ ?_
  simp only [acmelaw12_Works_lots.l0, if_pos g, if_pos g2, if_pos g3, hrd, if_pos hlen, u8_mod w0, u8_mod w1, u8_mod w2, idx1 (show i ≤ 1000000 by omega)]
  rw [wrap64_id (x := v.f1 % 25 + v.f2 % 12) (by omega) (by omega)]
  exact ih'
theorem lotsF_ev {l : List S94} (l0 : List S162) (hw : ∀ v ∈ l, wfL v) : Ev (fun k => acmelaw12_Works_lots.f k l0 l) (lotsF l) := by
 have := lots_loop2 l0 hw (min l.length 8) 0 (by omega) (by omega)
 simpa [acmelaw12_Works_lots.f] using this
theorem lotsF_ok {l : List S94} (hw : ∀ v ∈ l, wfL v) : (lotsF l).length ≤ 8 ∧ ∀ x ∈ lotsF l, okLot x.f0 x.f1 x.f2 := by
 refine ⟨by unfold lotsF; rw [List.length_map, List.length_take]; omega, fun x hx => ?_⟩
 unfold lotsF at hx
 obtain ⟨v, hv, rfl⟩ := List.mem_map.1 hx
 obtain ⟨w0, w1, w2⟩ := hw v (List.mem_of_mem_take hv)
 have b1 := w1.1; have b2 := w2.1; have b3 := w0.1
 unfold okLot lotOf
 dsimp only
 omega
theorem runKeys_few {x : S144} {m f t : Int} (h : x.f2 ≤ x.f1 + 5) : (runKeys x m f t).length ≤ 8 := by
 have a1 := @mx_le x.f1 f
 have a2 := @mn_le x.f2 t
 unfold runKeys
 split
 ·simp
 ·rename_i g
  rw [List.length_append, hourKeys_len]
  have : (hoursR x m f t).2 - (hoursR x m f t).1 ≤ 5 := by
   unfold hoursR
   split
   ·dsimp only; omega
   ·dsimp only; omega
  simp only [List.length_cons, List.length_nil]
  omega
theorem allKeys_few {m f t : Int} : ∀ {l : List S144}, (∀ x ∈ l, x.f2 ≤ x.f1 + 5) → (allKeys l m f t).length ≤ 8 * l.length
 | [], _ => by simp [allKeys]
 | x :: l, h => by
  have h1 := runKeys_few (m := m) (f := f) (t := t) (h x (by simp))
  have h2 := allKeys_few (m := m) (f := f) (t := t) (l := l) (fun y hy => h y (by simp [hy]))
  have e : allKeys (x :: l) m f t = runKeys x m f t ++ allKeys l m f t := rfl
  rw [e, List.length_append, List.length_cons]
  omega
theorem errOf_zero {l : List S144} (hl : l.length ≤ 10) (h : ∀ x ∈ l, x.f2 ≤ x.f1 + 5) {q : S58} (hq : okLot q.f0 q.f1 q.f2) : errOf l q = 0 := by
 unfold errOf causesE
 rw [if_neg (fun g => g hq)]
 have hk := allKeys_few (m := q.f0) (f := q.f1) (t := q.f2) h
 have hd := distinctC_le (allKeys l q.f0 q.f1 q.f2)
 rw [if_neg, if_neg (by omega)]
 rintro ⟨x, hx, hlr⟩
 have := h x hx
 have a1 := @mx_le x.f1 q.f1
 have a2 := @mn_le x.f2 q.f2
 unfold longRun hoursR at hlr
 split at hlr
 ·dsimp only at hlr; omega
 ·dsimp only at hlr; omega
theorem sortC_len (ks : List S79) : (sortC ks).length = (distinctC ks).length := by unfold sortC; rw [List.length_mergeSort]
end Go.Proofs.Ytiaiecfnpompcaa.T
namespace Go.Proofs.Ytiaiecfnpompcaa.T
open Go.RowKit Go.Proofs.YtiaiecfnpompcaaW.PrintWords Go.Proofs.YtiaiecfnpompcaaW.PrintLast Go.Proofs.YtiaiecfnpompcaaW.PrintMore
set_option linter.unusedVariables false
set_option linter.unusedSimpArgs false
structure Shop (l : List S144) : Prop where
 len : l.length ≤ 10
 ok : ∀ x ∈ l, okRun x
 few : ∀ x ∈ l, x.f2 ≤ x.f1 + 5
 chk : chk l = 0
def okLots (ls : List S58) : Prop := ls.length ≤ 9 ∧ ∀ x ∈ ls, okLot x.f0 x.f1 x.f2
section
variable {l : List S144} (S : Shop l)
include S in
theorem Shop.allE {ls : List S58} (h : okLots ls) : allE l ls = 0 := allE_zero fun x hx => errOf_zero S.len S.few (h.2 x hx)
include S in
theorem Shop.cul {bad good : List S58} (hb : okLots bad) (hg : okLots good) : mill_Culprits.f l bad good = some (if bad.length = 0 then ([], 7) else (sortC (culKeys (bad.map (keysOf l)) (good.map (keysOf l))), 0)) := by
 have := S.len
 rw [millCul_eq (by omega), S.chk]
 have h1 := hb.1
 have h2 := hg.1
 rw [if_neg (by simp)]
 unfold culV
 rw [if_neg (by omega), S.allE hb, S.allE hg]
 by_cases g : bad.length = 0
 ·rw [if_pos g, if_pos g]
 ·rw [if_neg g, if_neg g, if_neg (by simp), if_neg (by simp)]
end
theorem shop_of {l : List S162} (hw : ∀ v ∈ l, wfR v) : Shop (runsF l) := by
 obtain ⟨h1, h2, h3⟩ := runsF_ok hw
 exact ⟨h1, fun x hx => (h2 x hx).1, fun x hx => (h2 x hx).2.2, chk_runs hw⟩
theorem u8_of {x : Int} (h : (Lit.int .u8 x).wf = true) : u8s x := by
 simp [Lit.wf, IntKind.min, IntKind.max, IntKind.signed, IntKind.bits] at h
 unfold u8s
 omega
end Go.Proofs.Ytiaiecfnpompcaa.T
namespace Go.Proofs.Ytiaiecfnpompcaa.T
open Go.RowKit Go.Proofs.YtiaiecfnpompcaaW.PrintWords Go.Proofs.YtiaiecfnpompcaaW.PrintLast Go.Proofs.YtiaiecfnpompcaaW.PrintMore
set_option linter.unusedVariables false
set_option linter.unusedSimpArgs false
def hitP (x : S144) (m h : Int) (z : S79) : Prop := x.f0 = m ∧ x.f1 ≤ h ∧ h ≤ x.f2 ∧ ((z.f0 = 1 ∧ z.f2 = x.f3) ∨ (z.f0 = 2 ∧ z.f2 = x.f4) ∨ (z.f0 = 3 ∧ z.f1 = x.f0 ∧ z.f2 = h))
instance (x : S144) (m h : Int) (z : S79) : Decidable (hitP x m h z) := by unfold hitP; infer_instance
theorem has_l1 (l : List S144) (hl : l.length ≤ 1000000) (h m f t : Int) (z : S79) (k : Nat) : ∀ (r b : List S144), l = b ++ r →
  acmelaw12_has.l1 (k + r.length + 1) l h (b.length : Int) m f t z.f0 z.f1 z.f2 = if (r.any fun x => decide (hitP x m h z)) = true then some true else acmelaw12_has.l0 k l (wrap64 (h + 1)) m f t z.f0 z.f1 z.f2
 | [], b, e => by
  have q : ¬ (b.length : Int) < (l.length : Int) := by rw [e]; simp
  simp only [acmelaw12_has.l1, List.length_nil, Nat.add_zero, if_neg q, List.any_nil, Bool.false_eq_true, if_false]
 | x :: r, b, e => by
  have hlen : l.length = b.length + (r.length + 1) := by rw [e]; simp
  have q : (b.length : Int) < (l.length : Int) := by omega
  have q2 : (0 : Int) ≤ (b.length : Int) := by omega
  have hrd : rd_T144 l (b.length : Int) = x := by rw [rd144_get (by omega)]; simp [e]
  have ih := has_l1 l hl h m f t z k r (b ++ [x]) (by rw [e]; simp)
  rw [show ((b ++ [x]).length : Int) = wrap64 ((b.length : Int) + 1) by rw [wrap64_id (by omega) (by omega)]; simp] at ih
  rw [List.any_cons]
  have e2 : (k + (x :: r).length + 1) = (k + r.length + 1) + 1 := by rw [List.length_cons]; omega
  rw [e2, acmelaw12_has.l1]
  simp only [if_pos q, if_pos q2, hrd, ih]
  have hor : ∀ (p : Prop) [Decidable p] (A : Bool) (L : Option Bool), (if (decide p || A) = true then some true else L) = if p then some true else (if A = true then some true else L) := by
   intro p _ A L
   by_cases g : p <;> simp [g]
  rw [hor]
  generalize (if (r.any fun x => decide (hitP x m h z)) = true then some true else acmelaw12_has.l0 k l (wrap64 (h + 1)) m f t z.f0 z.f1 z.f2) = E
  by_cases c0 : x.f0 = m
  rotate_left
  ·rw [if_neg c0, if_neg (show ¬ hitP x m h z from fun g => c0 g.1)]
  rw [if_pos c0]
  by_cases c1 : x.f1 ≤ h
  rotate_left
  ·rw [if_neg c1, if_neg (show ¬ hitP x m h z from fun g => c1 g.2.1)]
  rw [if_pos c1]
  by_cases c2 : h ≤ x.f2
  rotate_left
  ·rw [if_neg c2, if_neg (show ¬ hitP x m h z from fun g => c2 g.2.2.1)]
  rw [if_pos c2]
  have hq : hitP x m h z ↔ ((z.f0 = 1 ∧ z.f2 = x.f3) ∨ (z.f0 = 2 ∧ z.f2 = x.f4) ∨ (z.f0 = 3 ∧ z.f1 = x.f0 ∧ z.f2 = h)) := ⟨fun g => g.2.2.2, fun g => ⟨c0, c1, c2, g⟩⟩
  clear c0 c1 c2 ih hor
  by_cases c3 : z.f0 = 1
  ·have d1 : ¬ z.f0 = 2 := by omega
   have d2 : ¬ z.f0 = 3 := by omega
   simp only [if_pos c3, if_neg d1, if_neg d2]
   by_cases c4 : z.f2 = x.f3
   ·rw [if_pos c4, if_pos (hq.2 (Or.inl ⟨c3, c4⟩))]
   ·rw [if_neg c4, if_neg (fun g => by rcases hq.1 g with g | g | g; exact c4 g.2; exact d1 g.1; exact d2 g.1)]
  ·by_cases c5 : z.f0 = 2
   ·have d2 : ¬ z.f0 = 3 := by omega
    simp only [if_neg c3, if_pos c5, if_neg d2]
    by_cases c4 : z.f2 = x.f4
    ·rw [if_pos c4, if_pos (hq.2 (Or.inr (Or.inl ⟨c5, c4⟩)))]
    ·rw [if_neg c4, if_neg (fun g => by rcases hq.1 g with g | g | g; exact c3 g.1; exact c4 g.2; exact d2 g.1)]
   ·simp only [if_neg c3, if_neg c5]
    by_cases c6 : z.f0 = 3
    ·rw [if_pos c6]
     by_cases c7 : z.f1 = x.f0
     ·rw [if_pos c7]
      by_cases c8 : z.f2 = h
      ·rw [if_pos c8, if_pos (hq.2 (Or.inr (Or.inr ⟨c6, c7, c8⟩)))]
      ·rw [if_neg c8, if_neg (fun g => by rcases hq.1 g with g | g | g; exact c3 g.1; exact c5 g.1; exact c8 g.2.2)]
     ·rw [if_neg c7, if_neg (fun g => by rcases hq.1 g with g | g | g; exact c3 g.1; exact c5 g.1; exact c7 g.2.1)]
    ·rw [if_neg c6, if_neg (fun g => by rcases hq.1 g with g | g | g; exact c3 g.1; exact c5 g.1; exact c6 g.1)]
def hasP (l : List S144) (m f t : Int) (z : S79) : Prop := ∃ j, f ≤ j ∧ j ≤ t ∧ ∃ x ∈ l, hitP x m j z
theorem has_l0 (l : List S144) (hl : l.length ≤ 1000000) (m a t : Int) (z : S79) (ht : t ≤ 1000000) : ∀ (n k : Nat) (h : Int), 0 ≤ h → (t + 1 - h).toNat = n → n * (l.length + 2) + 1 ≤ k → ∃ v, acmelaw12_has.l0 k l h m a t z.f0 z.f1 z.f2 = some v ∧ (v = true ↔ hasP l m h t z)
 | 0, k, h, h0, e, hk => by
  obtain ⟨k, rfl⟩ : ∃ j, k = j + 1 := ⟨k - 1, by omega⟩
  have q : ¬ h ≤ t := by omega
  refine ⟨false, by rw [acmelaw12_has.l0, if_neg q], ?_⟩
  simp only [Bool.false_eq_true, false_iff]
  rintro ⟨j, h1, h2, _⟩
  omega
 | n + 1, k, h, h0, e, hk => by
  have hk2 : n * (l.length + 2) + (l.length + 2) + 1 ≤ k := by rw [Nat.add_mul] at hk; omega
  obtain ⟨j, rfl⟩ : ∃ j, k = (j + l.length + 1) + 1 := ⟨k - l.length - 2, by omega⟩
  have q : h ≤ t := by omega
  have h1 := has_l1 l hl h m a t z j l [] rfl
  rw [wrap64_id (by omega) (by omega)] at h1
  rw [acmelaw12_has.l0, if_pos q, show (0 : Int) = (([] : List S144).length : Int) from rfl, h1]
  obtain ⟨v, hv, hiff⟩ := has_l0 l hl m a t z ht n j (h + 1) (by omega) (by omega) (by omega)
  rw [hv]
  by_cases g : (l.any fun x => decide (hitP x m h z)) = true
  ·refine ⟨true, by rw [if_pos g], ?_⟩
   simp only [true_iff]
   obtain ⟨x, hx, hp⟩ := List.any_eq_true.1 g
   exact ⟨h, Int.le_refl _, q, x, hx, of_decide_eq_true hp⟩
  ·refine ⟨v, by rw [if_neg g], hiff.trans ⟨?_, ?_⟩⟩
   ·rintro ⟨i, h1, h2, h3⟩
    exact ⟨i, by omega, h2, h3⟩
   ·rintro ⟨i, h1, h2, x, hx, hp⟩
    refine ⟨i, ?_, h2, x, hx, hp⟩
    by_cases g2 : i = h
    ·subst g2
     exact absurd (List.any_eq_true.2 ⟨x, hx, decide_eq_true hp⟩) g
    ·omega
def wfz (z : S79) : Prop := (z.f0 = 1 ∨ z.f0 = 2) → z.f1 = 0
theorem wfz_keys {l : List S144} {m f t : Int} {z : S79} (h : z ∈ allKeys l m f t) : wfz z := by
 rcases allKeys_mem.1 h with ⟨x, _, _, rfl | rfl⟩ | h
 ·intro _; rfl
 ·intro _; rfl
 ·intro g
  have := (allHrs_mem.1 h).1
  omega
theorem hasP_iff {l : List S144} (hok : ∀ x ∈ l, okRun x) {m f t : Int} (hft : f ≤ t) {z : S79} (hz : wfz z) : hasP l m f t z ↔ z ∈ allKeys l m f t := by
 rw [allKeys_mem, allHrs_mem]
 constructor
 ·rintro ⟨j, h1, h2, x, hx, h3, h4, h5, ⟨h6, h7⟩ | ⟨h6, h7⟩ | ⟨h6, h7, h8⟩⟩
  ·refine Or.inl ⟨x, hx, ⟨h3, ?_⟩, Or.inl ?_⟩
   ·unfold mx mn; split <;> split <;> omega
   ·have := hz (Or.inl h6); cases z; simp_all
  ·refine Or.inl ⟨x, hx, ⟨h3, ?_⟩, Or.inr ?_⟩
   ·unfold mx mn; split <;> split <;> omega
   ·have := hz (Or.inr h6); cases z; simp_all
  ·exact Or.inr ⟨h6, by omega, ⟨by omega, by omega⟩, x, hx, h3, by omega, by omega⟩
 ·rintro (⟨x, hx, ⟨h1, h2⟩, rfl | rfl⟩ | ⟨h1, h2, ⟨h3, h4⟩, x, hx, h5, h6, h7⟩)
  ·have := hok x hx
   refine ⟨mx x.f1 f, ?_, ?_, x, hx, h1, ?_, ?_, Or.inl ⟨rfl, rfl⟩⟩ <;> (revert h2; unfold mx mn; split <;> split <;> omega)
  ·have := hok x hx
   refine ⟨mx x.f1 f, ?_, ?_, x, hx, h1, ?_, ?_, Or.inr (Or.inl ⟨rfl, rfl⟩)⟩ <;> (revert h2; unfold mx mn; split <;> split <;> omega)
  ·exact ⟨z.f2, h3, h4, x, hx, h5, h6, h7, Or.inr (Or.inr ⟨h1, by omega, rfl⟩)⟩
theorem has_eq {l : List S144} (S : Shop l) {y : S58} (hy : okLot y.f0 y.f1 y.f2) (hs : y.f2 ≤ y.f1 + 11) {z : S79} (hz : wfz z) {k : Nat} (hk : 200 ≤ k) : acmelaw12_has.f k l y.f0 y.f1 y.f2 z.f0 z.f1 z.f2 = some (decide (z ∈ keysOf l y)) := by
 obtain ⟨h1, h2, h3⟩ := hy
 have hl := S.len
 have hn : (y.f2 + 1 - y.f1).toNat ≤ 12 := by omega
 have hm : (y.f2 + 1 - y.f1).toNat * (l.length + 2) ≤ 12 * 12 := Nat.mul_le_mul hn (by omega)
 obtain ⟨v, hv, hiff⟩ := has_l0 l (by omega) y.f0 y.f1 y.f2 z (by omega) _ k y.f1 h2.1.1 rfl (by omega)
 unfold acmelaw12_has.f
 rw [hv]
 congr 1
 rw [Bool.eq_iff_iff, hiff, decide_eq_true_eq]
 exact hasP_iff S.ok h3 hz
end Go.Proofs.Ytiaiecfnpompcaa.T
namespace Go.Proofs.Ytiaiecfnpompcaa.T
open Go.RowKit Go.Proofs.YtiaiecfnpompcaaW.PrintWords Go.Proofs.YtiaiecfnpompcaaW.PrintLast Go.Proofs.YtiaiecfnpompcaaW.PrintMore
set_option linter.unusedVariables false
set_option linter.unusedSimpArgs false
def isC (x : S79) : Prop := ((x.f0 = 1 ∨ x.f0 = 2) ∧ x.f1 = 0 ∨ x.f0 = 3 ∧ 0 ≤ x.f1 ∧ x.f1 ≤ 1000) ∧ 0 ≤ x.f2 ∧ x.f2 ≤ 1000
theorem isNumber1_eq (x : Int) : mill_isNumber.f [x] = some (decide (0 ≤ x ∧ x ≤ 1000)) := by
 unfold mill_isNumber.f
 rw [within_one]; rfl
theorem isCause_eq {x : S79} (h : isC x) : mill_isCause.f 1000 x.f0 x.f1 x.f2 = some true := by
 obtain ⟨h1 | ⟨h1, h2, h3⟩, h4, h5⟩ := h
 ·have hn : mill_isNumber.f [x.f2] = some true := by rw [isNumber1_eq, decide_eq_true ⟨h4, h5⟩]
  have hb : (x.f0 == 1) = true ∨ (x.f0 == 2) = true := by rcases h1.1 with h | h <;> simp [h]
  unfold mill_isCause.f
  by_cases g : x.f0 = 1
  ·rw [if_pos g, beq_iff_eq.2 g]
   simp only [mill_isCause.j0, if_true, if_pos h1.2, hn, Option.bind_some]
  ·have g2 : x.f0 = 2 := by omega
   rw [if_neg g, beq_iff_eq.2 g2]
   simp only [mill_isCause.j0, if_true, if_pos h1.2, hn, Option.bind_some]
 ·have hn : mill_isNumber.f [x.f1] = some true := by rw [isNumber1_eq, decide_eq_true ⟨h2, h3⟩]
  have hh : mill_areHours.f x.f2 x.f2 = some true := by
   unfold mill_areHours.f
   rw [within_two, decide_eq_true (by omega)]
   simp
  unfold mill_isCause.f
  have e2 : (x.f0 == 2) = false := by simp [h1]
  rw [if_neg (by omega), e2]
  simp only [mill_isCause.j0, Bool.false_eq_true, if_false, if_pos h1, hn, Option.bind_some, if_true, hh]
theorem okC_of_isC {x : S79} (h : isC x) : okCb x = true := by
 obtain ⟨h1, h4, h5⟩ := h
 unfold okCb
 simp only [Bool.and_eq_true, Lit.wf, IntKind.min, IntKind.max, IntKind.signed, IntKind.bits]
 simp
 rcases h1 with ⟨h1, h2⟩ | ⟨h1, h2, h3⟩ <;> omega
section
variable {l : List S144} (S : Shop l)
include S in
theorem Shop.recall {all : List S58} (ha : okLots all) {x : S79} (hx : isC x) : mill_Recall.f l all x.f0 x.f1 x.f2 = some (recI x (all.map (keysOf l)) all.length, 0) := by
 have h1 := S.len
 have h2 := ha.1
 unfold mill_Recall.f mill_Recall.g
 rw [mcheck_eq (by omega) (by omega), Option.bind_some, S.chk, if_neg (by simp), if_neg (by omega)]
 rw [show (⟨x.f0, x.f1, x.f2⟩ : S79) = x from rfl, isCause_eq hx, Option.bind_some, if_neg (by simp), if_pos ⟨⟨by omega, S.ok⟩, okC_of_isC hx⟩, S.allE ha, if_neg (by simp)]
include S in
theorem Shop.causes {y : S58} (hy : okLot y.f0 y.f1 y.f2) : mill_Causes.f l y.f0 y.f1 y.f2 = some (sortC (keysOf l y), 0) := by
 have h1 := S.len
 unfold mill_Causes.f mill_Causes.g
 have e : causesE l y.f0 y.f1 y.f2 = 0 := errOf_zero (q := y) S.len S.few hy
 rw [mcheck_eq (by omega) (by omega), Option.bind_some, S.chk, if_neg (by simp), if_pos ⟨by omega, S.ok⟩, e, if_neg (by simp)]
 rfl
include S in
theorem tail_ok {all : List S58} (ha : okLots all) (hsp : ∀ y ∈ all, y.f2 ≤ y.f1 + 11) {x : S79} (hx : isC x) (hxw : wfz x) {bad good : List S58} (hbad : bad = all.filter fun y => decide (x ∈ keysOf l y)) (hgood : good = all.filter fun y => !decide (x ∈ keysOf l y)) (h0 : 0 < bad.length) :
  tailB l all bad (sortC (culKeys (bad.map (keysOf l)) (good.map (keysOf l)))) (sortC (keysOf l (rd_T58 bad 0))) x = true := by
 obtain ⟨b0, bt, hb⟩ : ∃ b0 bt, bad = b0 :: bt := List.exists_cons_of_ne_nil (fun e => by rw [e] at h0; simp at h0)
 have hr0 : rd_T58 bad 0 = b0 := by rw [hb]; rfl
 rw [hr0]
 have hb0 : b0 ∈ bad := by rw [hb]; simp
 have hb0a : b0 ∈ all := by rw [hbad] at hb0; exact (List.mem_filter.1 hb0).1
 have hb0x : x ∈ keysOf l b0 := by rw [hbad] at hb0; exact of_decide_eq_true (List.mem_filter.1 hb0).2
 have hmem : ∀ z, z ∈ culKeys (bad.map (keysOf l)) (good.map (keysOf l)) ↔ z ∈ keysOf l b0 ∧ (∀ y ∈ bad, z ∈ keysOf l y) ∧ ∀ y ∈ good, z ∉ keysOf l y := by
  intro z
  unfold culKeys
  rw [hb, List.map_cons, List.headD_cons, List.mem_filter]
  refine and_congr Iff.rfl ?_
  unfold gdB
  rw [← List.map_cons, Bool.and_eq_true, Bool.not_eq_true', Bool.not_eq_true', List.any_eq_false, List.any_eq_false]
  constructor
  ·rintro ⟨h1, h2⟩
   refine ⟨fun y hy => ?_, fun y hy hm => ?_⟩
   ·have := h1 (keysOf l y) (List.mem_map_of_mem hy)
    simpa using this
   ·have := h2 (keysOf l y) (List.mem_map_of_mem hy)
    exact this (decide_eq_true hm)
  ·rintro ⟨h1, h2⟩
   refine ⟨fun ks hks => ?_, fun ks hks => ?_⟩
   ·obtain ⟨y, hy, rfl⟩ := List.mem_map.1 hks
    simpa using h1 y hy
   ·obtain ⟨y, hy, rfl⟩ := List.mem_map.1 hks
    simpa using h2 y hy
 have hfz : ∀ z, z ∈ keysOf l b0 → wfz z := fun z hz => wfz_keys hz
 have hhas : ∀ y ∈ all, ∀ z, wfz z → acmelaw12_has.f 1000 l y.f0 y.f1 y.f2 z.f0 z.f1 z.f2 = some (decide (z ∈ keysOf l y)) := fun y hy z hz => has_eq S (ha.2 y hy) (hsp y hy) hz (by omega)
 have hhv : ∀ y ∈ all, ∀ z, wfz z → hasV l y z = decide (z ∈ keysOf l y) := fun y hy z hz => by unfold hasV hasO; rw [hhas y hy z hz]; rfl
 have hbl : bad.length ≤ all.length := by rw [hbad]; exact List.length_filter_le _ _
 have hks : (keysOf l b0).length ≤ 8 * l.length := allKeys_few S.few
 have hok := allKeys_ok S.ok (ha.2 b0 hb0a)
 have hl := S.len
 have hal := ha.1
 have hnd : ∀ ks : List S79, (sortC ks).Nodup := fun ks => (List.mergeSort_perm _ _).nodup_iff.2 (distinctC_nodup ks).1
 rw [tailB_iff]
 refine ⟨by rw [hb]; simp, ⟨?_, ?_, by omega⟩, ?_, ?_, ?_, ?_, ?_, hnd _, hnd _, ?_, ?_⟩
 ·rw [sortC_len]
  have d1 := distinctC_le (culKeys (bad.map (keysOf l)) (good.map (keysOf l)))
  have d2 : (culKeys (bad.map (keysOf l)) (good.map (keysOf l))).length ≤ ((bad.map (keysOf l)).headD []).length := by unfold culKeys; exact List.length_filter_le _ _
  rw [hb, List.map_cons, List.headD_cons, ← List.map_cons, ← hb] at d2
  omega
 ·rw [sortC_len]
  have d1 := distinctC_le (keysOf l b0)
  omega
 ·intro y hy z hz
  have hw : wfz z := by
   rcases hz with hz | rfl
   ·exact hfz z (sortC_mem_iff.1 hz)
   ·exact hxw
  rw [hhv y hy z hw]
  exact hhas y hy z hw
 ·intro z hz
  have hzk := sortC_mem_iff.1 hz
  have hw := hfz z hzk
  rw [Bool.eq_iff_iff, List.all_eq_true, decide_eq_true_eq, sortC_mem_iff, hmem]
  constructor
  ·intro h
   refine ⟨hzk, fun y hy => ?_, fun y hy => ?_⟩
   ·rw [hbad] at hy
    obtain ⟨hya, hyx⟩ := List.mem_filter.1 hy
    have := h y hya
    rw [hhv y hya z hw, hhv y hya x hxw, hyx] at this
    simpa using this
   ·rw [hgood] at hy
    obtain ⟨hya, hyx⟩ := List.mem_filter.1 hy
    have := h y hya
    rw [hhv y hya z hw, hhv y hya x hxw] at this
    simp only [Bool.not_eq_true', decide_eq_false_iff_not] at hyx
    rw [decide_eq_false hyx] at this
    simpa using this
  ·rintro ⟨_, h1, h2⟩ y hya
   rw [hhv y hya z hw, hhv y hya x hxw]
   by_cases g : x ∈ keysOf l y
   ·have := h1 y (by rw [hbad]; exact List.mem_filter.2 ⟨hya, decide_eq_true g⟩)
    rw [decide_eq_true this, decide_eq_true g]; rfl
   ·have := h2 y (by rw [hgood]; exact List.mem_filter.2 ⟨hya, by simpa using g⟩)
    rw [decide_eq_false this, decide_eq_false g]; rfl
 ·intro z hz
  have hzk := sortC_mem_iff.1 hz
  rw [hr0, hhas b0 hb0a z (hfz z hzk), decide_eq_true hzk]
 ·intro z hz
  exact hok z ((hmem z).1 (sortC_mem_iff.1 hz)).1
 ·intro z hz
  exact hok z (sortC_mem_iff.1 hz)
 ·intro z hz
  exact sortC_mem_iff.2 ((hmem z).1 (sortC_mem_iff.1 hz)).1
 ·rw [sortC_mem_iff, hmem]
  refine ⟨hb0x, fun y hy => ?_, fun y hy => ?_⟩
  ·rw [hbad] at hy; exact of_decide_eq_true (List.mem_filter.1 hy).2
  ·rw [hgood] at hy; simpa using (List.mem_filter.1 hy).2
include S in
theorem mtn_end {all : List S58} (ha : okLots all) (ha8 : all.length ≤ 8) (hsp : ∀ y ∈ all, y.f2 ≤ y.f1 + 11) {x : S79} (hx : isC x) (hxw : wfz x) {bad good : List S58} (hbad : bad = all.filter fun y => decide (x ∈ keysOf l y)) (hgood : good = all.filter fun y => !decide (x ∈ keysOf l y)) (I : List Int) (i : Int) (hi : ¬ i < (I.length : Int)) :
  Ev (fun k => acmelaw12_MillToNoneOther.l1 k l all bad good I i x.f0 x.f1 x.f2) true := by
 have h1 := S.len
 have hbl : bad.length ≤ all.length := by rw [hbad]; exact List.length_filter_le _ _
 have hgl : good.length ≤ all.length := by rw [hgood]; exact List.length_filter_le _ _
 have hbo : okLots bad := ⟨by omega, fun y hy => by rw [hbad] at hy; exact ha.2 y (List.mem_filter.1 hy).1⟩
 have hgo : okLots good := ⟨by omega, fun y hy => by rw [hgood] at hy; exact ha.2 y (List.mem_filter.1 hy).1⟩
 refine Ev.succ ?_
 simp only [acmelaw12_MillToNoneOther.l1, if_neg hi, runs_eq (show l.length ≤ 1000000 by omega), lots_eq (show bad.length ≤ 1000000 by omega), lots_eq (show good.length ≤ 1000000 by omega), Option.bind_some, S.cul hbo hgo]
 by_cases g : bad.length = 0
 ·have g2 : (bad.length : Int) = 0 := by omega
  simp only [if_pos g, if_pos g2, if_true, List.length_nil, Int.natCast_zero, acmelaw12_known.f, Option.bind_some]
  exact Ev.pure _
 ·have g2 : ¬ (bad.length : Int) = 0 := by omega
  have g3 : (0 : Int) < (bad.length : Int) := by omega
  have hm : rd_T58 bad 0 ∈ bad := by
   obtain ⟨b0, bt, hb⟩ : ∃ b0 bt, bad = b0 :: bt := List.exists_cons_of_ne_nil (fun e => by rw [e] at g; simp at g)
   rw [hb]; simp [rd_T58]
  simp only [if_neg g, if_neg g2, if_pos g3, S.causes (hbo.2 _ hm), Option.bind_some, if_true]
  refine Ev.of fun k => ?_
  rw [tailF_iff]
  exact ⟨tail_ok S ha hsp hx hxw hbad hgood (by omega), rfl⟩
end
theorem rec_spec (l : List S144) (all : List S58) (x : S79) (ha8 : all.length ≤ 1000000) : ∃ idx : List Nat, recI x (all.map (keysOf l)) all.length = idx.map Int.ofNat ∧ (all.filter fun y => decide (x ∈ keysOf l y)) = idx.map (fun (i : Nat) => rd_T58 all (i : Int)) ∧ idx.Pairwise (· < ·) ∧ ∀ i ∈ idx, i < all.length := by
 refine ⟨(List.range all.length).filter fun i => decide (x ∈ keysOf l (rd_T58 all (i : Int))), ?_, ?_, List.Pairwise.filter _ List.pairwise_lt_range, fun i hi => List.mem_range.1 (List.mem_filter.1 hi).1⟩
 ·unfold recI
  congr 1
  refine List.filter_congr fun i hi => ?_
  have hi := List.mem_range.1 hi
  have e : (all.map (keysOf l)).getD i [] = keysOf l (rd_T58 all (i : Int)) := by simp [rd_T58, hi]
  rw [e]
 ·have e : all = (List.range all.length).map (fun (i : Nat) => rd_T58 all (i : Int)) := by
   refine List.ext_getElem (by simp) fun i h1 h2 => ?_
   simp [rd_T58, h1]
  conv => lhs; rw [e]
  rw [List.filter_map]
  rfl
section
variable {l : List S144} (S : Shop l)
include S in
theorem mtn_l1 {all : List S58} (ha : okLots all) (ha8 : all.length ≤ 8) (hsp : ∀ y ∈ all, y.f2 ≤ y.f1 + 11) {x : S79} (hx : isC x) (hxw : wfz x) {bad good : List S58} (hbad : bad = all.filter fun y => decide (x ∈ keysOf l y)) (hgood : good = all.filter fun y => !decide (x ∈ keysOf l y))
  (idx : List Nat) (hI2 : bad = idx.map (fun (i : Nat) => rd_T58 all (i : Int))) (hI3 : idx.Pairwise (· < ·)) (hI4 : ∀ i ∈ idx, i < all.length) : ∀ (n i : Nat), n = idx.length - i → i ≤ idx.length →
  Ev (fun k => acmelaw12_MillToNoneOther.l1 k l all bad good (idx.map Int.ofNat) (i : Int) x.f0 x.f1 x.f2) true := by
 intro n
 have hbl : bad.length = idx.length := by rw [hI2, List.length_map]
 have hb2 : bad.length ≤ all.length := by rw [hbad]; exact List.length_filter_le _ _
 induction n with
 | zero =>
  intro i hn hi
  exact mtn_end S ha ha8 hsp hx hxw hbad hgood _ _ (by rw [List.length_map]; omega)
 | succ n ih =>
  intro i hn hi
  have hlt : i < idx.length := by omega
  have ih' := ih (i + 1) (by omega) (by omega)
  have q : (i : Int) < ((idx.map Int.ofNat).length : Int) := by rw [List.length_map]; omega
  have q2 : (0 : Int) ≤ (i : Int) := by omega
  have hrd : rd (idx.map Int.ofNat) (i : Int) = (idx[i] : Int) := by simp [rd, hlt]
  have hm := hI4 idx[i] (List.getElem_mem hlt)
  have hbi : rd_T58 bad (i : Int) = rd_T58 all ((idx[i] : Nat) : Int) := by
   rw [hI2]
   have : rd_T58 (idx.map (fun (i : Nat) => rd_T58 all (i : Int))) (i : Int) = (idx.map (fun (i : Nat) => rd_T58 all (i : Int)))[i]'(by simpa using hlt) := by simp [rd_T58, hlt]
   rw [this, List.getElem_map]
  have q3 : (i : Int) < (bad.length : Int) := by omega
  have q4 : ¬ ((idx[i] : Nat) : Int) < 0 := by omega
  have q5 : ¬ ((idx[i] : Nat) : Int) ≥ (all.length : Int) := by omega
  have q6 : (0 : Int) ≤ ((idx[i] : Nat) : Int) := by omega
  have q7 : ((idx[i] : Nat) : Int) < (all.length : Int) := by omega
  have hw1 : wrap64 ((i : Int) + 1) = ((i + 1 : Nat) : Int) := idx1 (by omega)
  refine Ev.succ ?_
  simp only [acmelaw12_MillToNoneOther.l1, if_pos q, if_pos q2, hrd, if_neg q4, if_neg q5, if_pos q6, if_pos q7, if_pos q3, hbi, hw1, beq_self_eq_true, Bool.not_true, Bool.or_self, Bool.false_eq_true, if_false]
  by_cases g : (i : Int) > 0
  ·obtain ⟨j, rfl⟩ : ∃ j, i = j + 1 := ⟨i - 1, by omega⟩
   have hw2 : wrap64 (((j + 1 : Nat) : Int) - 1) = (j : Int) := by rw [wrap64_id (by omega) (by omega)]; omega
   have hrj : rd (idx.map Int.ofNat) (j : Int) = (idx[j] : Int) := by simp [rd, show j < idx.length by omega]
   have hjl : idx[j] < idx[j + 1] := List.pairwise_iff_getElem.1 hI3 j (j + 1) (by omega) hlt (by omega)
   have q8 : (j : Int) < ((idx.map Int.ofNat).length : Int) := by rw [List.length_map]; omega
   have q9 : ¬ ((idx[j + 1] : Nat) : Int) ≤ ((idx[j] : Nat) : Int) := by omega
   simp only [if_pos g, hw2, if_pos (show (0 : Int) ≤ (j : Int) by omega), if_pos q8, hrj, if_neg q9]
   exact ih'
  ·simp only [if_neg g]
   exact ih'
include S in
theorem mtn_l0 {all : List S58} (ha : okLots all) (ha8 : all.length ≤ 8) (hsp : ∀ y ∈ all, y.f2 ≤ y.f1 + 11) {x : S79} (hx : isC x) (hxw : wfz x) : ∀ (n i : Nat), n = all.length - i → i ≤ all.length →
  Ev (fun k => acmelaw12_MillToNoneOther.l0 k l all ((all.take i).filter fun y => decide (x ∈ keysOf l y)) ((all.take i).filter fun y => !decide (x ∈ keysOf l y)) (i : Int) x.f0 x.f1 x.f2) true := by
 intro n
 have h1 := S.len
 induction n with
 | zero =>
  intro i hn hi
  obtain rfl : i = all.length := by omega
  rw [List.take_length]
  have q : ¬ (all.length : Int) < (all.length : Int) := by omega
  obtain ⟨idx, e1, e2, e3, e4⟩ := rec_spec l all x (by omega)
  refine Ev.succ ?_
  simp only [acmelaw12_MillToNoneOther.l0, if_neg q, runs_eq (show l.length ≤ 1000000 by omega), lots_eq (show all.length ≤ 1000000 by omega), Option.bind_some, S.recall ha hx, if_true, e1]
  have hb : (((idx.map Int.ofNat).length : Int) != ((all.filter fun y => decide (x ∈ keysOf l y)).length : Int)) = false := by rw [e2, List.length_map, List.length_map]; simp
  rw [hb]
  refine Ev.succ ?_
  simp only [acmelaw12_MillToNoneOther.j2, Bool.false_eq_true, if_false]
  exact mtn_l1 S ha ha8 hsp hx hxw rfl rfl idx e2 e3 e4 idx.length 0 (by omega) (by omega)
 | succ n ih =>
  intro i hn hi
  have hlt : i < all.length := by omega
  have ih' := ih (i + 1) (by omega) (by omega)
  have q : (i : Int) < (all.length : Int) := by omega
  have q2 : (0 : Int) ≤ (i : Int) := by omega
  have hrd : rd_T58 all (i : Int) = all[i] := by simp [rd_T58, hlt]
  have hm := List.getElem_mem hlt
  have hw1 : wrap64 ((i : Int) + 1) = ((i + 1 : Nat) : Int) := idx1 (by omega)
  have ht : all.take (i + 1) = all.take i ++ [all[i]] := by rw [List.take_add_one, List.getElem?_eq_getElem hlt]; rfl
  rw [ht, List.filter_append, List.filter_append, List.filter_cons, List.filter_cons, List.filter_nil, List.filter_nil] at ih'
  have hyo := ha.2 all[i] hm
  have hys := hsp all[i] hm
  have f1 : ((all.take i).filter fun y => decide (x ∈ keysOf l y)).length < 5864062014805 := by
   have := List.length_filter_le (fun y => decide (x ∈ keysOf l y)) (all.take i)
   rw [List.length_take] at this; omega
  have f2 : ((all.take i).filter fun y => !decide (x ∈ keysOf l y)).length < 5864062014805 := by
   have := List.length_filter_le (fun y => !decide (x ∈ keysOf l y)) (all.take i)
   rw [List.length_take] at this; omega
  generalize all[i] = y at hrd hyo hys ih'
  refine Ev.succ ?_
  simp only [acmelaw12_MillToNoneOther.l0, if_pos q, if_pos q2, hrd]
  refine Ev.bind ⟨200, fun k hk => has_eq S hyo hys hxw hk⟩ ?_
  by_cases g : x ∈ keysOf l y
  ·simp only [decide_eq_true g, if_true, if_pos f1, hw1, Bool.not_true, Bool.false_eq_true, if_false, List.append_nil] at ih' ⊢
   exact ih'
  ·simp only [decide_eq_false g, if_true, if_pos f2, hw1, Bool.not_false, Bool.false_eq_true, if_false, List.append_nil] at ih' ⊢
   exact ih'
end
theorem lotsF_short {l : List S94} (hw : ∀ v ∈ l, wfL v) : ∀ y ∈ lotsF l, y.f2 ≤ y.f1 + 11 := by
 intro y hy
 unfold lotsF at hy
 obtain ⟨v, hv, rfl⟩ := List.mem_map.1 hy
 unfold lotOf
 dsimp only
 omega
theorem pure_MillToNoneOther_ev (l0 : List S162) (l1 : List S94) (a b c : Int) (w0 : ∀ v ∈ l0, wfR v) (w1 : ∀ v ∈ l1, wfL v) (ha : u8s a) (hb : u8s b) (hc : u8s c) : Ev (fun k => acmelaw12_MillToNoneOther.f k l0 l1 a b c) true := by
 simp only [acmelaw12_MillToNoneOther.f]
 refine Ev.bind (runs_ev l1 w0) ?_
 refine Ev.bind (lotsF_ev l0 w1) ?_
 obtain ⟨h1, h2⟩ := lotsF_ok w1
 have hs := lotsF_short w1
 have ea : (1 + Int.tmod a 3) % 256 = 1 + a % 3 := by rw [Int.tmod_eq_emod_of_nonneg ha.1]; omega
 rw [ea, u8_mod hb, u8_mod hb, u8_mod hc]
 have key : ∀ x : S79, isC x → wfz x → Ev (fun k => acmelaw12_MillToNoneOther.j0 k (runsF l0) (lotsF l1) x.f0 x.f1 x.f2) true := by
  intro x hx hxw
  refine Ev.succ ?_
  simp only [acmelaw12_MillToNoneOther.j0]
  have := mtn_l0 (shop_of w0) (all := lotsF l1) ⟨by omega, h2⟩ h1 hs hx hxw (lotsF l1).length 0 (by omega) (by omega)
  simpa using this
 refine Ev.ite (fun g => ?_) (fun g => ?_)
 ·refine key ⟨1 + a % 3, c % 2, b % 30⟩ ⟨Or.inr ⟨g, ?_, ?_⟩, ?_, ?_⟩ ?_
  ·dsimp only; omega
  ·dsimp only; omega
  ·dsimp only; omega
  ·dsimp only; omega
  ·intro h; dsimp only at h; omega
 ·refine key ⟨1 + a % 3, 0, b % 4⟩ ⟨Or.inl ⟨?_, rfl⟩, ?_, ?_⟩ (fun _ => rfl)
  ·dsimp only; omega
  ·dsimp only; omega
  ·dsimp only; omega
theorem pure_MillToNoneOther (l0_0 : List S162) (l0_1 : List S94) (a1_0 : Int) (a1_1 : Int) (a1_2 : Int) (w0_0 : ∀ x ∈ l0_0, wf162 x) (w0_1 : ∀ x ∈ l0_1, wf94 x) (w1_0 : (Lit.int .u8 a1_0).wf = true) (w1_1 : (Lit.int .u8 a1_1).wf = true) (w1_2 : (Lit.int .u8 a1_2).wf = true) : ∃ k, acmelaw12_MillToNoneOther.f k l0_0 l0_1 a1_0 a1_1 a1_2 = some true :=
 (pure_MillToNoneOther_ev l0_0 l0_1 a1_0 a1_1 a1_2 (fun x hx => ⟨u8_of (w0_0 x hx).1, u8_of (w0_0 x hx).2.1, u8_of (w0_0 x hx).2.2.1, u8_of (w0_0 x hx).2.2.2⟩) (fun x hx => ⟨u8_of (w0_1 x hx).1, u8_of (w0_1 x hx).2.1, u8_of (w0_1 x hx).2.2⟩) (u8_of w1_0) (u8_of w1_1) (u8_of w1_2)).ex
end Go.Proofs.Ytiaiecfnpompcaa.T
namespace Go.Proofs.Ytiaiecfnpompcaa.millToNoneOther
open Go.ChangeShapes Go.WideShapes Go.ChangeAt Go.RowKit Go.Proofs.Ytiaiecfnpompcaa.T
open Go.ChangeMaps (open_string shut_string)
set_option linter.unusedVariables false
theorem own : ownKnob Try.prog.godebug = none := by kernel_rfl
theorem laidOut : laidOutB Try.prog = true := by kernel_rfl
set_option maxRecDepth 100000 in
theorem lifted (os : Os) (started : os.Started) (H : Type) (enc : TypeId × Value → H) :
  ReturnsInHanded {} Try.checked os 12 .any (Rows.millToNoneOtherSpec.pre6 enc Try.prog Try.f12 Rows.millToNoneOtherRow.domain false) (Rows.millToNoneOtherSpec.post enc Try.prog Try.f12 false true false false) := by
 refine returnsInHanded_of_change_sized (C := Try.checked) own started (by kernel_rfl) Try.func12
  (ChangeSpec.witness6 (enc := enc) (C := Try.checked) false ⟨#[], #[.agg #[.slice none 0 0, .slice none 0 0], .agg #[.int .u8 0, .int .u8 0, .int .u8 0]], []⟩ 8 (by kernel_rfl) (by kernel_rfl) (by kernel_rfl) (by kernel_rfl)) ?_
 intro W base args ds gs before hval0 hW hcnd hsz0 _
 have hval : ∀ (j : Nat) t v, Try.f12.params[j]? = some t → args[j]? = some v → Value.okWide Try.prog W .any base t v := hval0
 have hW' := hW
 obtain ⟨p, q, hA0, hV, rfl, hfz, hnd⟩ := hW
 have hA : DataW.TrodAll enc Try.prog W 0 (fun _ => true) true Try.f12.params.toList args.toList ds p := hA0
 rw [Try.params12] at hA hval
 obtain ⟨v0, vs0, d0, ds0, p0, q0, hargs, rfl, rfl, h0, r0⟩ := trodAll_cons hA
 obtain ⟨v1, vs1, d1, ds1, p1, q1, rfl, rfl, rfl, h1, r1⟩ := trodAll_cons r0
 obtain ⟨rfl, rfl, rfl⟩ := trodAll_nil r1
 obtain rfl : args = #[v0, v1] := by cases args; simp_all
 obtain ⟨rfl, rfl⟩ := trodVars_none hV
 have k0 := h0
 have lt0 : ∀ x ∈ p0, x.block < W.heap.size := by obtain ⟨m, hm⟩ := k0; exact DataW.trod_lt m _ _ _ hm
 obtain ⟨fuel0, hf0⟩ := h0
 obtain ⟨A0_0, c0_0, l0_0, A0_1, c0_1, l0_1, e0, ⟨C0_0, d0_0, w0_0⟩, ⟨C0_1, d0_1, w0_1⟩⟩ := open113 hf0
 obtain rfl : v0 = .agg #[.slice A0_0 l0_0.length c0_0, .slice A0_1 l0_1.length c0_1] := agg_of_cells e0 (by simp)
 have k1 := h1
 have lt1 : ∀ x ∈ p1, x.block < W.heap.size := by obtain ⟨m, hm⟩ := k1; exact DataW.trod_lt m _ _ _ hm
 obtain ⟨fuel1, hf1⟩ := h1
 obtain ⟨a1_0, a1_1, a1_2, e1, w1_0, w1_1, w1_2⟩ := open94 hf1
 obtain rfl : v1 = .agg #[.int .u8 a1_0, .int .u8 a1_1, .int .u8 a1_2] := agg_of_cells e1 (by simp)
 clear hA0 hval0 hsz0
 obtain ⟨k, hk⟩ := pure_MillToNoneOther l0_0 l0_1 a1_0 a1_1 a1_2 w0_0 w0_1 w1_0 w1_1 w1_2
 refine (acmelaw12_MillToNoneOther.calls k A0_0 c0_0 l0_0 A0_1 c0_1 l0_1 a1_0 a1_1 a1_2 true W C0_0 d0_0 C0_1 d0_1 hk).mono fun e W' ⟨he, bel⟩ => ?_
 subst he
 exact ⟨_, rfl, _, _, _, [], _, [], hW', trodAll_mk1 (shut_bool Try.underlying4 _), (trodAll_cons_mk (Below.trod laidOut (by kernel_rfl) (of_decide_eq_true (by kernel_rfl)) k0 bel lt0) (trodAll_cons_mk (Below.trod laidOut (by kernel_rfl) (of_decide_eq_true (by kernel_rfl)) k1 bel lt1) trodAll_mk0)), rfl, bel.frame _, fun h => by cases h⟩
theorem over : Rows.millToNoneOtherRow.holds Try.pinned (OpenSpec.ofChange Rows.millToNoneOtherSpec) :=
 OpenClaim.holds_of_wide 12 Try.f12 rfl rfl rfl rfl rfl rfl rfl ⟨rfl, rfl, rfl, rfl, rfl⟩ rfl rfl rfl rfl rfl (by kernel_rfl) Try.func12 (by kernel_rfl)
  (of_decide_eq_true (by kernel_rfl)) (by unfold Func.isWrapper; first | (rw [if_pos (by decide +kernel)]; kernel_rfl) | (rw [if_neg (by decide +kernel)]; exact ⟨rfl, rfl⟩))
  (fun os started H enc _ => lifted os started H enc)
theorem proved : Rows.MillToNoneOtherSaid := over
end Go.Proofs.Ytiaiecfnpompcaa.millToNoneOther
namespace Go.Proofs.Ytiaiecfnpompcaa
theorem millToNoneOther_holds : Rows.MillToNoneOtherSaid := millToNoneOther.proved
end Go.Proofs.Ytiaiecfnpompcaa
