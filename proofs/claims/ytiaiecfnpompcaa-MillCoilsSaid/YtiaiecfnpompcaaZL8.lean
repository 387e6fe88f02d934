-- cut down, squeezed and laid together by pack.py (a program of this repository) out of this seat's texts
import Derived.ChangeKeysEq
import Derived.Laws.StructEq
import Derived.WalkKit
import Derived.Deep.LoopGhost
import Derived.Deep.QuietTactic
import Derived.BigQuiet
import Derived.Deep.Draws
import Derived.Shelf.Abstract
import Derived.Test.YtiaiecfnpompcaaProg
import Derived.Test.YtiaiecfnpompcaaZL5
import Derived.Test.YtiaiecfnpompcaaZL6
import Derived.Test.YtiaiecfnpompcaaZL2
import Derived.Test.YtiaiecfnpompcaaZL7
import Derived.Test.YtiaiecfnpompcaaZL3
import Derived.Test.YtiaiecfnpompcaaZL4
import Derived.Test.YtiaiecfnpompcaaZL1
namespace Go.Proofs.Ytiaiecfnpompcaa.T
open Go.RowKit Go.Proofs.YtiaiecfnpompcaaW.PrintWords Go.Proofs.YtiaiecfnpompcaaW.PrintLast
set_option linter.unusedVariables false
structure SC (w0 W : World) (vL vW vB : Value) (left now best : List Int) : Prop where
  below : Below w0.heap.size w0 W
  L : Kd.R (Kd.int .i64) 3 W w0.heap.size (fun k => some k ≠ vW.ownBlock ∧ some k ≠ vB.ownBlock) vL left
  N : Kd.R (Kd.int .i64) 3 W w0.heap.size (fun k => some k ≠ vL.ownBlock ∧ some k ≠ vB.ownBlock) vW now
  B : Kd.R (Kd.int .i64) 3 W w0.heap.size (fun k => some k ≠ vL.ownBlock ∧ some k ≠ vW.ownBlock) vB best
section
variable {w0 W W' : World} {vL vW vB : Value} {left now best : List Int} {gs : Nat} {cs : Array Value}
theorem SC.step (h : SC w0 W vL vW vB left now best) (hb : Below W.heap.size W W') : SC w0 W' vL vW vB left now best :=
  ⟨below_step h.below hb, Kd.R_below h.L hb, Kd.R_below h.N hb, Kd.R_below h.B hb⟩
theorem SC.set (h : SC w0 W vL vW vB left now best) (hblk : W.heap[gs]? = some (.cells cs 141 (0, 0))) (hge : w0.heap.size ≤ gs) (j : Nat) (u : Value) : SC w0 (W.setCell ⟨gs, j, none⟩ u) vL vW vB left now best :=
  ⟨below_set h.below hge, Kd.R_set h.L hblk (by simp [Kd.int, Kd.scalar]) j u, Kd.R_set h.N hblk (by simp [Kd.int, Kd.scalar]) j u, Kd.R_set h.B hblk (by simp [Kd.int, Kd.scalar]) j u⟩
theorem SC.put {gl cl : Nat} (h : SC w0 W (.slice (some ⟨gl, 0, none⟩) left.length cl) vW vB left now best) (i : Int) (x : Int) :
    SC w0 (W.setCell ⟨gl, i.toNat, none⟩ (.int .i64 x)) (.slice (some ⟨gl, 0, none⟩) left.length cl) vW vB (left.set i.toNat x) now best :=
  ⟨below_set h.below (Kd.R_base h.L gl rfl), (Kd.R_put h.L i x).1,
   Kd.R_far (p := ⟨gl, i.toNat, none⟩) h.N (fun k hk he => hk.1 (by rw [he]; rfl)) _, Kd.R_far (p := ⟨gl, i.toNat, none⟩) h.B (fun k hk he => hk.1 (by rw [he]; rfl)) _⟩
theorem SC.put_blk {gl cl : Nat} (h : SC w0 W (.slice (some ⟨gl, 0, none⟩) left.length cl) vW vB left now best) (hblk : W.heap[gs]? = some (.cells cs 141 (0, 0))) (j : Nat) (u : Value) :
    (W.setCell ⟨gl, j, none⟩ u).heap[gs]? = some (.cells cs 141 (0, 0)) :=
  blk_far hblk (fun he => Kd.R_ne h.L hblk (by decide) (by show some gs = some gl; rw [he])) u
theorem SC.app {v1 : Value} {c : Int} (h : SC w0 W vL vW vB left now best) (hN : Kd.R (Kd.int .i64) 3 W' w0.heap.size (fun k => some k ≠ vL.ownBlock ∧ some k ≠ vB.ownBlock) v1 (now ++ [c])) (hb : Below w0.heap.size w0 W')
    (hg : W.grownBy W' vW.ownBlock) (hat : v1.ownBlock = vW.ownBlock ∨ ∃ b, v1.ownBlock = some b ∧ W.heap.size ≤ b) : SC w0 W' vL v1 vB left (now ++ [c]) best :=
  ⟨hb, Kd.R_mono (Kd.R_after (ok := fun k => some k ≠ vB.ownBlock) (Kd.R_mono h.L (fun _ hk => ⟨hk.2, hk.1⟩)) hg hat) (fun _ hk => ⟨hk.2, hk.1⟩), hN,
   Kd.R_after (ok := fun k => some k ≠ vL.ownBlock) h.B hg hat⟩
theorem SC.take {A : Option Addr} {n c m : Nat} (h : SC w0 W vL (.slice A n c) vB left now best) (hm : m ≤ now.length) : SC w0 W vL (.slice A m c) vB left (now.take m) best := by
  have e : (Value.slice A m c).ownBlock = (Value.slice A n c).ownBlock := by cases A <;> rfl
  exact ⟨h.below, by rw [e]; exact h.L, Kd.R_take h.N hm, by rw [e]; exact h.B⟩
theorem SC.clone {v : Value} (h : SC w0 W vL vW vB left now best) (hv : Kd.R (Kd.int .i64) 3 W' W.heap.size (fun _ => True) v now) (hb : Below W.heap.size W W') : SC w0 W' vL vW v left now now :=
  ⟨below_step h.below hb, Kd.R_mono (Kd.R_elder' h.L (Kd.R_base hv) hb) (fun _ hk => ⟨hk.1.1, hk.2⟩), Kd.R_mono (Kd.R_elder' h.N (Kd.R_base hv) hb) (fun _ hk => ⟨hk.1.1, hk.2⟩),
   Kd.R_mono (Kd.R_lower (Kd.R_new' (Kd.R_new' hv (Kd.R_lt h.L)) (Kd.R_lt h.N)) (below_size h.below)) (fun _ hk => ⟨hk.1.2, hk.2⟩)⟩
end
def shareF (needs : List Int) : Nat → List Int → List Int → List Int × Int → List Int × Int
  | 0, _, _, st => st
  | d + 1, left, now, st =>
    if ((distinctI now).length : Int) ≥ st.2 then st
    else if now.length = needs.length then (now, ((distinctI now).length : Int))
    else (List.range left.length).foldl (fun st c => if left.getD c 0 < needs.getD now.length 0 then st else shareF needs d (left.set c (left.getD c 0 - needs.getD now.length 0)) (now ++ [(c : Int)]) st) st
def foldS (needs : List Int) (d : Nat) (left now : List Int) (st : List Int × Int) : Nat → List Int × Int
  | 0 => st
  | k + 1 => if left.getD k 0 < needs.getD now.length 0 then foldS needs d left now st k else shareF needs d (left.set k (left.getD k 0 - needs.getD now.length 0)) (now ++ [(k : Int)]) (foldS needs d left now st k)
theorem foldS_eq (needs : List Int) (d : Nat) (left now : List Int) (st : List Int × Int) : ∀ k, (List.range k).foldl (fun st c => if left.getD c 0 < needs.getD now.length 0 then st else shareF needs d (left.set c (left.getD c 0 - needs.getD now.length 0)) (now ++ [(c : Int)]) st) st = foldS needs d left now st k
  | 0 => rfl
  | k + 1 => by
    rw [List.range_succ, List.foldl_append, foldS_eq needs d left now st k]
    rfl
end Go.Proofs.Ytiaiecfnpompcaa.T
namespace Go.Proofs.Ytiaiecfnpompcaa.T
open Go.RowKit Go.Proofs.YtiaiecfnpompcaaW.PrintWords Go.Proofs.YtiaiecfnpompcaaW.PrintLast Go.Proofs.YtiaiecfnpompcaaW.PrintMore
set_option linter.unusedVariables false
set_option linter.unusedSimpArgs false
set_option maxHeartbeats 4000000 in
set_option maxRecDepth 100000 in
theorem share_calls {w0 : World} {gs : Nat} {AN : Option Addr} {cN : Nat} {needs : List Int} (hge : w0.heap.size ≤ gs) (hN : Kd.C (Kd.int .i64) w0 AN needs.length needs) (hcN : needs.length ≤ cN) (hnl : needs.length ≤ 8) (hnb : ∀ x ∈ needs, 1 ≤ x ∧ x ≤ 10000000) :
    ∀ (d : Nat) (W : World) (vL vW vB : Value) (left now best : List Int) (coils : Int), now.length + d = needs.length + 1 → now.length ≤ needs.length → left.length ≤ 8 → (∀ x ∈ left, 0 ≤ x ∧ x ≤ 10000000) → (∀ x ∈ now, (Lit.int .i64 x).wf = true) →
      SC w0 W vL vW vB left now best → W.heap[gs]? = some (.cells #[vL, .slice AN needs.length cN, vW, vB, .int .i64 coils] 141 (0, 0)) →
      Calls Try.prog 65 #[.pointer (some ⟨gs, 0, none⟩)] W fun e W' => e = .returned (.tuple #[]) ∧ ∃ vW' vB', SC w0 W' vL vW' vB' left now (shareF needs d left now (best, coils)).1 ∧
        W'.heap[gs]? = some (.cells #[vL, .slice AN needs.length cN, vW', vB', .int .i64 (shareF needs d left now (best, coils)).2] 141 (0, 0)) := by
  intro d
  induction d with
  | zero => intro W vL vW vB left now best coils h1 h2; omega
  | succ d ih =>
    intro W vL vW vB left now best coils hd hnow hll hlb hnw hsc hblk
    obtain ⟨Aw, cw, rfl⟩ := Kd.R_slice hsc.N
    obtain ⟨AL, cL, rfl⟩ := Kd.R_slice hsc.L
    go_enter Try.func65, Try.ntmps65
    go_wp2
    replace hsc := hsc.step (below_drew (Below.refl _ W))
    replace hblk : W.drew.heap[gs]? = _ := hblk
    refine start_ (n := 10) (S := fun w' => w'.cell? ⟨gs, 2, none⟩ = some (.slice Aw now.length cw) ∧ w'.cell? ⟨gs, 4, none⟩ = some (.int .i64 coils)) (ds := []) #[false, false, false, false, false, false, false, false, false, false] (by kernel_rfl) rfl rfl ⟨(blk_cell hblk 2).trans rfl, (blk_cell hblk 4).trans rfl⟩ (fun hHeld => ?_)
    refine pure_ (i := 0) (N := (some 4)) (v := ?_) (a' := ?_) #[true, false, false, false, false, false, false, false, false, false] rfl rfl (by kernel_rfl) (fun _ _ _ h => h) (Or.inl ⟨by rfl, ?_⟩) ?_ ?_
    rotate_left
    · intro w'
      go_simp
      with_reducible rfl
    rotate_left
    · simp only [Act.put, List.setIfInBounds_toArray, List.set_cons_zero, List.set_cons_succ, i64_w, i32_w]
      rfl
    refine pure_ (i := 1) (N := (some 5)) (v := ?_) (a' := ?_) #[true, true, false, false, false, false, false, false, false, false] rfl rfl (by kernel_rfl) (fun _ _ _ h => h) (Or.inl ⟨by rfl, ?_⟩) ?_ ?_
    rotate_left
    · intro w'
      go_simp
      with_reducible rfl
    rotate_left
    · simp only [Act.put, List.setIfInBounds_toArray, List.set_cons_zero, List.set_cons_succ, i64_w, i32_w]
      rfl
    refine pure_ (i := 2) (N := (some 6)) (v := ?_) (a' := ?_) #[true, true, true, false, false, false, false, false, false, false] rfl rfl (by kernel_rfl) (fun _ _ _ h => h) (Or.inl ⟨by rfl, ?_⟩) ?_ ?_
    rotate_left
    · intro w'
      go_simp
      with_reducible rfl
    rotate_left
    · simp only [Act.put, List.setIfInBounds_toArray, List.set_cons_zero, List.set_cons_succ, i64_w, i32_w]
      rfl
    refine take_ (i := 3) (N := (some 7)) (v := ?_) (a' := ?_) #[true, true, true, true, false, false, false, false, false, false] rfl rfl (by kernel_rfl) (fun _ _ _ h => h) (Or.inl ⟨by rfl, ?_⟩) hHeld ?_ ?_
    rotate_left
    · rintro w' ⟨h1, h2⟩
      go_simp
      with_reducible rfl
    rotate_left
    · simp only [Act.put, List.setIfInBounds_toArray, List.set_cons_zero, List.set_cons_succ, i64_w, i32_w]
      rfl
    refine pure_ (i := 5) (N := (some 9)) (v := ?_) (a' := ?_) #[true, true, true, true, false, true, false, false, false, false] rfl rfl (by kernel_rfl) (fun _ _ _ h => h) (Or.inl ⟨by rfl, ?_⟩) ?_ ?_
    rotate_left
    · intro w'
      go_simp
      with_reducible rfl
    rotate_left
    · simp only [Act.put, List.setIfInBounds_toArray, List.set_cons_zero, List.set_cons_succ, i64_w, i32_w]
      rfl
    refine pure_ (i := 6) (N := (some 10)) (v := ?_) (a' := ?_) #[true, true, true, true, false, true, true, false, false, false] rfl rfl (by kernel_rfl) (fun _ _ _ h => h) (Or.inl ⟨by rfl, ?_⟩) ?_ ?_
    rotate_left
    · intro w'
      go_simp
      with_reducible rfl
    rotate_left
    · simp only [Act.put, List.setIfInBounds_toArray, List.set_cons_zero, List.set_cons_succ, i64_w, i32_w]
      rfl
    refine pure_ (i := 7) (N := (some 11)) (v := ?_) (a' := ?_) #[true, true, true, true, false, true, true, true, false, false] rfl rfl (by kernel_rfl) (fun _ _ _ h => h) (Or.inl ⟨by rfl, ?_⟩) ?_ ?_
    rotate_left
    · intro w'
      go_simp
      with_reducible rfl
    rotate_left
    · simp only [Act.put, List.setIfInBounds_toArray, List.set_cons_zero, List.set_cons_succ, i64_w, i32_w]
      rfl
    refine take_ (i := 8) (N := (some 12)) (v := ?_) (a' := ?_) #[true, true, true, true, false, true, true, true, true, false] rfl rfl (by kernel_rfl) (fun _ _ _ h => h) (Or.inl ⟨by rfl, ?_⟩) hHeld ?_ ?_
    rotate_left
    · rintro w' ⟨h1, h2⟩
      go_simp
      with_reducible rfl
    rotate_left
    · simp only [Act.put, List.setIfInBounds_toArray, List.set_cons_zero, List.set_cons_succ, i64_w, i32_w]
      rfl
    refine one_ (i := 4) (N := (some 8)) #[true, true, true, true, true, true, true, true, true, false] rfl rfl (by kernel_rfl) (by decide) (fun K hK => ?_)
    refine goes_ Try.func89 (by kernel_rfl) rfl #[.slice Aw now.length cw] (by rfl) rfl rfl (by (try simp only [List.map_toArray, List.map_cons, List.map_nil]); first | done | rfl | (simp only [List.length_drop, List.length_take]; rfl)) ?_
    with_reducible refine (mill_used.calls _ _ now _ (Kd.R_reads' hsc.N).2.2 (Kd.R_reads' hsc.N).2.1 (by omega) hnw).mono ?_
    rintro e w2 ⟨rfl, hb⟩
    refine ⟨_, rfl, ?_⟩
    replace hsc := hsc.step hb
    replace hblk := blk_below hblk hb
    clear hb
    refine hK.out _ _ ⟨(blk_cell hblk 2).trans rfl, (blk_cell hblk 4).trans rfl⟩ (fun hHeld => ?_)
    clear hK K
    refine norm_ (a' := ?_) ?_ ?_
    rotate_left
    · show Act.put _ (some 8) _ = _
      simp only [Act.put, List.setIfInBounds_toArray, List.set_cons_zero, List.set_cons_succ, i64_w, i32_w]
      rfl
    refine pure_ (i := 9) (N := (some 13)) (v := ?_) (a' := ?_) #[true, true, true, true, true, true, true, true, true, true] rfl rfl (by kernel_rfl) (fun _ _ _ h => h) (Or.inl ⟨by rfl, ?_⟩) ?_ ?_
    rotate_left
    · intro w'
      go_simp
      with_reducible rfl
    rotate_left
    · simp only [Act.put, List.setIfInBounds_toArray, List.set_cons_zero, List.set_cons_succ, i64_w, i32_w]
      rfl
    refine done_ (by kernel_rfl) ?_
    clear hHeld
    obtain ⟨hz0, hz1, hz2, hz3, hz4⟩ := bc5 hblk
    obtain ⟨hf0, hf1, hf2, hf3, hf4⟩ := bf5 hblk
    by_cases c1 : ((distinctI now).length : Int) ≥ coils
    · have c1b : decide (coils ≤ ((distinctI now).length : Int)) = true := decide_eq_true c1
      rw [c1b]
      go_wp2
      (try simp only [Exit.inBlock, Exit.then]); refine bodyPost_ret (results_none rfl _ _ _) rfl ?_
      refine ⟨rfl, .slice Aw now.length cw, vB, ?_, ?_⟩
      · rw [shareF, if_pos c1]; exact hsc
      · rw [shareF, if_pos c1]; exact hblk
    have c1b : decide (coils ≤ ((distinctI now).length : Int)) = false := decide_eq_false c1
    replace c1 := Aside0.mk c1
    rw [c1b]
    by_cases c2 : now.length = needs.length
    · have c2b : ((now.length : Int) == (needs.length : Int)) = true := beq_iff_eq.mpr (by omega)
      replace c2 := Aside0.mk c2
      go_wp2
      replace hsc := hsc.step (below_drew (Below.refl _ w2))
      replace hblk : w2.drew.heap[gs]? = _ := hblk
      refine start_ (n := 18) (S := fun w' => w'.cell? ⟨gs, 2, none⟩ = some (.slice Aw now.length cw) ∧ True) (ds := []) #[false, false, false, false, false, false, false, false, false, false, false, false, false, false, false, false, false, false] (by kernel_rfl) rfl rfl ⟨(blk_cell hblk 2).trans rfl, trivial⟩ (fun hHeld => ?_)
      refine pure_ (i := 0) (N := (some 26)) (v := ?_) (a' := ?_) #[true, false, false, false, false, false, false, false, false, false, false, false, false, false, false, false, false, false] rfl rfl (by kernel_rfl) (fun _ _ _ h => h) (Or.inl ⟨by rfl, ?_⟩) ?_ ?_
      rotate_left
      · intro w'
        go_simp
        with_reducible rfl
      rotate_left
      · simp only [Act.put, List.setIfInBounds_toArray, List.set_cons_zero, List.set_cons_succ, i64_w, i32_w]
        rfl
      refine pure_ (i := 1) (N := (some 27)) (v := ?_) (a' := ?_) #[true, true, false, false, false, false, false, false, false, false, false, false, false, false, false, false, false, false] rfl rfl (by kernel_rfl) (fun _ _ _ h => h) (Or.inl ⟨by rfl, ?_⟩) ?_ ?_
      rotate_left
      · intro w'
        go_simp
        with_reducible rfl
      rotate_left
      · simp only [Act.put, List.setIfInBounds_toArray, List.set_cons_zero, List.set_cons_succ, i64_w, i32_w]
        rfl
      refine pure_ (i := 2) (N := (some 28)) (v := ?_) (a' := ?_) #[true, true, true, false, false, false, false, false, false, false, false, false, false, false, false, false, false, false] rfl rfl (by kernel_rfl) (fun _ _ _ h => h) (Or.inl ⟨by rfl, ?_⟩) ?_ ?_
      rotate_left
      · intro w'
        go_simp
        with_reducible rfl
      rotate_left
      · simp only [Act.put, List.setIfInBounds_toArray, List.set_cons_zero, List.set_cons_succ, i64_w, i32_w]
        rfl
      refine pure_ (i := 3) (N := (some 29)) (v := ?_) (a' := ?_) #[true, true, true, true, false, false, false, false, false, false, false, false, false, false, false, false, false, false] rfl rfl (by kernel_rfl) (fun _ _ _ h => h) (Or.inl ⟨by rfl, ?_⟩) ?_ ?_
      rotate_left
      · intro w'
        go_simp
        with_reducible rfl
      rotate_left
      · simp only [Act.put, List.setIfInBounds_toArray, List.set_cons_zero, List.set_cons_succ, i64_w, i32_w]
        rfl
      refine pure_ (i := 4) (N := (some 30)) (v := ?_) (a' := ?_) #[true, true, true, true, true, false, false, false, false, false, false, false, false, false, false, false, false, false] rfl rfl (by kernel_rfl) (fun _ _ _ h => h) (Or.inl ⟨by rfl, ?_⟩) ?_ ?_
      rotate_left
      · intro w'
        go_simp
        with_reducible rfl
      rotate_left
      · simp only [Act.put, List.setIfInBounds_toArray, List.set_cons_zero, List.set_cons_succ, i64_w, i32_w]
        rfl
      refine take_ (i := 5) (N := (some 31)) (v := ?_) (a' := ?_) #[true, true, true, true, true, true, false, false, false, false, false, false, false, false, false, false, false, false] rfl rfl (by kernel_rfl) (fun _ _ _ h => h) (Or.inl ⟨by rfl, ?_⟩) hHeld ?_ ?_
      rotate_left
      · rintro w' ⟨h1, h2⟩
        go_simp
        with_reducible rfl
      rotate_left
      · simp only [Act.put, List.setIfInBounds_toArray, List.set_cons_zero, List.set_cons_succ, i64_w, i32_w]
        rfl
      refine pure_ (i := 7) (N := (some 33)) (v := ?_) (a' := ?_) #[true, true, true, true, true, true, false, true, false, false, false, false, false, false, false, false, false, false] rfl rfl (by kernel_rfl) (fun _ _ _ h => h) (Or.inl ⟨by rfl, ?_⟩) ?_ ?_
      rotate_left
      · intro w'
        go_simp
        with_reducible rfl
      rotate_left
      · simp only [Act.put, List.setIfInBounds_toArray, List.set_cons_zero, List.set_cons_succ, i64_w, i32_w]
        rfl
      refine pure_ (i := 8) (N := (some 34)) (v := ?_) (a' := ?_) #[true, true, true, true, true, true, false, true, true, false, false, false, false, false, false, false, false, false] rfl rfl (by kernel_rfl) (fun _ _ _ h => h) (Or.inl ⟨by rfl, ?_⟩) ?_ ?_
      rotate_left
      · intro w'
        go_simp
        with_reducible rfl
      rotate_left
      · simp only [Act.put, List.setIfInBounds_toArray, List.set_cons_zero, List.set_cons_succ, i64_w, i32_w]
        rfl
      refine pure_ (i := 9) (N := (some 35)) (v := ?_) (a' := ?_) #[true, true, true, true, true, true, false, true, true, true, false, false, false, false, false, false, false, false] rfl rfl (by kernel_rfl) (fun _ _ _ h => h) (Or.inl ⟨by rfl, ?_⟩) ?_ ?_
      rotate_left
      · intro w'
        go_simp
        with_reducible rfl
      rotate_left
      · simp only [Act.put, List.setIfInBounds_toArray, List.set_cons_zero, List.set_cons_succ, i64_w, i32_w]
        rfl
      refine take_ (i := 10) (N := (some 36)) (v := ?_) (a' := ?_) #[true, true, true, true, true, true, false, true, true, true, true, false, false, false, false, false, false, false] rfl rfl (by kernel_rfl) (fun _ _ _ h => h) (Or.inl ⟨by rfl, ?_⟩) hHeld ?_ ?_
      rotate_left
      · rintro w' ⟨h1, h2⟩
        go_simp
        with_reducible rfl
      rotate_left
      · simp only [Act.put, List.setIfInBounds_toArray, List.set_cons_zero, List.set_cons_succ, i64_w, i32_w]
        rfl
      refine one_ (i := 6) (N := (some 32)) #[true, true, true, true, true, true, true, true, true, true, true, false, false, false, false, false, false, false] rfl rfl (by kernel_rfl) (by decide) (fun K hK => ?_)
      refine goes_ Try.func64 (by kernel_rfl) rfl #[.slice Aw now.length cw] (by rfl) rfl rfl (by (try simp only [List.map_toArray, List.map_cons, List.map_nil]); first | done | rfl | (simp only [List.length_drop, List.length_take]; rfl)) ?_
      with_reducible refine (slices_Clone.calls _ _ now _ (Kd.R_reads' hsc.N).2.2 (Kd.R_reads' hsc.N).2.1 (by omega)).mono ?_
      rintro e w3 ⟨vC, rfl, hrc, hb⟩
      obtain ⟨AC, cC, rfl⟩ := Kd.R_slice hrc
      refine ⟨_, rfl, ?_⟩
      have hscC := hsc.clone hrc hb
      replace hblk := blk_below hblk hb
      clear hb hrc
      refine hK.out _ _ ⟨(blk_cell hblk 2).trans rfl, trivial⟩ (fun hHeld => ?_)
      clear hK K
      refine norm_ (a' := ?_) ?_ ?_
      rotate_left
      · show Act.put _ (some 32) _ = _
        simp only [Act.put, List.setIfInBounds_toArray, List.set_cons_zero, List.set_cons_succ, i64_w, i32_w]
        rfl
      refine one_ (i := 11) (N := (some 37)) #[true, true, true, true, true, true, true, true, true, true, true, true, false, false, false, false, false, false] rfl rfl (by kernel_rfl) (by decide) (fun K hK => ?_)
      refine goes_ Try.func89 (by kernel_rfl) rfl #[.slice Aw now.length cw] (by rfl) rfl rfl (by (try simp only [List.map_toArray, List.map_cons, List.map_nil]); first | done | rfl | (simp only [List.length_drop, List.length_take]; rfl)) ?_
      with_reducible refine (mill_used.calls _ _ now _ (Kd.R_reads' hscC.N).2.2 (Kd.R_reads' hscC.N).2.1 (by omega) hnw).mono ?_
      rintro e w4 ⟨rfl, hb⟩
      refine ⟨_, rfl, ?_⟩
      replace hscC := hscC.step hb
      replace hblk := blk_below hblk hb
      clear hb
      refine hK.out _ _ ⟨(blk_cell hblk 2).trans rfl, trivial⟩ (fun hHeld => ?_)
      clear hK K
      refine norm_ (a' := ?_) ?_ ?_
      rotate_left
      · show Act.put _ (some 37) _ = _
        simp only [Act.put, List.setIfInBounds_toArray, List.set_cons_zero, List.set_cons_succ, i64_w, i32_w]
        rfl
      refine pure_ (i := 12) (N := (some 38)) (v := ?_) (a' := ?_) #[true, true, true, true, true, true, true, true, true, true, true, true, true, false, false, false, false, false] rfl rfl (by kernel_rfl) (fun _ _ _ h => h) (Or.inl ⟨by rfl, ?_⟩) ?_ ?_
      rotate_left
      · intro w'
        go_simp
        with_reducible rfl
      rotate_left
      · simp only [Act.put, List.setIfInBounds_toArray, List.set_cons_zero, List.set_cons_succ, i64_w, i32_w]
        rfl
      refine pure_ (i := 13) (N := (some 39)) (v := ?_) (a' := ?_) #[true, true, true, true, true, true, true, true, true, true, true, true, true, true, false, false, false, false] rfl rfl (by kernel_rfl) (fun _ _ _ h => h) (Or.inl ⟨by rfl, ?_⟩) ?_ ?_
      rotate_left
      · intro w'
        go_simp
        with_reducible rfl
      rotate_left
      · simp only [Act.put, List.setIfInBounds_toArray, List.set_cons_zero, List.set_cons_succ, i64_w, i32_w]
        rfl
      refine one_ (i := 14) (N := none) #[true, true, true, true, true, true, true, true, true, true, true, true, true, true, true, false, false, false] rfl rfl (by kernel_rfl) (by decide) (fun K hK => ?_)
      have hz3' : w4.cell? ⟨gs, 3, none⟩ = some vB := (blk_cell hblk 3).trans rfl
      have hf3' := blk_frozen hblk 3
      refine skip_ (w1 := ?_) (by rfl) rfl ?_ ?_
      rotate_left
      · go_simp
        rfl
      have hblk2 : (w4.setCell ⟨gs, 3, none⟩ (.slice AC now.length cC)).heap[gs]? = some (.cells #[.slice AL left.length cL, .slice AN needs.length cN, .slice Aw now.length cw, .slice AC now.length cC, .int .i64 coils] 141 (0, 0)) := bto (bput hblk 3 (.slice AC now.length cC)) rfl
      have hsc2 := hscC.set hblk hge 3 (.slice AC now.length cC)
      refine hK.out _ _ ⟨(blk_cell hblk2 2).trans rfl, trivial⟩ (fun hHeld => ?_)
      clear hK K
      refine pure_ (i := 15) (N := (some 40)) (v := ?_) (a' := ?_) #[true, true, true, true, true, true, true, true, true, true, true, true, true, true, true, true, false, false] rfl rfl (by kernel_rfl) (fun _ _ _ h => h) (Or.inl ⟨by rfl, ?_⟩) ?_ ?_
      rotate_left
      · intro w'
        go_simp
        with_reducible rfl
      rotate_left
      · simp only [Act.put, List.setIfInBounds_toArray, List.set_cons_zero, List.set_cons_succ, i64_w, i32_w]
        rfl
      refine pure_ (i := 16) (N := (some 41)) (v := ?_) (a' := ?_) #[true, true, true, true, true, true, true, true, true, true, true, true, true, true, true, true, true, false] rfl rfl (by kernel_rfl) (fun _ _ _ h => h) (Or.inl ⟨by rfl, ?_⟩) ?_ ?_
      rotate_left
      · intro w'
        go_simp
        with_reducible rfl
      rotate_left
      · simp only [Act.put, List.setIfInBounds_toArray, List.set_cons_zero, List.set_cons_succ, i64_w, i32_w]
        rfl
      refine one_ (i := 17) (N := none) #[true, true, true, true, true, true, true, true, true, true, true, true, true, true, true, true, true, true] rfl rfl (by kernel_rfl) (by decide) (fun K hK => ?_)
      have hz4' : (w4.setCell ⟨gs, 3, none⟩ (.slice AC now.length cC)).cell? ⟨gs, 4, none⟩ = some (.int .i64 coils) := (blk_cell hblk2 4).trans rfl
      have hf4' := blk_frozen hblk2 4
      refine skip_ (w1 := ?_) (by rfl) rfl ?_ ?_
      rotate_left
      · go_simp
        rfl
      have hblk3 : ((w4.setCell ⟨gs, 3, none⟩ (.slice AC now.length cC)).setCell ⟨gs, 4, none⟩ (.int .i64 ((distinctI now).length : Int))).heap[gs]? = some (.cells #[.slice AL left.length cL, .slice AN needs.length cN, .slice Aw now.length cw, .slice AC now.length cC, .int .i64 ((distinctI now).length : Int)] 141 (0, 0)) := bto (bput hblk2 4 _) rfl
      have hsc3 := hsc2.set hblk2 hge 4 (.int .i64 ((distinctI now).length : Int))
      refine hK.out _ _ ⟨(blk_cell hblk3 2).trans rfl, trivial⟩ (fun hHeld => ?_)
      clear hK K
      refine done_ (by kernel_rfl) ?_
      go_wp2
      (try simp only [Exit.inBlock, Exit.then]); refine bodyPost_ret (results_none rfl _ _ _) rfl ?_
      refine ⟨rfl, .slice Aw now.length cw, .slice AC now.length cC, ?_, ?_⟩
      · rw [shareF, if_neg (by have := c1.out; show ¬ _ ≥ coils; omega), if_pos c2.out]; exact hsc3
      · rw [shareF, if_neg (by have := c1.out; show ¬ _ ≥ coils; omega), if_pos c2.out]; exact hblk3
    have c2b : ((now.length : Int) == (needs.length : Int)) = false := beq_eq_false_iff_ne.mpr (by omega)
    replace c2 := Aside0.mk c2
    go_wp2
    go_loopw [47] (fun v47 wr => ∃ (k : Nat) (vW vB : Value), k ≤ left.length ∧ v47 = .int .i64 k ∧ SC w0 wr (.slice AL left.length cL) vW vB left now (foldS needs d left now (best, coils) k).1 ∧ wr.heap[gs]? = some (.cells #[.slice AL left.length cL, .slice AN needs.length cN, vW, vB, .int .i64 (foldS needs d left now (best, coils) k).2] 141 (0, 0)))
      (fun v47 _ => left.length - (intOf v47).toNat)
    case atStart => exact ⟨0, _, _, Nat.zero_le _, rfl, hsc, hblk⟩
    case round =>
      clear hz0 hz1 hz2 hz3 hz4 hf0 hf1 hf2 hf3 hf4 hsc hblk
      obtain ⟨k, vW, vB, hk, rfl, hsc, hblk⟩ := hrel
      by_cases hlt : k < left.length
      rotate_left
      · have p2b : decide ((k : Int) < (left.length : Int)) = false := decide_eq_false (by omega)
        have p2n : decide (k < left.length) = false := decide_eq_false hlt
        replace hlt := Aside0.mk hlt
        go_wp2
        (try simp only [Exit.inBlock, Exit.then]); refine bodyPost_end (results_none rfl _ _ _) rfl ?_
        have hkl : k = left.length := by have := hlt.out; omega
        subst hkl
        refine ⟨rfl, vW, vB, ?_, ?_⟩
        · rw [shareF, if_neg (by have := c1.out; show ¬ _ ≥ coils; omega), if_neg c2.out, foldS_eq]; exact hsc
        · rw [shareF, if_neg (by have := c1.out; show ¬ _ ≥ coils; omega), if_neg c2.out, foldS_eq]; exact hblk
      have p2b : decide ((k : Int) < (left.length : Int)) = true := decide_eq_true (by omega)
      have p2n : decide (k < left.length) = true := decide_eq_true hlt
      obtain ⟨gl, cl, e1, -, -, -⟩ := Kd.R_form hsc.L (by omega)
      injection e1 with e1 _ e2
      subst e1; subst e2
      obtain ⟨Aw, cw, rfl⟩ := Kd.R_slice hsc.N
      obtain ⟨AB, cB, rfl⟩ := Kd.R_slice hsc.B
      have hnl : now.length < needs.length := by have := c2.out; omega
      obtain ⟨adN, e3, hcn⟩ := Kd.at_int hN (now.length : Int) (by omega) (by omega)
      cases e3
      have hcn : w0.cell? (adN.add now.length) = some (.int .i64 (needs.getD now.length 0)) := hcn
      have q2n : decide (now.length < needs.length) = true := decide_eq_true hnl
      generalize hst : foldS needs d left now (best, coils) k = st at hsc hblk
      obtain ⟨best1, coils1⟩ := st
      have hxb : 0 ≤ left.getD k 0 ∧ left.getD k 0 ≤ 10000000 := by
        have e : left.getD k 0 = left[k] := by simp [hlt]
        rw [e]; exact hlb _ (List.getElem_mem hlt)
      have hyb : 1 ≤ needs.getD now.length 0 ∧ needs.getD now.length 0 ≤ 10000000 := by
        have e : needs.getD now.length 0 = needs[now.length] := by simp [hnl]
        rw [e]; exact hnb _ (List.getElem_mem hnl)
      have hcl : wr.cell? ⟨gl, k, none⟩ = some (.int .i64 (left.getD k 0)) := (Kd.R_cell (0 : Int) hsc.L (k : Int) (by omega) (by omega)).1
      have hfin : foldS needs d left now (best, coils) (k + 1) = if left.getD k 0 < needs.getD now.length 0 then (best1, coils1) else shareF needs d (left.set k (left.getD k 0 - needs.getD now.length 0)) (now ++ [(k : Int)]) (best1, coils1) := by rw [foldS, hst]
      have hset : ∀ z : Int, (left.set k z).set k (left.getD k 0) = left := by
        intro z
        apply List.ext_getElem?
        intro j
        by_cases hj : k = j
        · subst hj; simp [hlt]
        · simp [List.getElem?_set, hj]
      have hget : ∀ z : Int, (left.set k z).getD k 0 = z := by intro z; simp [hlt]
      generalize left.getD k 0 = x at hxb hcl hfin hset
      generalize needs.getD now.length 0 = y at hyb hcn hfin
      have p2t := eq_true hlt
      have q2t := eq_true hnl
      replace hlt := Aside0.mk hlt
      replace hnl := Aside0.mk hnl
      replace hfin := Aside0.mk hfin
      replace hset := Aside0.mk hset
      replace hget := Aside0.mk hget
      replace hcn := Aside0.mk hcn
      replace hst := Aside0.mk hst
      go_wp2
      replace hsc := hsc.step (below_drew (Below.refl _ wr))
      replace hblk : wr.drew.heap[gs]? = _ := hblk
      replace hcl : wr.drew.cell? ⟨gl, k, none⟩ = _ := hcl
      skip
      refine start_ (n := 15) (S := fun w' => w'.cell? ⟨gs, 0, none⟩ = some (.slice (some ⟨gl, 0, none⟩) left.length cL) ∧ w'.cell? ⟨gs, 1, none⟩ = some (.slice (some adN) needs.length cN) ∧ w'.cell? ⟨gl, k, none⟩ = some (.int .i64 x) ∧ w'.cell? (adN.add now.length) = some (.int .i64 y)) (ds := []) #[false, false, false, false, false, false, false, false, false, false, false, false, false, false, false] (by kernel_rfl) rfl rfl ⟨(blk_cell hblk 0).trans rfl, (blk_cell hblk 1).trans rfl, hcl, (hsc.below.cell (World.block_lt_of_cell? w0 _ hcn.out)).trans hcn.out⟩ (fun hHeld => ?_)
      refine pure_ (i := 0) (N := (some 50)) (v := ?_) (a' := ?_) #[true, false, false, false, false, false, false, false, false, false, false, false, false, false, false] rfl rfl (by kernel_rfl) (fun _ _ _ h => h) (Or.inl ⟨by rfl, ?_⟩) ?_ ?_
      rotate_left
      · intro w'
        go_simp
        with_reducible rfl
      rotate_left
      · simp only [Act.put, List.setIfInBounds_toArray, List.set_cons_zero, List.set_cons_succ, i64_w, i32_w]
        rfl
      refine pure_ (i := 1) (N := (some 51)) (v := ?_) (a' := ?_) #[true, true, false, false, false, false, false, false, false, false, false, false, false, false, false] rfl rfl (by kernel_rfl) (fun _ _ _ h => h) (Or.inl ⟨by rfl, ?_⟩) ?_ ?_
      rotate_left
      · intro w'
        go_simp
        with_reducible rfl
      rotate_left
      · simp only [Act.put, List.setIfInBounds_toArray, List.set_cons_zero, List.set_cons_succ, i64_w, i32_w]
        rfl
      refine pure_ (i := 2) (N := (some 52)) (v := ?_) (a' := ?_) #[true, true, true, false, false, false, false, false, false, false, false, false, false, false, false] rfl rfl (by kernel_rfl) (fun _ _ _ h => h) (Or.inl ⟨by rfl, ?_⟩) ?_ ?_
      rotate_left
      · intro w'
        go_simp
        with_reducible rfl
      rotate_left
      · simp only [Act.put, List.setIfInBounds_toArray, List.set_cons_zero, List.set_cons_succ, i64_w, i32_w]
        rfl
      refine take_ (i := 3) (N := (some 53)) (v := ?_) (a' := ?_) #[true, true, true, true, false, false, false, false, false, false, false, false, false, false, false] rfl rfl (by kernel_rfl) (fun _ _ _ h => h) (Or.inl ⟨by rfl, ?_⟩) hHeld ?_ ?_
      rotate_left
      · rintro w' ⟨h1, h2, h3, h4⟩
        go_simp
        with_reducible rfl
      rotate_left
      · simp only [Act.put, List.setIfInBounds_toArray, List.set_cons_zero, List.set_cons_succ, i64_w, i32_w]
        rfl
      refine pure_ (i := 4) (N := (some 54)) (v := ?_) (a' := ?_) #[true, true, true, true, true, false, false, false, false, false, false, false, false, false, false] rfl rfl (by kernel_rfl) (fun _ _ _ h => h) (Or.inl ⟨by rfl, ?_⟩) ?_ ?_
      rotate_left
      · intro w'
        go_simp
        with_reducible rfl
      rotate_left
      · simp only [Act.put, List.setIfInBounds_toArray, List.set_cons_zero, List.set_cons_succ, i64_w, i32_w]
        rfl
      refine pure_ (i := 5) (N := (some 55)) (v := ?_) (a' := ?_) #[true, true, true, true, true, true, false, false, false, false, false, false, false, false, false] rfl rfl (by kernel_rfl) (fun _ _ _ h => h) (Or.inl ⟨by rfl, ?_⟩) ?_ ?_
      rotate_left
      · intro w'
        go_simp
        with_reducible rfl
      rotate_left
      · simp only [Act.put, List.setIfInBounds_toArray, List.set_cons_zero, List.set_cons_succ, i64_w, i32_w]
        rfl
      refine take_ (i := 6) (N := (some 56)) (v := ?_) (a' := ?_) #[true, true, true, true, true, true, true, false, false, false, false, false, false, false, false] rfl rfl (by kernel_rfl) (fun _ _ _ h => h) (Or.inl ⟨by rfl, ?_⟩) hHeld ?_ ?_
      rotate_left
      · rintro w' ⟨h1, h2, h3, h4⟩
        go_simp
        with_reducible rfl
      rotate_left
      · simp only [Act.put, List.setIfInBounds_toArray, List.set_cons_zero, List.set_cons_succ, i64_w, i32_w]
        rfl
      refine pure_ (i := 7) (N := (some 57)) (v := ?_) (a' := ?_) #[true, true, true, true, true, true, true, true, false, false, false, false, false, false, false] rfl rfl (by kernel_rfl) (fun _ _ _ h => h) (Or.inl ⟨by rfl, ?_⟩) ?_ ?_
      rotate_left
      · intro w'
        go_simp
        with_reducible rfl
      rotate_left
      · simp only [Act.put, List.setIfInBounds_toArray, List.set_cons_zero, List.set_cons_succ, i64_w, i32_w]
        rfl
      refine pure_ (i := 8) (N := (some 58)) (v := ?_) (a' := ?_) #[true, true, true, true, true, true, true, true, true, false, false, false, false, false, false] rfl rfl (by kernel_rfl) (fun _ _ _ h => h) (Or.inl ⟨by rfl, ?_⟩) ?_ ?_
      rotate_left
      · intro w'
        go_simp
        with_reducible rfl
      rotate_left
      · simp only [Act.put, List.setIfInBounds_toArray, List.set_cons_zero, List.set_cons_succ, i64_w, i32_w]
        rfl
      refine pure_ (i := 9) (N := (some 59)) (v := ?_) (a' := ?_) #[true, true, true, true, true, true, true, true, true, true, false, false, false, false, false] rfl rfl (by kernel_rfl) (fun _ _ _ h => h) (Or.inl ⟨by rfl, ?_⟩) ?_ ?_
      rotate_left
      · intro w'
        go_simp
        with_reducible rfl
      rotate_left
      · simp only [Act.put, List.setIfInBounds_toArray, List.set_cons_zero, List.set_cons_succ, i64_w, i32_w]
        rfl
      refine take_ (i := 10) (N := (some 60)) (v := ?_) (a' := ?_) #[true, true, true, true, true, true, true, true, true, true, true, false, false, false, false] rfl rfl (by kernel_rfl) (fun _ _ _ h => h) (Or.inl ⟨by rfl, ?_⟩) hHeld ?_ ?_
      rotate_left
      · rintro w' ⟨h1, h2, h3, h4⟩
        go_simp
        with_reducible rfl
      rotate_left
      · simp only [Act.put, List.setIfInBounds_toArray, List.set_cons_zero, List.set_cons_succ, i64_w, i32_w]
        rfl
      refine pure_ (i := 11) (N := (some 61)) (v := ?_) (a' := ?_) #[true, true, true, true, true, true, true, true, true, true, true, true, false, false, false] rfl rfl (by kernel_rfl) (fun _ _ _ h => h) (Or.inl ⟨by rfl, ?_⟩) ?_ ?_
      rotate_left
      · intro w'
        go_simp
        with_reducible rfl
      rotate_left
      · simp only [Act.put, List.setIfInBounds_toArray, List.set_cons_zero, List.set_cons_succ, i64_w, i32_w]
        rfl
      refine pure_ (i := 12) (N := (some 62)) (v := ?_) (a' := ?_) #[true, true, true, true, true, true, true, true, true, true, true, true, true, false, false] rfl rfl (by kernel_rfl) (fun _ _ _ h => h) (Or.inl ⟨by rfl, ?_⟩) ?_ ?_
      rotate_left
      · intro w'
        go_simp
        with_reducible rfl
      rotate_left
      · simp only [Act.put, List.setIfInBounds_toArray, List.set_cons_zero, List.set_cons_succ, i64_w, i32_w]
        rfl
      refine take_ (i := 13) (N := (some 63)) (v := ?_) (a' := ?_) #[true, true, true, true, true, true, true, true, true, true, true, true, true, true, false] rfl rfl (by kernel_rfl) (fun _ _ _ h => h) (Or.inl ⟨by rfl, ?_⟩) hHeld ?_ ?_
      rotate_left
      · rintro w' ⟨h1, h2, h3, h4⟩
        go_simp
        with_reducible rfl
      rotate_left
      · simp only [Act.put, List.setIfInBounds_toArray, List.set_cons_zero, List.set_cons_succ, i64_w, i32_w]
        rfl
      refine pure_ (i := 14) (N := (some 64)) (v := ?_) (a' := ?_) #[true, true, true, true, true, true, true, true, true, true, true, true, true, true, true] rfl rfl (by kernel_rfl) (fun _ _ _ h => h) (Or.inl ⟨by rfl, ?_⟩) ?_ ?_
      rotate_left
      · intro w'
        go_simp
        with_reducible rfl
      rotate_left
      · simp only [Act.put, List.setIfInBounds_toArray, List.set_cons_zero, List.set_cons_succ, i64_w, i32_w]
        rfl
      refine done_ (by kernel_rfl) ?_
      clear hHeld
      generalize wr.drew = w3 at hsc hblk hcl ⊢
      by_cases c3 : x < y
      · have c3b : decide (x < y) = true := decide_eq_true c3
        rw [c3b]
        replace c3 := Aside0.mk c3
        go_wp2
        go_roundw
        case rel => exact ⟨k + 1, _, _, by have := hlt.out; omega, by go_num, by rw [hfin.out, if_pos c3.out]; exact hsc, by rw [hfin.out, if_pos c3.out]; exact hblk⟩
        case measure => have := hlt.out; simp [intOf]; omega
      have c3b : decide (x < y) = false := decide_eq_false c3
      rw [c3b]
      replace c3 := Aside0.mk c3
      go_wp2
      have hsc0 := hsc
      have hblk0 := hblk
      replace hsc := hsc.step (below_drew (Below.refl _ w3))
      replace hblk : w3.drew.heap[gs]? = _ := hblk
      replace hcl : w3.drew.cell? ⟨gl, k, none⟩ = _ := hcl
      refine start_ (n := 17) (S := fun w' => w'.cell? ⟨gs, 0, none⟩ = some (.slice (some ⟨gl, 0, none⟩) left.length cL) ∧ w'.cell? ⟨gs, 1, none⟩ = some (.slice (some adN) needs.length cN) ∧ w'.cell? ⟨gl, k, none⟩ = some (.int .i64 x) ∧ w'.cell? (adN.add now.length) = some (.int .i64 y)) (ds := [16]) #[false, false, false, false, false, false, false, false, false, false, false, false, false, false, false, false, false] (by kernel_rfl) rfl rfl ⟨(blk_cell hblk 0).trans rfl, (blk_cell hblk 1).trans rfl, hcl, (hsc.below.cell (World.block_lt_of_cell? w0 _ hcn.out)).trans hcn.out⟩ (fun hHeld => ?_)
      refine pure_ (i := 0) (N := (some 65)) (v := ?_) (a' := ?_) #[true, false, false, false, false, false, false, false, false, false, false, false, false, false, false, false, false] rfl rfl (by kernel_rfl) (fun _ _ _ h => h) (Or.inl ⟨by rfl, ?_⟩) ?_ ?_
      rotate_left
      · intro w'
        go_simp
        with_reducible rfl
      rotate_left
      · simp only [Act.put, List.setIfInBounds_toArray, List.set_cons_zero, List.set_cons_succ, i64_w, i32_w]
        rfl
      refine pure_ (i := 1) (N := (some 66)) (v := ?_) (a' := ?_) #[true, true, false, false, false, false, false, false, false, false, false, false, false, false, false, false, false] rfl rfl (by kernel_rfl) (fun _ _ _ h => h) (Or.inl ⟨by rfl, ?_⟩) ?_ ?_
      rotate_left
      · intro w'
        go_simp
        with_reducible rfl
      rotate_left
      · simp only [Act.put, List.setIfInBounds_toArray, List.set_cons_zero, List.set_cons_succ, i64_w, i32_w]
        rfl
      refine pure_ (i := 2) (N := (some 67)) (v := ?_) (a' := ?_) #[true, true, true, false, false, false, false, false, false, false, false, false, false, false, false, false, false] rfl rfl (by kernel_rfl) (fun _ _ _ h => h) (Or.inl ⟨by rfl, ?_⟩) ?_ ?_
      rotate_left
      · intro w'
        go_simp
        with_reducible rfl
      rotate_left
      · simp only [Act.put, List.setIfInBounds_toArray, List.set_cons_zero, List.set_cons_succ, i64_w, i32_w]
        rfl
      refine take_ (i := 3) (N := (some 68)) (v := ?_) (a' := ?_) #[true, true, true, true, false, false, false, false, false, false, false, false, false, false, false, false, false] rfl rfl (by kernel_rfl) (fun _ _ _ h => h) (Or.inl ⟨by rfl, ?_⟩) hHeld ?_ ?_
      rotate_left
      · rintro w' ⟨h1, h2, h3, h4⟩
        go_simp
        with_reducible rfl
      rotate_left
      · simp only [Act.put, List.setIfInBounds_toArray, List.set_cons_zero, List.set_cons_succ, i64_w, i32_w]
        rfl
      refine pure_ (i := 4) (N := (some 69)) (v := ?_) (a' := ?_) #[true, true, true, true, true, false, false, false, false, false, false, false, false, false, false, false, false] rfl rfl (by kernel_rfl) (fun _ _ _ h => h) (Or.inl ⟨by rfl, ?_⟩) ?_ ?_
      rotate_left
      · intro w'
        go_simp
        with_reducible rfl
      rotate_left
      · simp only [Act.put, List.setIfInBounds_toArray, List.set_cons_zero, List.set_cons_succ, i64_w, i32_w]
        rfl
      refine pure_ (i := 5) (N := (some 70)) (v := ?_) (a' := ?_) #[true, true, true, true, true, true, false, false, false, false, false, false, false, false, false, false, false] rfl rfl (by kernel_rfl) (fun _ _ _ h => h) (Or.inl ⟨by rfl, ?_⟩) ?_ ?_
      rotate_left
      · intro w'
        go_simp
        with_reducible rfl
      rotate_left
      · simp only [Act.put, List.setIfInBounds_toArray, List.set_cons_zero, List.set_cons_succ, i64_w, i32_w]
        rfl
      refine take_ (i := 6) (N := (some 71)) (v := ?_) (a' := ?_) #[true, true, true, true, true, true, true, false, false, false, false, false, false, false, false, false, false] rfl rfl (by kernel_rfl) (fun _ _ _ h => h) (Or.inl ⟨by rfl, ?_⟩) hHeld ?_ ?_
      rotate_left
      · rintro w' ⟨h1, h2, h3, h4⟩
        go_simp
        with_reducible rfl
      rotate_left
      · simp only [Act.put, List.setIfInBounds_toArray, List.set_cons_zero, List.set_cons_succ, i64_w, i32_w]
        rfl
      refine pure_ (i := 7) (N := (some 72)) (v := ?_) (a' := ?_) #[true, true, true, true, true, true, true, true, false, false, false, false, false, false, false, false, false] rfl rfl (by kernel_rfl) (fun _ _ _ h => h) (Or.inl ⟨by rfl, ?_⟩) ?_ ?_
      rotate_left
      · intro w'
        go_simp
        with_reducible rfl
      rotate_left
      · simp only [Act.put, List.setIfInBounds_toArray, List.set_cons_zero, List.set_cons_succ, i64_w, i32_w]
        rfl
      refine pure_ (i := 8) (N := (some 73)) (v := ?_) (a' := ?_) #[true, true, true, true, true, true, true, true, true, false, false, false, false, false, false, false, false] rfl rfl (by kernel_rfl) (fun _ _ _ h => h) (Or.inl ⟨by rfl, ?_⟩) ?_ ?_
      rotate_left
      · intro w'
        go_simp
        with_reducible rfl
      rotate_left
      · simp only [Act.put, List.setIfInBounds_toArray, List.set_cons_zero, List.set_cons_succ, i64_w, i32_w]
        rfl
      refine pure_ (i := 9) (N := (some 74)) (v := ?_) (a' := ?_) #[true, true, true, true, true, true, true, true, true, true, false, false, false, false, false, false, false] rfl rfl (by kernel_rfl) (fun _ _ _ h => h) (Or.inl ⟨by rfl, ?_⟩) ?_ ?_
      rotate_left
      · intro w'
        go_simp
        with_reducible rfl
      rotate_left
      · simp only [Act.put, List.setIfInBounds_toArray, List.set_cons_zero, List.set_cons_succ, i64_w, i32_w]
        rfl
      refine take_ (i := 10) (N := (some 75)) (v := ?_) (a' := ?_) #[true, true, true, true, true, true, true, true, true, true, true, false, false, false, false, false, false] rfl rfl (by kernel_rfl) (fun _ _ _ h => h) (Or.inl ⟨by rfl, ?_⟩) hHeld ?_ ?_
      rotate_left
      · rintro w' ⟨h1, h2, h3, h4⟩
        go_simp
        with_reducible rfl
      rotate_left
      · simp only [Act.put, List.setIfInBounds_toArray, List.set_cons_zero, List.set_cons_succ, i64_w, i32_w]
        rfl
      refine pure_ (i := 11) (N := (some 76)) (v := ?_) (a' := ?_) #[true, true, true, true, true, true, true, true, true, true, true, true, false, false, false, false, false] rfl rfl (by kernel_rfl) (fun _ _ _ h => h) (Or.inl ⟨by rfl, ?_⟩) ?_ ?_
      rotate_left
      · intro w'
        go_simp
        with_reducible rfl
      rotate_left
      · simp only [Act.put, List.setIfInBounds_toArray, List.set_cons_zero, List.set_cons_succ, i64_w, i32_w]
        rfl
      refine pure_ (i := 12) (N := (some 77)) (v := ?_) (a' := ?_) #[true, true, true, true, true, true, true, true, true, true, true, true, true, false, false, false, false] rfl rfl (by kernel_rfl) (fun _ _ _ h => h) (Or.inl ⟨by rfl, ?_⟩) ?_ ?_
      rotate_left
      · intro w'
        go_simp
        with_reducible rfl
      rotate_left
      · simp only [Act.put, List.setIfInBounds_toArray, List.set_cons_zero, List.set_cons_succ, i64_w, i32_w]
        rfl
      refine take_ (i := 13) (N := (some 78)) (v := ?_) (a' := ?_) #[true, true, true, true, true, true, true, true, true, true, true, true, true, true, false, false, false] rfl rfl (by kernel_rfl) (fun _ _ _ h => h) (Or.inl ⟨by rfl, ?_⟩) hHeld ?_ ?_
      rotate_left
      · rintro w' ⟨h1, h2, h3, h4⟩
        go_simp
        with_reducible rfl
      rotate_left
      · simp only [Act.put, List.setIfInBounds_toArray, List.set_cons_zero, List.set_cons_succ, i64_w, i32_w]
        rfl
      refine pure_ (i := 14) (N := (some 79)) (v := ?_) (a' := ?_) #[true, true, true, true, true, true, true, true, true, true, true, true, true, true, true, false, false] rfl rfl (by kernel_rfl) (fun _ _ _ h => h) (Or.inl ⟨by rfl, ?_⟩) ?_ ?_
      rotate_left
      · intro w'
        go_simp
        with_reducible rfl
      rotate_left
      · simp only [Act.put, List.setIfInBounds_toArray, List.set_cons_zero, List.set_cons_succ, i64_w, i32_w]
        rfl
      refine pure_ (i := 15) (N := (some 80)) (v := ?_) (a' := ?_) #[true, true, true, true, true, true, true, true, true, true, true, true, true, true, true, true, false] rfl rfl (by kernel_rfl) (fun _ _ _ h => h) (Or.inl ⟨by rfl, ?_⟩) ?_ ?_
      rotate_left
      · intro w'
        go_simp
        with_reducible rfl
      rotate_left
      · simp only [Act.put, List.setIfInBounds_toArray, List.set_cons_zero, List.set_cons_succ, i64_w, i32_w]
        rfl
      refine last_ (i := 16) (N := none) #[true, true, true, true, true, true, true, true, true, true, true, true, true, true, true, true, true] rfl rfl (by kernel_rfl) (by decide) (fun K hK => ?_)
      have hfl := (Kd.R_cell (0 : Int) hsc.L (k : Int) (by omega) (by have := hlt.out; omega)).2
      rw [Int.toNat_natCast] at hfl
      refine skip_ (w1 := ?_) (by rfl) rfl ?_ ?_
      rotate_left
      · go_simp
        rfl
      refine hK.out _ _ ?_
      clear hK K
      refine done_ (by kernel_rfl) ?_
      have hwr : wrap64 (x - y) = x - y := by unfold wrap64; omega
      have hwr2 : wrap64 x = x := by unfold wrap64; omega
      have hsc4 : SC w0 (w3.setCell ⟨gl, k, none⟩ (.int .i64 (wrap64 (x - y)))).drew (.slice (some ⟨gl, 0, none⟩) left.length cL) (.slice Aw now.length cw) (.slice AB best1.length cB) (left.set k (x - y)) now best1 := by
        have h := (hsc0.put (k : Int) (wrap64 (x - y))).step (below_drew (Below.refl _ _))
        rw [Int.toNat_natCast] at h
        rw [hwr] at h ⊢; exact h
      have hblk4 : (w3.setCell ⟨gl, k, none⟩ (.int .i64 (wrap64 (x - y)))).drew.heap[gs]? = some (.cells #[.slice (some ⟨gl, 0, none⟩) left.length cL, .slice (some adN) needs.length cN, .slice Aw now.length cw, .slice AB best1.length cB, .int .i64 coils1] 141 (0, 0)) := hsc0.put_blk hblk0 k (.int .i64 (wrap64 (x - y)))
      clear hsc hblk hcl hsc0 hblk0
      generalize (w3.setCell ⟨gl, k, none⟩ (.int .i64 (wrap64 (x - y)))).drew = w5 at hsc4 hblk4 ⊢
      obtain ⟨hz0, hz1, hz2, hz3, hz4⟩ := bc5 hblk4
      obtain ⟨hf0, hf1, hf2, hf3, hf4⟩ := bf5 hblk4
      obtain ⟨i0, hi0, hi1, hi2, hi3⟩ := info_parts info3
      have hlen1 : (now ++ [(k : Int)]).length = now.length + 1 := by simp
      replace hlen1 := Aside0.mk hlen1
      go_wp2_with (first
        | ((with_reducible refine gate_builtin (b := .append) (xs := #[.tmp 85, .tmp 87]) rfl ?_); at_builtin; refine Kd.R_append (Kd.int .i64) (w0 := w0) w0.heap.size rfl (.tmp 85) (.tmp 87) 22 3 (.int .i64 0) 8 rfl Try.underlying22 info3 rfl (by decide) (by omega) (.slice Aw now.length cw) now (k : Int) [.int .i64 k] (fun j => some j ≠ (.slice (some ⟨gl, 0, none⟩) left.length cL : Value).ownBlock ∧ some j ≠ (.slice AB best1.length cB : Value).ownBlock) (fun _ => False) rfl (by first | (go_simp; done) | (go_simp; rfl)) ?aP (fun _ hk => hk.elim) ?aF ?aO ?aB ?aS ?aL ?_; (case aP => rfl); (case aF => exact fun j hj => ⟨Kd.fresh' (Kd.R_lt hsc4.L) j hj, Kd.fresh' (Kd.R_lt hsc4.B) j hj⟩); (case aO => exact hsc4.N); (case aB => exact hsc4.below); (case aS => exact below_size hsc4.below); (case aL => have := hnl.out; omega); intro v1 w6 ho hb hg hat; have hsc6 := hsc4.app ho hb hg hat; have hblk6 := blk_grown hblk4 hg (Kd.R_ne hsc4.N hblk4 (by decide)); obtain ⟨A1, cc1, rfl⟩ := Kd.R_slice ho; have hz2' := (blk_cell hblk6 2).trans rfl; have hf2' := blk_frozen hblk6 2; clear ho hb hg hat)
        )
      refine (ih _ _ _ _ (left.set k (x - y)) (now ++ [(k : Int)]) best1 coils1 (by have := hlen1.out; omega) (by have := hlen1.out; have := hnl.out; omega) (by rw [List.length_set]; exact hll) ?qb ?qn (hsc6.set hblk6 hge 2 _) ?qk).mono ?_
      case qb =>
        intro z hz
        rcases List.mem_or_eq_of_mem_set hz with h | h
        · exact hlb z h
        · have := c3.out; omega
      case qn =>
        intro z hz
        rcases List.mem_append.1 hz with h | h
        · exact hnw z h
        · rw [List.mem_singleton] at h
          have := hlt.out
          simp [Lit.wf, IntKind.min, IntKind.max, IntKind.signed, IntKind.bits]
          omega
      case qk => rw [hlen1.out]; exact bto (bput hblk6 2 _) rfl
      rintro e w8 ⟨rfl, vW8, vB8, hsc8, hblk8⟩
      generalize hst8 : shareF needs d (left.set k (x - y)) (now ++ [(k : Int)]) (best1, coils1) = st8 at hsc8 hblk8
      obtain ⟨b8, q8⟩ := st8
      obtain ⟨A8, c8, rfl⟩ := Kd.R_slice hsc8.N
      obtain ⟨AB8, cB8, rfl⟩ := Kd.R_slice hsc8.B
      rw [hlen1.out] at hsc8 hblk8
      replace hst8 := Aside0.mk hst8
      have hcut : ∀ W : World, (Instr.slice 22 (.slice A8 (now.length + 1) c8) none (some (.int .i64 (now.length : Int))) none).run Try.prog W = .ok (.slice A8 now.length c8) W := by
        have h := cut_to (P := Try.prog) 22 3 .i64 Try.underlying22 hi0 A8 (now.length + 1) c8 (now.length : Int) (by omega) (by omega) (Kd.R_reads' hsc8.N).2.1
        rw [Int.toNat_natCast] at h; exact h
      have hsc9 := (hsc8.take (m := now.length) (by simp)).set hblk8 hge 2 (.slice A8 now.length c8)
      rw [show (now ++ [(k : Int)]).take now.length = now by simp] at hsc9
      have hblk9 : (w8.setCell ⟨gs, 2, none⟩ (.slice A8 now.length c8)).heap[gs]? = some (.cells #[.slice (some ⟨gl, 0, none⟩) left.length cL, .slice (some adN) needs.length cN, .slice A8 now.length c8, .slice AB8 b8.length cB8, .int .i64 q8] 141 (0, 0)) := bto (bput hblk8 2 _) rfl
      have hz2' : w8.cell? ⟨gs, 2, none⟩ = some (.slice A8 (now.length + 1) c8) := (blk_cell hblk8 2).trans rfl
      have hf2' := blk_frozen hblk8 2
      dsimp only
      clear hz0 hz1 hz2 hz3 hz4 hf0 hf1 hf2 hf3 hf4 hsc6 hblk6 hsc4 hblk4
      go_wp2
      clear hz2' hf2' hcut hsc8 hblk8
      generalize w8.setCell ⟨gs, 2, none⟩ (.slice A8 now.length c8) = w9 at hsc9 hblk9 ⊢
      have hcl0 : w9.cell? ⟨gl, k, none⟩ = some (.int .i64 (x - y)) := by
        have h := (Kd.R_celln (0 : Int) hsc9.L (k : Int) (by omega) (by have := hlt.out; omega)).1
        rw [Int.toNat_natCast] at h
        refine h.trans ?_
        congr 2
        exact hget.out (x - y)
      have hsc := hsc9.step (below_drew (Below.refl _ w9))
      have hblk : w9.drew.heap[gs]? = _ := hblk9
      have hcl : w9.drew.cell? ⟨gl, k, none⟩ = _ := hcl0
      refine start_ (n := 17) (S := fun w' => w'.cell? ⟨gs, 0, none⟩ = some (.slice (some ⟨gl, 0, none⟩) left.length cL) ∧ w'.cell? ⟨gs, 1, none⟩ = some (.slice (some adN) needs.length cN) ∧ w'.cell? ⟨gl, k, none⟩ = some (.int .i64 (x - y)) ∧ w'.cell? (adN.add now.length) = some (.int .i64 y)) (ds := [16]) #[false, false, false, false, false, false, false, false, false, false, false, false, false, false, false, false, false] (by kernel_rfl) rfl rfl ⟨(blk_cell hblk 0).trans rfl, (blk_cell hblk 1).trans rfl, hcl, (hsc.below.cell (World.block_lt_of_cell? w0 _ hcn.out)).trans hcn.out⟩ (fun hHeld => ?_)
      refine pure_ (i := 0) (N := (some 102)) (v := ?_) (a' := ?_) #[true, false, false, false, false, false, false, false, false, false, false, false, false, false, false, false, false] rfl rfl (by kernel_rfl) (fun _ _ _ h => h) (Or.inl ⟨by rfl, ?_⟩) ?_ ?_
      rotate_left
      · intro w'
        go_simp
        with_reducible rfl
      rotate_left
      · simp only [Act.put, List.setIfInBounds_toArray, List.set_cons_zero, List.set_cons_succ, i64_w, i32_w]
        rfl
      refine pure_ (i := 1) (N := (some 103)) (v := ?_) (a' := ?_) #[true, true, false, false, false, false, false, false, false, false, false, false, false, false, false, false, false] rfl rfl (by kernel_rfl) (fun _ _ _ h => h) (Or.inl ⟨by rfl, ?_⟩) ?_ ?_
      rotate_left
      · intro w'
        go_simp
        with_reducible rfl
      rotate_left
      · simp only [Act.put, List.setIfInBounds_toArray, List.set_cons_zero, List.set_cons_succ, i64_w, i32_w]
        rfl
      refine pure_ (i := 2) (N := (some 104)) (v := ?_) (a' := ?_) #[true, true, true, false, false, false, false, false, false, false, false, false, false, false, false, false, false] rfl rfl (by kernel_rfl) (fun _ _ _ h => h) (Or.inl ⟨by rfl, ?_⟩) ?_ ?_
      rotate_left
      · intro w'
        go_simp
        with_reducible rfl
      rotate_left
      · simp only [Act.put, List.setIfInBounds_toArray, List.set_cons_zero, List.set_cons_succ, i64_w, i32_w]
        rfl
      refine take_ (i := 3) (N := (some 105)) (v := ?_) (a' := ?_) #[true, true, true, true, false, false, false, false, false, false, false, false, false, false, false, false, false] rfl rfl (by kernel_rfl) (fun _ _ _ h => h) (Or.inl ⟨by rfl, ?_⟩) hHeld ?_ ?_
      rotate_left
      · rintro w' ⟨h1, h2, h3, h4⟩
        go_simp
        with_reducible rfl
      rotate_left
      · simp only [Act.put, List.setIfInBounds_toArray, List.set_cons_zero, List.set_cons_succ, i64_w, i32_w]
        rfl
      refine pure_ (i := 4) (N := (some 106)) (v := ?_) (a' := ?_) #[true, true, true, true, true, false, false, false, false, false, false, false, false, false, false, false, false] rfl rfl (by kernel_rfl) (fun _ _ _ h => h) (Or.inl ⟨by rfl, ?_⟩) ?_ ?_
      rotate_left
      · intro w'
        go_simp
        with_reducible rfl
      rotate_left
      · simp only [Act.put, List.setIfInBounds_toArray, List.set_cons_zero, List.set_cons_succ, i64_w, i32_w]
        rfl
      refine pure_ (i := 5) (N := (some 107)) (v := ?_) (a' := ?_) #[true, true, true, true, true, true, false, false, false, false, false, false, false, false, false, false, false] rfl rfl (by kernel_rfl) (fun _ _ _ h => h) (Or.inl ⟨by rfl, ?_⟩) ?_ ?_
      rotate_left
      · intro w'
        go_simp
        with_reducible rfl
      rotate_left
      · simp only [Act.put, List.setIfInBounds_toArray, List.set_cons_zero, List.set_cons_succ, i64_w, i32_w]
        rfl
      refine take_ (i := 6) (N := (some 108)) (v := ?_) (a' := ?_) #[true, true, true, true, true, true, true, false, false, false, false, false, false, false, false, false, false] rfl rfl (by kernel_rfl) (fun _ _ _ h => h) (Or.inl ⟨by rfl, ?_⟩) hHeld ?_ ?_
      rotate_left
      · rintro w' ⟨h1, h2, h3, h4⟩
        go_simp
        with_reducible rfl
      rotate_left
      · simp only [Act.put, List.setIfInBounds_toArray, List.set_cons_zero, List.set_cons_succ, i64_w, i32_w]
        rfl
      refine pure_ (i := 7) (N := (some 109)) (v := ?_) (a' := ?_) #[true, true, true, true, true, true, true, true, false, false, false, false, false, false, false, false, false] rfl rfl (by kernel_rfl) (fun _ _ _ h => h) (Or.inl ⟨by rfl, ?_⟩) ?_ ?_
      rotate_left
      · intro w'
        go_simp
        with_reducible rfl
      rotate_left
      · simp only [Act.put, List.setIfInBounds_toArray, List.set_cons_zero, List.set_cons_succ, i64_w, i32_w]
        rfl
      refine pure_ (i := 8) (N := (some 110)) (v := ?_) (a' := ?_) #[true, true, true, true, true, true, true, true, true, false, false, false, false, false, false, false, false] rfl rfl (by kernel_rfl) (fun _ _ _ h => h) (Or.inl ⟨by rfl, ?_⟩) ?_ ?_
      rotate_left
      · intro w'
        go_simp
        with_reducible rfl
      rotate_left
      · simp only [Act.put, List.setIfInBounds_toArray, List.set_cons_zero, List.set_cons_succ, i64_w, i32_w]
        rfl
      refine pure_ (i := 9) (N := (some 111)) (v := ?_) (a' := ?_) #[true, true, true, true, true, true, true, true, true, true, false, false, false, false, false, false, false] rfl rfl (by kernel_rfl) (fun _ _ _ h => h) (Or.inl ⟨by rfl, ?_⟩) ?_ ?_
      rotate_left
      · intro w'
        go_simp
        with_reducible rfl
      rotate_left
      · simp only [Act.put, List.setIfInBounds_toArray, List.set_cons_zero, List.set_cons_succ, i64_w, i32_w]
        rfl
      refine take_ (i := 10) (N := (some 112)) (v := ?_) (a' := ?_) #[true, true, true, true, true, true, true, true, true, true, true, false, false, false, false, false, false] rfl rfl (by kernel_rfl) (fun _ _ _ h => h) (Or.inl ⟨by rfl, ?_⟩) hHeld ?_ ?_
      rotate_left
      · rintro w' ⟨h1, h2, h3, h4⟩
        go_simp
        with_reducible rfl
      rotate_left
      · simp only [Act.put, List.setIfInBounds_toArray, List.set_cons_zero, List.set_cons_succ, i64_w, i32_w]
        rfl
      refine pure_ (i := 11) (N := (some 113)) (v := ?_) (a' := ?_) #[true, true, true, true, true, true, true, true, true, true, true, true, false, false, false, false, false] rfl rfl (by kernel_rfl) (fun _ _ _ h => h) (Or.inl ⟨by rfl, ?_⟩) ?_ ?_
      rotate_left
      · intro w'
        go_simp
        with_reducible rfl
      rotate_left
      · simp only [Act.put, List.setIfInBounds_toArray, List.set_cons_zero, List.set_cons_succ, i64_w, i32_w]
        rfl
      refine pure_ (i := 12) (N := (some 114)) (v := ?_) (a' := ?_) #[true, true, true, true, true, true, true, true, true, true, true, true, true, false, false, false, false] rfl rfl (by kernel_rfl) (fun _ _ _ h => h) (Or.inl ⟨by rfl, ?_⟩) ?_ ?_
      rotate_left
      · intro w'
        go_simp
        with_reducible rfl
      rotate_left
      · simp only [Act.put, List.setIfInBounds_toArray, List.set_cons_zero, List.set_cons_succ, i64_w, i32_w]
        rfl
      refine take_ (i := 13) (N := (some 115)) (v := ?_) (a' := ?_) #[true, true, true, true, true, true, true, true, true, true, true, true, true, true, false, false, false] rfl rfl (by kernel_rfl) (fun _ _ _ h => h) (Or.inl ⟨by rfl, ?_⟩) hHeld ?_ ?_
      rotate_left
      · rintro w' ⟨h1, h2, h3, h4⟩
        go_simp
        with_reducible rfl
      rotate_left
      · simp only [Act.put, List.setIfInBounds_toArray, List.set_cons_zero, List.set_cons_succ, i64_w, i32_w]
        rfl
      refine pure_ (i := 14) (N := (some 116)) (v := ?_) (a' := ?_) #[true, true, true, true, true, true, true, true, true, true, true, true, true, true, true, false, false] rfl rfl (by kernel_rfl) (fun _ _ _ h => h) (Or.inl ⟨by rfl, ?_⟩) ?_ ?_
      rotate_left
      · intro w'
        go_simp
        with_reducible rfl
      rotate_left
      · simp only [Act.put, List.setIfInBounds_toArray, List.set_cons_zero, List.set_cons_succ, i64_w, i32_w]
        rfl
      refine pure_ (i := 15) (N := (some 117)) (v := ?_) (a' := ?_) #[true, true, true, true, true, true, true, true, true, true, true, true, true, true, true, true, false] rfl rfl (by kernel_rfl) (fun _ _ _ h => h) (Or.inl ⟨by rfl, ?_⟩) ?_ ?_
      rotate_left
      · intro w'
        go_simp
        with_reducible rfl
      rotate_left
      · simp only [Act.put, List.setIfInBounds_toArray, List.set_cons_zero, List.set_cons_succ, i64_w, i32_w]
        rfl
      refine last_ (i := 16) (N := none) #[true, true, true, true, true, true, true, true, true, true, true, true, true, true, true, true, true] rfl rfl (by kernel_rfl) (by decide) (fun K hK => ?_)
      have hfl := (Kd.R_celln (0 : Int) hsc.L (k : Int) (by omega) (by have := hlt.out; omega)).2
      rw [Int.toNat_natCast] at hfl
      refine skip_ (w1 := ?_) (by rfl) rfl ?_ ?_
      rotate_left
      · go_simp
        rfl
      refine hK.out _ _ ?_
      clear hK K
      refine done_ (by kernel_rfl) ?_
      have hscE : SC w0 (w9.setCell ⟨gl, k, none⟩ (.int .i64 x)).drew (.slice (some ⟨gl, 0, none⟩) left.length cL) (.slice A8 now.length c8) (.slice AB8 b8.length cB8) left now b8 := by
        have h0 : SC w0 w9 (.slice (some ⟨gl, 0, none⟩) (left.set k (x - y)).length cL) (.slice A8 now.length c8) (.slice AB8 b8.length cB8) (left.set k (x - y)) now b8 := by rw [List.length_set]; exact hsc9
        have h := (h0.put (k : Int) x).step (below_drew (Below.refl _ _))
        rw [Int.toNat_natCast, hset.out, List.length_set] at h
        exact h
      have hblkE : (w9.setCell ⟨gl, k, none⟩ (.int .i64 x)).drew.heap[gs]? = some (.cells #[.slice (some ⟨gl, 0, none⟩) left.length cL, .slice (some adN) needs.length cN, .slice A8 now.length c8, .slice AB8 b8.length cB8, .int .i64 q8] 141 (0, 0)) := by
        have h0 : SC w0 w9 (.slice (some ⟨gl, 0, none⟩) (left.set k (x - y)).length cL) (.slice A8 now.length c8) (.slice AB8 b8.length cB8) (left.set k (x - y)) now b8 := by rw [List.length_set]; exact hsc9
        exact h0.put_blk hblk9 k (.int .i64 x)
      clear hsc hblk hcl hsc9 hblk9 hcl0
      rw [hwr2]
      generalize (w9.setCell ⟨gl, k, none⟩ (.int .i64 x)).drew = w10 at hscE hblkE ⊢
      go_wp2
      go_roundw
      case rel => exact ⟨k + 1, _, _, by have := hlt.out; omega, by go_num, by rw [hfin.out, if_neg (Int.not_lt.2 c3.out), hst8.out]; exact hscE, by rw [hfin.out, if_neg (Int.not_lt.2 c3.out), hst8.out]; exact hblkE⟩
      case measure => have := hlt.out; simp [intOf]; omega
end Go.Proofs.Ytiaiecfnpompcaa.T
namespace Go.Proofs.Ytiaiecfnpompcaa.T
open Go.RowKit Go.Proofs.YtiaiecfnpompcaaW.PrintWords
set_option linter.unusedVariables false


def outside (lo hi x : Int) : Bool := decide (x < lo) || decide (hi < x)

theorem within_1.calls (b1 b2 : Nat) (lo hi x : Int) (w : World) (h1 : w.cell? ⟨b1, 0, none⟩ = some (.int .i64 lo)) (h2 : w.cell? ⟨b2, 0, none⟩ = some (.int .i64 hi)) :
  Calls Try.prog 82 #[.int .i64 x, .pointer (some ⟨b1, 0, none⟩), .pointer (some ⟨b2, 0, none⟩)] w fun e w' => e = .returned (.bool (outside lo hi x)) ∧ w = w' := by
 by_cases h : x < lo
 ·go_enter Try.func82, Try.ntmps82
  go_wp2
  go_ret
  exact ⟨by simp [outside, h], rfl⟩
 ·go_enter Try.func82, Try.ntmps82
  go_wp2
  go_ret
  exact ⟨by simp [outside]; omega, rfl⟩

def AtAll (P : Program) (g : Nat) (lb : Array Value) (p : Int → Bool) (w : World) : Prop :=
 ∀ (x : Int) (q : Nat), Calls P g (#[.int .i64 x] ++ lb) (w.drewN q) fun e w' => e = .returned (.bool (p x)) ∧ w.drewN q = w'

theorem any_take {p : Int → Bool} {xs : List Int} {i : Int} (h0 : 0 ≤ i) (h1 : i < xs.length) : (xs.take (i.toNat + 1)).any p = ((xs.take i.toNat).any p || p (rd xs i)) := by
 obtain ⟨k, rfl⟩ : ∃ k : Nat, i = k := ⟨i.toNat, by omega⟩
 have hk : k < xs.length := by omega
 have : xs.take (k + 1) = xs.take k ++ [rd xs k] := by
  rw [List.take_succ_eq_append_getElem hk]; congr 2; simp [rd, hk]
 simp only [Int.toNat_natCast]; rw [this, List.any_append]; simp

theorem idx_any (g : Nat) (lb : Array Value) (p : Int → Bool) (eg : ∀ args w, (callFunc g args).run Try.prog w = .ok (.enter g args) w) (A : Option Addr) (c : Nat) (xs : List Int) (w : World)
  (hr : Kd.C (Kd.int .i64) w A xs.length xs) (hb : xs.length ≤ 9223372036854775807) (hp : AtAll Try.prog g lb p w) :
  Calls Try.prog 103 #[.slice A xs.length c, .func (.func g) #[] lb] w fun e w' => (∃ n : Int, e = .returned (.int .i64 n) ∧ (decide (0 ≤ n)) = xs.any p) ∧ Drawn0 w w' := by
 have HP : Hid (AtAll Try.prog g lb p w) := hp
 have HR : Hid (Kd.C (Kd.int .i64) w A xs.length xs) := hr
 clear hp hr
 go_enter Try.func103, Try.ntmps103
 go_wp2
 go_loopg [5, 8] xs.length (fun gg _ s8 wr => ∃ (i : Int) (q : Nat), 0 ≤ i ∧ i ≤ xs.length ∧ xs.length - i.toNat ≤ gg ∧ s8 = .int .i64 i ∧ wr = w.drewN q ∧ Hid ((xs.take i.toNat).any p = false))
 case atStart => exact ⟨0, 0, by omega, by omega, by omega, rfl, rfl, rfl⟩
 case round =>
  obtain ⟨i, q, h0, h1, hg, rfl, rfl, hA⟩ := hrel
  by_cases hlt : i < xs.length
  ·obtain ⟨ad, hAd, hcell⟩ := Kd.at_int HR.out i (by omega) (by omega)
   subst hAd
   have HC := HP.out (rd xs i) 
   clear HP
   cases hq : p (rd xs i) with
   | true =>
    rw [hq] at HC
    have HQ : Hid (p (rd xs i) = true) := hq
    clear hq
    go_wp2_with (go_at_fn g; refine (HC _).mono ?_; rintro e w' ⟨rfl, rfl⟩)
    go_ret
    refine ⟨⟨i, rfl, ?_⟩, ⟨_, rfl⟩⟩
    have := any_take (p := p) h0 (i := i) (xs := xs) hlt
    rw [HQ.out, hA.out] at this
    rw [decide_eq_true h0, eq_comm, List.any_eq_true]
    obtain ⟨y, hy, hp⟩ := List.any_eq_true.1 (by rw [this]; rfl : (xs.take (i.toNat + 1)).any p = true)
    exact ⟨y, List.mem_of_mem_take hy, hp⟩
   | false =>
    rw [hq] at HC
    have HQ : Hid (p (rd xs i) = false) := hq
    clear hq
    go_wp2_with (go_at_fn g; refine (HC _).mono ?_; rintro e w' ⟨rfl, rfl⟩)
    go_roundg (xs.length - (i+1).toNat)
    case measure => omega
    case rel =>
     refine ⟨i + 1, _, by omega, by omega, by omega, rfl, rfl, ?_⟩
     have := any_take (p := p) h0 (i := i) (xs := xs) hlt
     rw [HQ.out, hA.out] at this
     show (xs.take (i + 1).toNat).any p = false
     rw [show (i + 1).toNat = i.toNat + 1 by omega, this]; rfl
  ·clear HP
   go_wp2
   go_ret
   refine ⟨⟨-1, rfl, ?_⟩, ⟨_, rfl⟩⟩
   have := hA.out
   rw [List.take_of_length_le (by omega)] at this
   rw [this]; rfl

theorem contains_any (g : Nat) (lb : Array Value) (p : Int → Bool) (eg : ∀ args w, (callFunc g args).run Try.prog w = .ok (.enter g args) w) (A : Option Addr) (c : Nat) (xs : List Int) (w : World)
  (hr : Kd.C (Kd.int .i64) w A xs.length xs) (hb : xs.length ≤ 9223372036854775807) (hp : AtAll Try.prog g lb p w) :
  Calls Try.prog 81 #[.slice A xs.length c, .func (.func g) #[] lb] w fun e w' => e = .returned (.bool (xs.any p)) ∧ Drawn0 w w' := by
 have HP : Hid (AtAll Try.prog g lb p w) := hp
 have HR : Hid (Kd.C (Kd.int .i64) w A xs.length xs) := hr
 clear hp hr
 go_enter Try.func81, Try.ntmps81
 go_wp2_with (go_at_call 103; refine (idx_any g lb p eg A c xs _ HR.out hb HP.out).mono ?_; rintro e w' ⟨⟨n, rfl, hn⟩, hd⟩; have HN := hid hn; have HD := hid hd; clear hn hd)
 go_ret
 exact ⟨by rw [← HN.out]; rfl, HD.out⟩

def mill_within.f (a0 : Int) (a1 : Int) (l2 : List Int) : Option Bool := some (!(l2.any (outside a0 a1)))
theorem mill_within.calls (a0 a1 : Int) (A2 : Option Addr) (c2 : Nat) (l2 : List Int) (r : Bool) (w : World) (hr2 : Kd.C (Kd.int .i64) w A2 l2.length l2) (hc2 : l2.length ≤ c2) (h : mill_within.f a0 a1 l2 = some r) :
  Calls Try.prog 56 #[.int .i64 a0, .int .i64 a1, .slice A2 l2.length c2] w fun e w' => e = .returned (.bool r) ∧ Below w.heap.size w w' := by
 have hb : l2.length ≤ 9223372036854775807 := hr2.2.1
 obtain rfl : (!(l2.any (outside a0 a1))) = r := Option.some.inj h
 have HR := hid hr2
 clear h hr2 hc2
 go_enter Try.func56, Try.ntmps56
 go_wp2_with fail
 refine (contains_any 82 _ (outside a0 a1) (enters_of Try.func82 (by kernel_rfl) rfl) A2 c2 l2 _ ?rd hb ?at_).mono ?_
 case rd => exact Kd.C_below HR.out (((Below.refl _ _).alloc (Nat.le_refl _) _).alloc (by simp) _)
 case at_ => exact fun x q => within_1.calls _ _ a0 a1 x _ (by simp) (by simp)
 rintro e w' ⟨rfl, hd⟩
 have HD := hid hd; clear hd
 go_wp2_with fail
 go_ret
 exact ⟨rfl, (((Below.refl _ _).alloc (Nat.le_refl _) _).alloc (by simp) _).trans (HD.out.below.mono (by simp; omega))⟩
end Go.Proofs.Ytiaiecfnpompcaa.T
namespace Go.Proofs.Ytiaiecfnpompcaa.T
open Go.RowKit Go.Proofs.YtiaiecfnpompcaaW.PrintWords Go.Proofs.YtiaiecfnpompcaaW.PrintLast Go.Proofs.YtiaiecfnpompcaaW.PrintMore
set_option linter.unusedVariables false
set_option linter.unusedSimpArgs false
def goodI (l : List Int) : Bool := !(l.any (outside 1 10000000))
theorem goodI_spec {l : List Int} (h : goodI l = true) : ∀ x ∈ l, 1 ≤ x ∧ x ≤ 10000000 := by
  intro x hx
  unfold goodI at h
  rw [Bool.not_eq_true', List.any_eq_false] at h
  have := h x hx
  simp [outside] at this
  omega
def mill_Share.f (l0 l1 : List Int) : Option (List Int × Int) :=
  if 8 < l0.length then some ([], 5) else if 8 < l1.length then some ([], 5) else if goodI l0 = false then some ([], 2) else if goodI l1 = false then some ([], 2)
  else if (shareF l1 (l1.length + 1) l0 [] ([], (l0.length : Int) + 1)).2 > (l0.length : Int) then some ([], 7) else some ((shareF l1 (l1.length + 1) l0 [] ([], (l0.length : Int) + 1)).1, 0)
set_option maxHeartbeats 4000000 in
set_option maxRecDepth 100000 in
theorem mill_Share.calls (A0 : Option Addr) (c0 : Nat) (l0 : List Int) (A1 : Option Addr) (c1 : Nat) (l1 : List Int) (r1 : List Int) (r2 : Int) (w : World) (hr0 : Kd.C (Kd.int .i64) w A0 l0.length l0) (hc0 : l0.length ≤ c0) (hr1 : Kd.C (Kd.int .i64) w A1 l1.length l1) (hc1 : l1.length ≤ c1)
    (h : mill_Share.f l0 l1 = some (r1, r2)) :
    Calls Try.prog 28 #[.slice A0 l0.length c0, .slice A1 l1.length c1] w fun e w' => ∃ v : Value, e = .returned (.tuple #[v, .int .i64 r2]) ∧ Kd.R (Kd.int .i64) 3 w' w.heap.size (fun _ => True) v r1 ∧ Below w.heap.size w w' := by
  unfold mill_Share.f at h
  by_cases d1 : 8 < l0.length
  · rw [if_pos d1] at h
    injection h with h
    injection h with h1 h2
    subst h1; subst h2
    have d1b : decide (8 < l0.length) = true := decide_eq_true d1
    have d1c : decide ((8 : Int) < (l0.length : Int)) = true := decide_eq_true (by omega)
    go_enter Try.func28, Try.ntmps28
    go_wp2
    go_ret2
    exact ⟨_, rfl, Kd.R_nil _ _ _ _ _, Below.refl _ _⟩
  rw [if_neg d1] at h
  have d1b : decide (8 < l0.length) = false := decide_eq_false d1
  have d1c : decide ((8 : Int) < (l0.length : Int)) = false := decide_eq_false (by omega)
  by_cases d2 : 8 < l1.length
  · rw [if_pos d2] at h
    injection h with h
    injection h with h1 h2
    subst h1; subst h2
    have d2b : decide (8 < l1.length) = true := decide_eq_true d2
    have d2c : decide ((8 : Int) < (l1.length : Int)) = true := decide_eq_true (by omega)
    go_enter Try.func28, Try.ntmps28
    go_wp2
    go_ret2
    exact ⟨_, rfl, Kd.R_nil _ _ _ _ _, Below.refl _ _⟩
  rw [if_neg d2] at h
  have d2b : decide (8 < l1.length) = false := decide_eq_false d2
  have d2c : decide ((8 : Int) < (l1.length : Int)) = false := decide_eq_false (by omega)
  replace d1 := Aside0.mk d1
  replace d2 := Aside0.mk d2
  by_cases d3 : goodI l0 = false
  · rw [if_pos d3] at h
    injection h with h
    injection h with h1 h2
    subst h1; subst h2
    have k3 : mill_within.f 1 10000000 l0 = some false := by unfold mill_within.f; exact congrArg some d3
    go_enter Try.func28, Try.ntmps28
    go_wp2_with (go_at_call 56; refine (mill_within.calls 1 10000000 A0 c0 l0 false _ hr0 hc0 k3).mono ?_; rintro e w1 ⟨rfl, hb1⟩)
    go_ret2
    exact ⟨_, rfl, Kd.R_nil _ _ _ _ _, hb1⟩
  rw [if_neg d3] at h
  have d3' : goodI l0 = true := by simpa using d3
  have k3 : mill_within.f 1 10000000 l0 = some true := by unfold mill_within.f; exact congrArg some d3'
  by_cases d4 : goodI l1 = false
  · rw [if_pos d4] at h
    injection h with h
    injection h with h1 h2
    subst h1; subst h2
    have k4 : mill_within.f 1 10000000 l1 = some false := by unfold mill_within.f; exact congrArg some d4
    go_enter Try.func28, Try.ntmps28
    go_wp2_with (first | (go_at_call 56; refine (mill_within.calls 1 10000000 A0 c0 l0 true _ hr0 hc0 k3).mono ?_; rintro e w1 ⟨rfl, hb1⟩) | (go_at_call 56; refine (mill_within.calls 1 10000000 A1 c1 l1 false _ (Kd.C_below hr1 hb1) hc1 k4).mono ?_; rintro e w2 ⟨rfl, hb2⟩))
    go_ret2
    exact ⟨_, rfl, Kd.R_nil _ _ _ _ _, below_step hb1 hb2⟩
  rw [if_neg d4] at h
  have d4' : goodI l1 = true := by simpa using d4
  have k4 : mill_within.f 1 10000000 l1 = some true := by unfold mill_within.f; exact congrArg some d4'
  have hw1 : wrap64 ((l0.length : Int) + 1) = (l0.length : Int) + 1 := by have := d1.out; unfold wrap64; omega
  clear d3 d4
  go_enter Try.func28, Try.ntmps28
  go_wp2_with (first
    | (go_at_call 56; refine (mill_within.calls 1 10000000 A0 c0 l0 true _ hr0 hc0 k3).mono ?_; rintro e w1 ⟨rfl, hb1⟩)
    | (go_at_call 56; refine (mill_within.calls 1 10000000 A1 c1 l1 true _ (Kd.C_below hr1 hb1) hc1 k4).mono ?_; rintro e w2 ⟨rfl, hb2⟩)
    | (go_at_call 64; refine (slices_Clone.calls A0 c0 l0 _ (Kd.C_below hr0 (below_step hb1 hb2)) hc0 (by have := d1.out; omega)).mono ?_; rintro e w3 ⟨vL, rfl, hrc, hb3⟩; obtain ⟨AL, cL, rfl⟩ := Kd.R_slice hrc)
    | ((with_reducible refine gate_dst (N := 28) rfl ?_); refine box_event ?hg (N := 28) ?hd (cs := #[.slice AL l0.length cL, .slice A1 l1.length c1, .slice none 0 0, .slice none 0 0, .int .i64 ((l0.length : Int) + 1)]) (t := 141) ?hr ?_; (case hd => rfl); (case hg => rfl); (case hr => first | (go_simp; done) | (go_simp; rfl)); intro gs hg w4 hbox hb4))
  rw [hg] at hbox
  have hge : w.heap.size ≤ w3.heap.size := below_size (below_step (below_step hb1 hb2) hb3)
  have hsc : SC w w4 (.slice AL l0.length cL) (.slice none 0 0) (.slice none 0 0) l0 [] [] :=
    ⟨below_step (below_step (below_step hb1 hb2) hb3) hb4, Kd.R_mono (Kd.R_below (Kd.R_lower hrc (below_size (below_step hb1 hb2))) hb4) (fun _ _ => ⟨by simp [Value.ownBlock], by simp [Value.ownBlock]⟩), Kd.R_nil _ _ _ _ _, Kd.R_nil _ _ _ _ _⟩
  refine (share_calls hge hr1 hc1 (by have := d2.out; omega) (goodI_spec d4') (l1.length + 1) w4 _ _ _ l0 [] [] ((l0.length : Int) + 1) (by simp) (by simp) (by have := d1.out; omega) (fun x hx => by have := goodI_spec d3' x hx; omega) (by simp) hsc hbox).mono ?_
  rintro e w5 ⟨rfl, vW, vB, hsc5, hblk5⟩
  dsimp only
  generalize shareF l1 (l1.length + 1) l0 [] ([], (l0.length : Int) + 1) = st at hsc5 hblk5 h
  obtain ⟨b, q⟩ := st
  obtain ⟨AB, cB, rfl⟩ := Kd.R_slice hsc5.B
  obtain ⟨hz0, hz1, hz2, hz3, hz4⟩ := bc5 hblk5
  clear hbox hb1 hb2 hb3 hb4 hsc hrc
  by_cases c : q > (l0.length : Int)
  · rw [if_pos c] at h
    injection h with h
    injection h with h1 h2
    subst h1; subst h2
    have cb : decide ((l0.length : Int) < q) = true := decide_eq_true c
    replace c := Aside0.mk c
    go_wp2
    go_ret2
    exact ⟨_, rfl, Kd.R_nil _ _ _ _ _, hsc5.below⟩
  · rw [if_neg c] at h
    injection h with h
    injection h with h1 h2
    subst h1; subst h2
    have cb : decide ((l0.length : Int) < q) = false := decide_eq_false c
    replace c := Aside0.mk c
    go_wp2
    go_ret2
    exact ⟨.slice AB b.length cB, rfl, Kd.R_mono hsc5.B (fun _ _ => trivial), hsc5.below⟩
end Go.Proofs.Ytiaiecfnpompcaa.T
