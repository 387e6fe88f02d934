-- cut down, squeezed and laid together by pack.py (a program of this repository) out of this seat's texts
import Derived.WalkKit
import Derived.MapKept
import Derived.RangeFuncNested
import Derived.RangeFuncBound
import Derived.RangeFuncCalls
import Derived.RangeFuncLeaves
import Derived.Shelf.Abstract
import Derived.Shelf.RegionOpen
import Derived.OwnWalkIn
import Derived.TacticsInMore
import Derived.LoopNIn
import Derived.LoopIn
import Derived.ChangeKeysEq
import Derived.KernelRfl
import Derived.Test.YtiaiecfnpompcaaZT16
import Derived.Test.YtiaiecfnpompcaaZT17
import Derived.Test.YtiaiecfnpompcaaZT11
import Derived.Test.YtiaiecfnpompcaaZT2
import Derived.Test.YtiaiecfnpompcaaZT9
import Derived.Test.YtiaiecfnpompcaaZT8
import Derived.Test.YtiaiecfnpompcaaZT10
import Derived.Test.YtiaiecfnpompcaaZT4
import Derived.Test.YtiaiecfnpompcaaZT7
import Derived.Test.YtiaiecfnpompcaaZT3
import Derived.Test.YtiaiecfnpompcaaZT6
import Derived.Test.YtiaiecfnpompcaaZT5
import Derived.Test.YtiaiecfnpompcaaZT1
import Derived.Test.YtiaiecfnpompcaaZT13
import Derived.Test.YtiaiecfnpompcaaZT15
import Derived.Test.YtiaiecfnpompcaaZT14
import Derived.Test.YtiaiecfnpompcaaZT12
namespace Go.Proofs.Ytiaiecfnpompcaa.T
open Go Go.RowKit Go.Shelf Go.Sort Go.Proofs.Ytiaiecfnpompcaa.Ab Go.Proofs.YtiaiecfnpompcaaW.PrintWords
set_option linter.unusedVariables false
set_option linter.unusedSimpArgs false

def dec79 : Nat → List Value → Option (List S79 × List Value)
 | 0, l => some ([], l)
 | n + 1, .int .i64 a :: .int .i64 b :: .int .i64 c :: l => match dec79 n l with
  | some (xs, r) => some (⟨a, b, c⟩ :: xs, r)
  | none => none
 | _, _ => none
theorem dec79_some : ∀ {n : Nat} {l : List Value} {xs : List S79} {r : List Value}, dec79 n l = some (xs, r) → l = xs.flatMap enc79 ++ r ∧ xs.length = n
 | 0, l, xs, r, h => by
  simp only [dec79, Option.some.injEq, Prod.mk.injEq] at h
  obtain ⟨rfl, rfl⟩ := h
  exact ⟨rfl, rfl⟩
 | n + 1, l, xs, r, h => by
  unfold dec79 at h
  split at h
  ·simp at *
  ·rename_i n' a b c l' heq
   obtain rfl := Nat.succ.inj heq
   split at h
   ·rename_i ys r' h2
    simp only [Option.some.injEq, Prod.mk.injEq] at h
    obtain ⟨rfl, rfl⟩ := h
    obtain ⟨h3, h4⟩ := dec79_some h2
    exact ⟨by rw [h3]; rfl, by simp [h4]⟩
   ·simp at h
  ·simp at h
def ins79 (x : S79) : List S79 → List S79
 | [] => [x]
 | y :: l => match lt79 y x with
  | true => y :: ins79 x l
  | false => x :: y :: l
def isort79 : List S79 → List S79
 | [] => []
 | x :: l => ins79 x (isort79 l)
theorem ins79_perm (x : S79) : ∀ l, (ins79 x l).Perm (x :: l)
 | [] => List.Perm.refl _
 | y :: l => by
  unfold ins79
  split
  ·exact ((ins79_perm x l).cons y).trans (List.Perm.swap x y l)
  ·exact List.Perm.refl _
theorem isort79_perm : ∀ l, (isort79 l).Perm l
 | [] => List.Perm.refl _
 | x :: l => (ins79_perm x _).trans ((isort79_perm l).cons x)
theorem lt79_iff (x y : S79) : lt79 x y = true ↔ (x.f0 < y.f0 ∨ x.f0 = y.f0 ∧ (x.f1 < y.f1 ∨ x.f1 = y.f1 ∧ x.f2 < y.f2)) := by simp only [lt79, decide_eq_true_eq]
theorem not_lt79_iff (x y : S79) : (!lt79 x y) = true ↔ ¬ (x.f0 < y.f0 ∨ x.f0 = y.f0 ∧ (x.f1 < y.f1 ∨ x.f1 = y.f1 ∧ x.f2 < y.f2)) := by rw [← lt79_iff]; simp
theorem le79_trans (a b c : S79) (h1 : (!lt79 b a) = true) (h2 : (!lt79 c b) = true) : (!lt79 c a) = true := by
 rw [not_lt79_iff] at *; omega
theorem le79_total (a b : S79) : ((!lt79 b a) || (!lt79 a b)) = true := by
 rw [Bool.or_eq_true, not_lt79_iff, not_lt79_iff]; omega
theorem ins79_sorted (x : S79) : ∀ l, l.Pairwise (fun x y => (!lt79 y x) = true) → (ins79 x l).Pairwise (fun x y => (!lt79 y x) = true)
 | [], _ => by simp [ins79]
 | y :: l, h => by
  unfold ins79
  have h' := List.pairwise_cons.1 h
  split
  ·rename_i q
   refine List.pairwise_cons.2 ⟨fun z hz => ?_, ins79_sorted x l h'.2⟩
   rcases List.mem_cons.1 ((ins79_perm x l).mem_iff.1 hz) with rfl | hz
   ·rw [not_lt79_iff]; rw [lt79_iff] at q; omega
   ·exact h'.1 z hz
  ·rename_i q
   have q' : (!lt79 y x) = true := by rw [q]; rfl
   refine List.pairwise_cons.2 ⟨fun z hz => ?_, h⟩
   rcases List.mem_cons.1 hz with rfl | hz
   ·exact q'
   ·exact le79_trans x y z q' (h'.1 z hz)
theorem isort79_sorted : ∀ l, (isort79 l).Pairwise (fun x y => (!lt79 y x) = true)
 | [] => List.Pairwise.nil
 | x :: l => ins79_sorted x _ (isort79_sorted l)
theorem isort79_eq (l : List S79) : isort79 l = l.mergeSort fun x y => !lt79 y x := by
 refine List.Perm.eq_of_pairwise (le := fun x y => (!lt79 y x) = true) (fun a b _ _ h1 h2 => ?_) (isort79_sorted l) (List.pairwise_mergeSort (fun a b c h1 h2 => le79_trans a b c h1 h2) (fun a b => le79_total a b) _) ((isort79_perm l).trans (List.mergeSort_perm _ _).symm)
 simp only [Bool.not_eq_true'] at h1 h2
 exact total79 a b (by rw [ltOf79]; exact h2) (by rw [ltOf79]; exact h1)

theorem flat_get (xs : List S79) (t : Nat) (h : t < xs.length * 3) : (xs.flatMap enc79)[t]? = some (flatK enc79 3 xs.toArray)[t]! := by
 rw [get_flatK enc79 3 xs.toArray t (by simpa using h)]
 induction xs generalizing t with
 | nil => simp at h
 | cons x xs ih =>
  simp only [List.flatMap_cons]
  by_cases ht : t < 3
  ·rw [List.getElem?_append_left (by simp [enc79]; omega)]
   have h0 : t / 3 = 0 := by omega
   have h1 : t % 3 = t := by omega
   rw [h0, h1]
   simp only [enc79]
   obtain rfl | rfl | rfl : t = 0 ∨ t = 1 ∨ t = 2 := by omega
   all_goals rfl
  ·rw [List.getElem?_append_right (by simp [enc79]; omega)]
   simp only [enc79, List.length_cons, List.length_nil]
   have := ih (t - 3) (by simp at h; omega)
   simp only [enc79] at this
   rw [this]
   have h0 : t / 3 = (t - 3) / 3 + 1 := by omega
   have h1 : t % 3 = (t - 3) % 3 := by omega
   rw [h0, h1]
   have hl : (t - 3) / 3 < xs.length := by simp at h; omega
   congr 2
   simp [hl]
theorem flat_len (xs : List S79) : (xs.flatMap enc79).length = xs.length * 3 := by
 induction xs with
 | nil => rfl
 | cons x xs ih => simp [List.flatMap_cons, ih, enc79]; omega
theorem flat_int (xs : List S79) (t : Nat) (h : t < xs.length * 3) : ∃ n, (flatK enc79 3 xs.toArray)[t]! = .int .i64 n := by
 have h1 := flat_get xs t h
 have : (flatK enc79 3 xs.toArray)[t]! ∈ xs.flatMap enc79 := List.mem_of_getElem? h1
 obtain ⟨x, _, hx⟩ := List.mem_flatMap.1 this
 simp only [enc79, List.mem_cons, List.not_mem_nil, or_false] at hx
 rcases hx with h | h | h <;> exact ⟨_, h⟩

def or92 (ro : Nat) (args : List Value) (st : St) : Ans :=
 match args with
 | [.slice (some ⟨b, 0, none⟩) n 3, .func (.func 93) ⟨[]⟩ ⟨[]⟩] => match Nat.ble ro b, lookB st.mem b, Nat.ble n 1000000 with
  | true, some (.c cs), true => match dec79 n cs with
   | some (xs, r) => some (.tuple ⟨[]⟩, ⟨st.next, put st.mem b (.c ((isort79 xs).flatMap enc79 ++ r))⟩)
   | none => none
  | _, _, _ => none
 | [.slice none 0 0, .func (.func 93) ⟨[]⟩ ⟨[]⟩] => some (.tuple ⟨[]⟩, st)
 | _ => none
def orcSort (f : FuncId) : Option (Nat → List Value → St → Ans) := match Nat.beq f 92 with
 | true => some or92
 | false => none
theorem VR.fn_inv {U : Nat → Prop} {ρ : Nat → Pl} {f : FuncId} {v : Value} (h : VR U ρ (.func (.func f) ⟨[]⟩ ⟨[]⟩) v) : v = .func (.func f) #[] #[] := by
 cases h with
 | fn _ _ _ xs' ys' h1 h2 => cases h1; cases h2; rfl

set_option maxHeartbeats 1000000 in
theorem or92_ok {ro : Nat} {args : List Value} {st : St} {v : Value} {st' : St} (h : or92 ro args st = some (v, st')) {B : Nat} {U : Nat → Prop} {ρ : Nat → Pl} {w : World} {args' : List Value} (hr : HR B ro U ρ st.next st.mem w) (hl : VL U ρ args args') :
  Calls Try.prog 92 ⟨args'⟩ w fun e w' => ∃ v', e = .returned v' ∧ Post B ro U ρ st.next w v st' v' w' := by
 unfold or92 at h
 split at h
 ·rename_i b n
  split at h
  ·rename_i cs hro hb hn
   split at h
   ·rename_i xs r hd
    simp only [Option.some.injEq, Prod.mk.injEq] at h
    obtain ⟨rfl, rfl⟩ := h
    obtain ⟨hcs, hlen⟩ := dec79_some hd
    have hro := Nat.le_of_ble_eq_true hro
    have hn := Nat.le_of_ble_eq_true hn
    obtain ⟨hU, cs', t, hg, hsz, hcells⟩ := hr.blk b _ hb
    cases hl with
    | cons _ v1 _ l1 q1 q2 => cases q2 with
     | cons _ v2 _ l2 q3 q4 =>
      cases q4
      obtain rfl := VR.fn_inv q3
      cases q1 with
      | sl _ _ _ _ c _ hnc hfit =>
       have hcell : ∀ i, i < n * 3 → cs'[(ρ b).off + i]? = some (flatK enc79 3 xs.toArray)[i]! := by
        intro i hi
        have h1 := flat_get xs i (by omega)
        have h2 : cs[i]? = some (flatK enc79 3 xs.toArray)[i]! := by
         rw [hcs, List.getElem?_append_left (by rw [flat_len]; omega)]; exact h1
        obtain ⟨y, hy, hv⟩ := hcells i _ h2
        obtain ⟨m, hm⟩ := flat_int xs i (by omega)
        rw [hm] at hv ⊢
        cases hv
        exact hy
       have hH : HoldsK enc79 3 w (ρ b).g ((ρ b).off + 0) xs.toArray := by
        intro j hj
        have hj : j < n * 3 := by simpa [hlen] using hj
        refine ⟨?_, blk_frozen hg _⟩
        exact (blk_cell hg _).trans (by simpa using hcell j hj)
       have hlt := (Array.getElem?_eq_some_iff.1 hg).1
       have hmain := sort92.row (ρ b).g ((ρ b).off + 0) c xs w hH hlt (by omega)
       rw [hlen] at hmain
       refine hmain.mono ?_
       rintro e w' ⟨rfl, m, os, rfl⟩
       refine ⟨_, rfl, ?_⟩
       rw [← isort79_eq]
       have hil : (isort79 xs).length = n := by rw [(isort79_perm xs).length_eq, hlen]
       generalize isort79 xs = ys at hil
       unfold sortWorldK
       have e1 : (putRowK enc79 3 (Sort.ahead w m) (ρ b).g ((ρ b).off + 0) ys.toArray).heap = w.heap.modify (ρ b).g (onCells (putCells id ((ρ b).off + 0) (flatK enc79 3 ys.toArray))) := rfl
       have hr1 : HR B ro U ρ st.next (put st.mem b (.c (ys.flatMap enc79 ++ r))) (putRowK enc79 3 (Sort.ahead w m) (ρ b).g ((ρ b).off + 0) ys.toArray) := by
        refine hr.putAt hb ⟨hU, putCells id ((ρ b).off + 0) (flatK enc79 3 ys.toArray) cs', t, ?_, ?_, ?_⟩ ?_ ?_
        ·rw [e1, Array.getElem?_modify, if_pos rfl, hg]; rfl
        ·simp [putCells, hsz]
        ·intro i x hx
         have hcl : cs.length = n * 3 + r.length := by rw [hcs, List.length_append, flat_len, hlen]
         by_cases hi : i < n * 3
         ·rw [List.getElem?_append_left (by rw [flat_len]; omega), flat_get ys i (by omega)] at hx
          obtain rfl := Option.some.inj hx
          refine ⟨(flatK enc79 3 ys.toArray)[i]!, ?_, ?_⟩
          ·simp only [putCells, Array.getElem?_mapIdx, hcell i hi, Option.map_some]
           rw [if_pos (by simp; omega)]
           simp
          ·obtain ⟨k, hk⟩ := flat_int ys i (by omega)
           rw [hk]; exact .int _ _
         ·rw [List.getElem?_append_right (by rw [flat_len]; omega), flat_len, hil] at hx
          have : cs[i]? = some x := by
           rw [hcs, List.getElem?_append_right (by rw [flat_len]; omega), flat_len, hlen]; exact hx
          obtain ⟨y, hy, hv⟩ := hcells i x this
          refine ⟨y, ?_, hv⟩
          simp only [putCells, Array.getElem?_mapIdx, hy, Option.map_some]
          rw [if_neg (by simp; omega)]
        ·intro j hj
         rw [e1, Array.getElem?_modify, if_neg (fun q => hj q.symm)]
        ·rw [e1]; simp
       have hb2 : Below (putRowK enc79 3 (Sort.ahead w m) (ρ b).g ((ρ b).off + 0) ys.toArray).heap.size (putRowK enc79 3 (Sort.ahead w m) (ρ b).g ((ρ b).off + 0) ys.toArray) (Sort.grow (putRowK enc79 3 (Sort.ahead w m) (ρ b).g ((ρ b).off + 0) ys.toArray) os) :=
        ⟨rfl, rfl, rfl, by simp [Sort.grow], fun k hk => by simp only [Sort.grow]; rw [Array.getElem?_append_left hk]⟩
       refine ⟨U, ρ, Ext.refl _ _ _, hr1.still hb2, .tup _ _ .nil, Below.trans (b := putRowK enc79 3 (Sort.ahead w m) (ρ b).g ((ρ b).off + 0) ys.toArray) ⟨rfl, rfl, rfl, by rw [e1]; simp, fun k hk => ?_⟩ (hb2.mono (by rw [e1]; simpa using hr.base))⟩
       rw [e1, Array.getElem?_modify, if_neg ?_]
       have := hr.own _ _ hb hro
       omega
   ·simp at h
  ·simp at h
 ·simp only [Option.some.injEq, Prod.mk.injEq] at h
  obtain ⟨rfl, rfl⟩ := h
  cases hl with
  | cons _ v1 _ l1 q1 q2 => cases q2 with
   | cons _ v2 _ l2 q3 q4 =>
    cases q4
    obtain rfl := VR.fn_inv q3
    cases q1
    refine (AnyF.slices_SortFunc_none sort92_lays none 0 _ w).mono ?_
    rintro e w' ⟨rfl, rfl⟩
    exact ⟨_, rfl, U, ρ, Ext.refl _ _ _, hr, .tup _ _ .nil, Below.refl _ _⟩
 ·simp at h
theorem orcSort_ok : OrcOK Try.prog orcSort := by
 intro f g hf ro args st v st' h
 unfold orcSort at hf
 split at hf
 ·rename_i q
  obtain rfl := Nat.eq_of_beq_eq_true q
  obtain rfl := Option.some.inj hf
  exact ⟨⟨_, Try.func92, rfl⟩, fun B U ρ w args' hr hl => or92_ok h hr hl⟩
 ·simp at hf
end Go.Proofs.Ytiaiecfnpompcaa.T
namespace Go.Proofs.Ytiaiecfnpompcaa.T
open Go Go.RowKit Go.Proofs.Ytiaiecfnpompcaa.Ab
set_option linter.unusedVariables false
set_option linter.unusedSimpArgs false
def wr12 (f : FuncId) : Bool := Nat.beq f 65 || Nat.beq f 92 || Nat.beq f 58 || Nat.beq f 105 || Nat.beq f 111
def eqS (s t : St) : Bool := Nat.beq s.next t.next && eqL (fun p q => Nat.beq p.1 q.1 && eqB p.2 q.2) s.mem t.mem
theorem eqS_eq {s t : St} (h : eqS s t = true) : s = t := by
 obtain ⟨n, m⟩ := s
 obtain ⟨n', m'⟩ := t
 simp only [eqS, Bool.and_eq_true] at h
 rw [Nat.eq_of_beq_eq_true h.1, eqL_eq (fun x y q => ?_) h.2]
 simp only [Bool.and_eq_true] at q
 obtain ⟨b, k⟩ := x
 obtain ⟨b', k'⟩ := y
 simp only at q
 rw [Nat.eq_of_beq_eq_true q.1, eqB_eq q.2]
def hit (r0 : Nat) (a0 : List Value) (s0 : St) (r : Value × St) (ro : Nat) (args : List Value) (st : St) : Ans :=
 match Nat.beq ro r0, eqL (eqV 8) args a0, eqS st s0 with
 | true, true, true => some r
 | _, _, _ => none
theorem noNum (f : Nat) (fn : Func) (h : Try.prog.funcs[f]? = some fn) : (fn.name == "runtime.NumGoroutine") = false := by
 have hall : Try.prog.funcs.toList.all (fun fn => !(fn.name == "runtime.NumGoroutine")) = true := by kernel_rfl
 rw [List.all_eq_true] at hall
 have := hall fn (by simpa using Array.mem_of_getElem? h)
 simpa using this
def yes : Option (Value × St) → Bool
 | some (.bool b, _) => b
 | _ => false
theorem yes_some {x : Option (Value × St)} (h : yes x = true) : ∃ st, x = some (.bool true, st) := by
 unfold yes at h
 split at h
 ·exact ⟨_, by rw [h]⟩
 ·simp at h
theorem hit_ok {f : FuncId} {r0 : Nat} {a0 : List Value} {s0 : St} {r : Value × St} (h : aCall Try.prog orcSort wr12 1000 60 r0 (.fn f) a0 s0 = some r) {ro : Nat} {args : List Value} {st : St} {v : Value} {st' : St} (hh : hit r0 a0 s0 r ro args st = some (v, st')) :
  (∃ fn, Try.prog.funcs[f]? = some fn ∧ fn.body.isSome = true) ∧
  ∀ B U ρ w args', HR B ro U ρ st.next st.mem w → VL U ρ args args' → Calls Try.prog f ⟨args'⟩ w fun e w' => ∃ v', e = .returned v' ∧ Post B ro U ρ st.next w v st' v' w' := by
 unfold hit at hh
 split at hh
 ·rename_i h1 h2 h3
  obtain rfl := Nat.eq_of_beq_eq_true h1
  obtain rfl := eqL_eq (eqV_eq 8) h2
  obtain rfl := eqS_eq h3
  obtain rfl := Option.some.inj hh
  obtain ⟨⟨fn, g1, g2, g3⟩, g4⟩ := aCall_ok (wr := wr12) (by kernel_rfl) noNum orcSort_ok 1000 60 ro (.fn f) args st v st' h
  exact ⟨⟨fn, g1, g3⟩, g4⟩
 ·simp at hh
end Go.Proofs.Ytiaiecfnpompcaa.T
namespace Go.Proofs.Ytiaiecfnpompcaa.T
open Go Go.RowKit Go.Proofs.Ytiaiecfnpompcaa.Ab
def m17.o : Nat := 0
def m17.a : List Value := [Value.agg { toList := [Value.slice (some { block := 0, off := 0 }) 5 1, Value.int IntKind.i64 300, Value.int IntKind.i64 500] }, Value.int IntKind.i64 1000, Value.int IntKind.i64 600]
def m17.s : St := { next := 2, mem := [(1, Blk.c [Value.slice (some { block := 0, off := 0 }) 5 1, Value.int IntKind.i64 300, Value.int IntKind.i64 500]), (0, Blk.c [Value.int IntKind.i64 900, Value.int IntKind.i64 800, Value.int IntKind.i64 700, Value.int IntKind.i64 600, Value.int IntKind.i64 500])] }
def m17.r : Value × St := (Value.tuple { toList := [Value.slice (some { block := 399, off := 0 }) 4 2, Value.int IntKind.i64 0] }, { next := 403, mem := [(399, Blk.c [Value.int IntKind.i64 900, Value.bool false, Value.int IntKind.i64 800, Value.bool false, Value.int IntKind.i64 700, Value.bool true, Value.int IntKind.i64 600, Value.bool false]), (1, Blk.c [Value.slice (some { block := 0, off := 0 }) 5 1, Value.int IntKind.i64 300, Value.int IntKind.i64 500]), (0, Blk.c [Value.int IntKind.i64 900, Value.int IntKind.i64 800, Value.int IntKind.i64 700, Value.int IntKind.i64 600, Value.int IntKind.i64 500])] })
set_option maxRecDepth 1000000 in
theorem m17.ok : aCall Try.prog orcSort wr12 1000 60 m17.o (.fn 17) m17.a m17.s = some m17.r := by kernel_rfl
end Go.Proofs.Ytiaiecfnpompcaa.T
namespace Go.Proofs.Ytiaiecfnpompcaa.T
open Go Go.RowKit Go.Proofs.Ytiaiecfnpompcaa.Ab
def m28.o : Nat := 0
def m28.a : List Value := [Value.slice (some { block := 456, off := 0 }) 3 1, Value.slice (some { block := 457, off := 0 }) 4 1]
def m28.s : St := { next := 458, mem := [(457, Blk.c [Value.int IntKind.i64 40, Value.int IntKind.i64 30, Value.int IntKind.i64 50, Value.int IntKind.i64 30]), (456, Blk.c [Value.int IntKind.i64 100, Value.int IntKind.i64 60, Value.int IntKind.i64 50]), (455, Blk.c [Value.int IntKind.i64 (-730), Value.int IntKind.i64 106000]), (426, Blk.c [Value.int IntKind.i64 458, Value.int IntKind.i64 471]), (403, Blk.c [Value.int IntKind.i64 130, Value.int IntKind.i64 60, Value.int IntKind.i64 80, Value.int IntKind.i64 300]), (399, Blk.c [Value.int IntKind.i64 900, Value.bool false, Value.int IntKind.i64 800, Value.bool false, Value.int IntKind.i64 700, Value.bool true, Value.int IntKind.i64 600, Value.bool false]), (1, Blk.c [Value.slice (some { block := 0, off := 0 }) 5 1, Value.int IntKind.i64 300, Value.int IntKind.i64 500]), (0, Blk.c [Value.int IntKind.i64 900, Value.int IntKind.i64 800, Value.int IntKind.i64 700, Value.int IntKind.i64 600, Value.int IntKind.i64 500])] }
def m28.r : Value × St := (Value.tuple { toList := [Value.slice (some { block := 479, off := 0 }) 4 1, Value.int IntKind.i64 0] }, { next := 511, mem := [(479, Blk.c [Value.int IntKind.i64 0, Value.int IntKind.i64 0, Value.int IntKind.i64 1, Value.int IntKind.i64 0]), (457, Blk.c [Value.int IntKind.i64 40, Value.int IntKind.i64 30, Value.int IntKind.i64 50, Value.int IntKind.i64 30]), (456, Blk.c [Value.int IntKind.i64 100, Value.int IntKind.i64 60, Value.int IntKind.i64 50]), (455, Blk.c [Value.int IntKind.i64 (-730), Value.int IntKind.i64 106000]), (426, Blk.c [Value.int IntKind.i64 458, Value.int IntKind.i64 471]), (403, Blk.c [Value.int IntKind.i64 130, Value.int IntKind.i64 60, Value.int IntKind.i64 80, Value.int IntKind.i64 300]), (399, Blk.c [Value.int IntKind.i64 900, Value.bool false, Value.int IntKind.i64 800, Value.bool false, Value.int IntKind.i64 700, Value.bool true, Value.int IntKind.i64 600, Value.bool false]), (1, Blk.c [Value.slice (some { block := 0, off := 0 }) 5 1, Value.int IntKind.i64 300, Value.int IntKind.i64 500]), (0, Blk.c [Value.int IntKind.i64 900, Value.int IntKind.i64 800, Value.int IntKind.i64 700, Value.int IntKind.i64 600, Value.int IntKind.i64 500])] })
set_option maxRecDepth 1000000 in
theorem m28.ok : aCall Try.prog orcSort wr12 1000 60 m28.o (.fn 28) m28.a m28.s = some m28.r := by kernel_rfl
end Go.Proofs.Ytiaiecfnpompcaa.T
namespace Go.Proofs.Ytiaiecfnpompcaa.T
open Go Go.RowKit Go.Proofs.Ytiaiecfnpompcaa.Ab
def m33.o : Nat := 513
def m33.a : List Value := [Value.slice (some { block := 512, off := 0 }) 3 5, Value.agg { toList := [Value.int IntKind.i64 1, Value.int IntKind.i64 9, Value.int IntKind.i64 10] }]
def m33.s : St := { next := 513, mem := [(512, Blk.c [Value.int IntKind.i64 1, Value.int IntKind.i64 0, Value.int IntKind.i64 9, Value.int IntKind.i64 5, Value.int IntKind.i64 2, Value.int IntKind.i64 1, Value.int IntKind.i64 10, Value.int IntKind.i64 19, Value.int IntKind.i64 6, Value.int IntKind.i64 2, Value.int IntKind.i64 2, Value.int IntKind.i64 0, Value.int IntKind.i64 19, Value.int IntKind.i64 6, Value.int IntKind.i64 3]), (511, Blk.c [Value.int IntKind.i64 1, Value.int IntKind.i64 9, Value.int IntKind.i64 10]), (479, Blk.c [Value.int IntKind.i64 0, Value.int IntKind.i64 0, Value.int IntKind.i64 1, Value.int IntKind.i64 0]), (457, Blk.c [Value.int IntKind.i64 40, Value.int IntKind.i64 30, Value.int IntKind.i64 50, Value.int IntKind.i64 30]), (456, Blk.c [Value.int IntKind.i64 100, Value.int IntKind.i64 60, Value.int IntKind.i64 50]), (455, Blk.c [Value.int IntKind.i64 (-730), Value.int IntKind.i64 106000]), (426, Blk.c [Value.int IntKind.i64 458, Value.int IntKind.i64 471]), (403, Blk.c [Value.int IntKind.i64 130, Value.int IntKind.i64 60, Value.int IntKind.i64 80, Value.int IntKind.i64 300]), (399, Blk.c [Value.int IntKind.i64 900, Value.bool false, Value.int IntKind.i64 800, Value.bool false, Value.int IntKind.i64 700, Value.bool true, Value.int IntKind.i64 600, Value.bool false]), (1, Blk.c [Value.slice (some { block := 0, off := 0 }) 5 1, Value.int IntKind.i64 300, Value.int IntKind.i64 500]), (0, Blk.c [Value.int IntKind.i64 900, Value.int IntKind.i64 800, Value.int IntKind.i64 700, Value.int IntKind.i64 600, Value.int IntKind.i64 500])] }
def m33.r : Value × St := (Value.tuple { toList := [Value.slice (some { block := 573, off := 0 }) 5 3, Value.int IntKind.i64 0] }, { next := 574, mem := [(573, Blk.c [Value.int IntKind.i64 1, Value.int IntKind.i64 0, Value.int IntKind.i64 5, Value.int IntKind.i64 1, Value.int IntKind.i64 0, Value.int IntKind.i64 6, Value.int IntKind.i64 2, Value.int IntKind.i64 0, Value.int IntKind.i64 2, Value.int IntKind.i64 3, Value.int IntKind.i64 1, Value.int IntKind.i64 9, Value.int IntKind.i64 3, Value.int IntKind.i64 1, Value.int IntKind.i64 10]), (512, Blk.c [Value.int IntKind.i64 1, Value.int IntKind.i64 0, Value.int IntKind.i64 9, Value.int IntKind.i64 5, Value.int IntKind.i64 2, Value.int IntKind.i64 1, Value.int IntKind.i64 10, Value.int IntKind.i64 19, Value.int IntKind.i64 6, Value.int IntKind.i64 2, Value.int IntKind.i64 2, Value.int IntKind.i64 0, Value.int IntKind.i64 19, Value.int IntKind.i64 6, Value.int IntKind.i64 3]), (511, Blk.c [Value.int IntKind.i64 1, Value.int IntKind.i64 9, Value.int IntKind.i64 10]), (479, Blk.c [Value.int IntKind.i64 0, Value.int IntKind.i64 0, Value.int IntKind.i64 1, Value.int IntKind.i64 0]), (457, Blk.c [Value.int IntKind.i64 40, Value.int IntKind.i64 30, Value.int IntKind.i64 50, Value.int IntKind.i64 30]), (456, Blk.c [Value.int IntKind.i64 100, Value.int IntKind.i64 60, Value.int IntKind.i64 50]), (455, Blk.c [Value.int IntKind.i64 (-730), Value.int IntKind.i64 106000]), (426, Blk.c [Value.int IntKind.i64 458, Value.int IntKind.i64 471]), (403, Blk.c [Value.int IntKind.i64 130, Value.int IntKind.i64 60, Value.int IntKind.i64 80, Value.int IntKind.i64 300]), (399, Blk.c [Value.int IntKind.i64 900, Value.bool false, Value.int IntKind.i64 800, Value.bool false, Value.int IntKind.i64 700, Value.bool true, Value.int IntKind.i64 600, Value.bool false]), (1, Blk.c [Value.slice (some { block := 0, off := 0 }) 5 1, Value.int IntKind.i64 300, Value.int IntKind.i64 500]), (0, Blk.c [Value.int IntKind.i64 900, Value.int IntKind.i64 800, Value.int IntKind.i64 700, Value.int IntKind.i64 600, Value.int IntKind.i64 500])] })
set_option maxRecDepth 1000000 in
theorem m33.ok : aCall Try.prog orcSort wr12 1000 60 m33.o (.fn 33) m33.a m33.s = some m33.r := by kernel_rfl
end Go.Proofs.Ytiaiecfnpompcaa.T
namespace Go.Proofs.Ytiaiecfnpompcaa.T
open Go Go.RowKit Go.Proofs.Ytiaiecfnpompcaa.Ab
def m40.o : Nat := 0
def m40.a : List Value := [Value.slice (some { block := 575, off := 0 }) 3 5, Value.slice (some { block := 577, off := 0 }) 2 3, Value.slice none 0 0]
def m40.s : St := { next := 578, mem := [(577, Blk.c [Value.int IntKind.i64 1, Value.int IntKind.i64 9, Value.int IntKind.i64 10, Value.int IntKind.i64 2, Value.int IntKind.i64 0, Value.int IntKind.i64 3]), (575, Blk.c [Value.int IntKind.i64 1, Value.int IntKind.i64 0, Value.int IntKind.i64 9, Value.int IntKind.i64 5, Value.int IntKind.i64 2, Value.int IntKind.i64 1, Value.int IntKind.i64 10, Value.int IntKind.i64 19, Value.int IntKind.i64 6, Value.int IntKind.i64 2, Value.int IntKind.i64 2, Value.int IntKind.i64 0, Value.int IntKind.i64 19, Value.int IntKind.i64 6, Value.int IntKind.i64 3]), (574, Blk.c [Value.int IntKind.i64 1, Value.int IntKind.i64 9, Value.int IntKind.i64 10, Value.int IntKind.i64 2, Value.int IntKind.i64 0, Value.int IntKind.i64 3]), (512, Blk.c [Value.int IntKind.i64 1, Value.int IntKind.i64 0, Value.int IntKind.i64 9, Value.int IntKind.i64 5, Value.int IntKind.i64 2, Value.int IntKind.i64 1, Value.int IntKind.i64 10, Value.int IntKind.i64 19, Value.int IntKind.i64 6, Value.int IntKind.i64 2, Value.int IntKind.i64 2, Value.int IntKind.i64 0, Value.int IntKind.i64 19, Value.int IntKind.i64 6, Value.int IntKind.i64 3]), (573, Blk.c [Value.int IntKind.i64 1, Value.int IntKind.i64 0, Value.int IntKind.i64 5, Value.int IntKind.i64 1, Value.int IntKind.i64 0, Value.int IntKind.i64 6, Value.int IntKind.i64 2, Value.int IntKind.i64 0, Value.int IntKind.i64 2, Value.int IntKind.i64 3, Value.int IntKind.i64 1, Value.int IntKind.i64 9, Value.int IntKind.i64 3, Value.int IntKind.i64 1, Value.int IntKind.i64 10]), (511, Blk.c [Value.int IntKind.i64 1, Value.int IntKind.i64 9, Value.int IntKind.i64 10]), (479, Blk.c [Value.int IntKind.i64 0, Value.int IntKind.i64 0, Value.int IntKind.i64 1, Value.int IntKind.i64 0]), (457, Blk.c [Value.int IntKind.i64 40, Value.int IntKind.i64 30, Value.int IntKind.i64 50, Value.int IntKind.i64 30]), (456, Blk.c [Value.int IntKind.i64 100, Value.int IntKind.i64 60, Value.int IntKind.i64 50]), (455, Blk.c [Value.int IntKind.i64 (-730), Value.int IntKind.i64 106000]), (426, Blk.c [Value.int IntKind.i64 458, Value.int IntKind.i64 471]), (403, Blk.c [Value.int IntKind.i64 130, Value.int IntKind.i64 60, Value.int IntKind.i64 80, Value.int IntKind.i64 300]), (399, Blk.c [Value.int IntKind.i64 900, Value.bool false, Value.int IntKind.i64 800, Value.bool false, Value.int IntKind.i64 700, Value.bool true, Value.int IntKind.i64 600, Value.bool false]), (1, Blk.c [Value.slice (some { block := 0, off := 0 }) 5 1, Value.int IntKind.i64 300, Value.int IntKind.i64 500]), (0, Blk.c [Value.int IntKind.i64 900, Value.int IntKind.i64 800, Value.int IntKind.i64 700, Value.int IntKind.i64 600, Value.int IntKind.i64 500])] }
def m40.r : Value × St := (Value.tuple { toList := [Value.slice (some { block := 653, off := 0 }) 1 3, Value.int IntKind.i64 0] }, { next := 654, mem := [(653, Blk.c [Value.int IntKind.i64 1, Value.int IntKind.i64 0, Value.int IntKind.i64 6]), (577, Blk.c [Value.int IntKind.i64 1, Value.int IntKind.i64 9, Value.int IntKind.i64 10, Value.int IntKind.i64 2, Value.int IntKind.i64 0, Value.int IntKind.i64 3]), (575, Blk.c [Value.int IntKind.i64 1, Value.int IntKind.i64 0, Value.int IntKind.i64 9, Value.int IntKind.i64 5, Value.int IntKind.i64 2, Value.int IntKind.i64 1, Value.int IntKind.i64 10, Value.int IntKind.i64 19, Value.int IntKind.i64 6, Value.int IntKind.i64 2, Value.int IntKind.i64 2, Value.int IntKind.i64 0, Value.int IntKind.i64 19, Value.int IntKind.i64 6, Value.int IntKind.i64 3]), (574, Blk.c [Value.int IntKind.i64 1, Value.int IntKind.i64 9, Value.int IntKind.i64 10, Value.int IntKind.i64 2, Value.int IntKind.i64 0, Value.int IntKind.i64 3]), (512, Blk.c [Value.int IntKind.i64 1, Value.int IntKind.i64 0, Value.int IntKind.i64 9, Value.int IntKind.i64 5, Value.int IntKind.i64 2, Value.int IntKind.i64 1, Value.int IntKind.i64 10, Value.int IntKind.i64 19, Value.int IntKind.i64 6, Value.int IntKind.i64 2, Value.int IntKind.i64 2, Value.int IntKind.i64 0, Value.int IntKind.i64 19, Value.int IntKind.i64 6, Value.int IntKind.i64 3]), (573, Blk.c [Value.int IntKind.i64 1, Value.int IntKind.i64 0, Value.int IntKind.i64 5, Value.int IntKind.i64 1, Value.int IntKind.i64 0, Value.int IntKind.i64 6, Value.int IntKind.i64 2, Value.int IntKind.i64 0, Value.int IntKind.i64 2, Value.int IntKind.i64 3, Value.int IntKind.i64 1, Value.int IntKind.i64 9, Value.int IntKind.i64 3, Value.int IntKind.i64 1, Value.int IntKind.i64 10]), (511, Blk.c [Value.int IntKind.i64 1, Value.int IntKind.i64 9, Value.int IntKind.i64 10]), (479, Blk.c [Value.int IntKind.i64 0, Value.int IntKind.i64 0, Value.int IntKind.i64 1, Value.int IntKind.i64 0]), (457, Blk.c [Value.int IntKind.i64 40, Value.int IntKind.i64 30, Value.int IntKind.i64 50, Value.int IntKind.i64 30]), (456, Blk.c [Value.int IntKind.i64 100, Value.int IntKind.i64 60, Value.int IntKind.i64 50]), (455, Blk.c [Value.int IntKind.i64 (-730), Value.int IntKind.i64 106000]), (426, Blk.c [Value.int IntKind.i64 458, Value.int IntKind.i64 471]), (403, Blk.c [Value.int IntKind.i64 130, Value.int IntKind.i64 60, Value.int IntKind.i64 80, Value.int IntKind.i64 300]), (399, Blk.c [Value.int IntKind.i64 900, Value.bool false, Value.int IntKind.i64 800, Value.bool false, Value.int IntKind.i64 700, Value.bool true, Value.int IntKind.i64 600, Value.bool false]), (1, Blk.c [Value.slice (some { block := 0, off := 0 }) 5 1, Value.int IntKind.i64 300, Value.int IntKind.i64 500]), (0, Blk.c [Value.int IntKind.i64 900, Value.int IntKind.i64 800, Value.int IntKind.i64 700, Value.int IntKind.i64 600, Value.int IntKind.i64 500])] })
set_option maxRecDepth 1000000 in
theorem m40.ok : aCall Try.prog orcSort wr12 1000 60 m40.o (.fn 40) m40.a m40.s = some m40.r := by kernel_rfl
end Go.Proofs.Ytiaiecfnpompcaa.T
namespace Go.Proofs.Ytiaiecfnpompcaa.T
open Go Go.RowKit Go.Proofs.Ytiaiecfnpompcaa.Ab
def m44.o : Nat := 0
def m44.a : List Value := [Value.slice (some { block := 728, off := 0 }) 3 5, Value.slice (some { block := 574, off := 0 }) 2 3, Value.slice none 0 0, Value.slice (some { block := 729, off := 0 }) 2 3]
def m44.s : St := { next := 730, mem := [(729, Blk.c [Value.int IntKind.i64 1, Value.int IntKind.i64 0, Value.int IntKind.i64 5, Value.int IntKind.i64 2, Value.int IntKind.i64 5, Value.int IntKind.i64 5]), (728, Blk.c [Value.int IntKind.i64 1, Value.int IntKind.i64 0, Value.int IntKind.i64 9, Value.int IntKind.i64 5, Value.int IntKind.i64 2, Value.int IntKind.i64 1, Value.int IntKind.i64 10, Value.int IntKind.i64 19, Value.int IntKind.i64 6, Value.int IntKind.i64 2, Value.int IntKind.i64 2, Value.int IntKind.i64 0, Value.int IntKind.i64 19, Value.int IntKind.i64 6, Value.int IntKind.i64 3]), (727, Blk.c [Value.int IntKind.i64 1]), (655, Blk.c [Value.int IntKind.i64 1, Value.int IntKind.i64 0, Value.int IntKind.i64 5, Value.int IntKind.i64 1, Value.int IntKind.i64 5, Value.int IntKind.i64 15]), (654, Blk.c [Value.int IntKind.i64 1, Value.int IntKind.i64 0, Value.int IntKind.i64 9, Value.int IntKind.i64 5, Value.int IntKind.i64 2, Value.int IntKind.i64 1, Value.int IntKind.i64 10, Value.int IntKind.i64 19, Value.int IntKind.i64 6, Value.int IntKind.i64 2, Value.int IntKind.i64 2, Value.int IntKind.i64 0, Value.int IntKind.i64 19, Value.int IntKind.i64 6, Value.int IntKind.i64 3]), (653, Blk.c [Value.int IntKind.i64 1, Value.int IntKind.i64 0, Value.int IntKind.i64 6]), (577, Blk.c [Value.int IntKind.i64 1, Value.int IntKind.i64 9, Value.int IntKind.i64 10, Value.int IntKind.i64 2, Value.int IntKind.i64 0, Value.int IntKind.i64 3]), (575, Blk.c [Value.int IntKind.i64 1, Value.int IntKind.i64 0, Value.int IntKind.i64 9, Value.int IntKind.i64 5, Value.int IntKind.i64 2, Value.int IntKind.i64 1, Value.int IntKind.i64 10, Value.int IntKind.i64 19, Value.int IntKind.i64 6, Value.int IntKind.i64 2, Value.int IntKind.i64 2, Value.int IntKind.i64 0, Value.int IntKind.i64 19, Value.int IntKind.i64 6, Value.int IntKind.i64 3]), (574, Blk.c [Value.int IntKind.i64 1, Value.int IntKind.i64 9, Value.int IntKind.i64 10, Value.int IntKind.i64 2, Value.int IntKind.i64 0, Value.int IntKind.i64 3]), (512, Blk.c [Value.int IntKind.i64 1, Value.int IntKind.i64 0, Value.int IntKind.i64 9, Value.int IntKind.i64 5, Value.int IntKind.i64 2, Value.int IntKind.i64 1, Value.int IntKind.i64 10, Value.int IntKind.i64 19, Value.int IntKind.i64 6, Value.int IntKind.i64 2, Value.int IntKind.i64 2, Value.int IntKind.i64 0, Value.int IntKind.i64 19, Value.int IntKind.i64 6, Value.int IntKind.i64 3]), (573, Blk.c [Value.int IntKind.i64 1, Value.int IntKind.i64 0, Value.int IntKind.i64 5, Value.int IntKind.i64 1, Value.int IntKind.i64 0, Value.int IntKind.i64 6, Value.int IntKind.i64 2, Value.int IntKind.i64 0, Value.int IntKind.i64 2, Value.int IntKind.i64 3, Value.int IntKind.i64 1, Value.int IntKind.i64 9, Value.int IntKind.i64 3, Value.int IntKind.i64 1, Value.int IntKind.i64 10]), (511, Blk.c [Value.int IntKind.i64 1, Value.int IntKind.i64 9, Value.int IntKind.i64 10]), (479, Blk.c [Value.int IntKind.i64 0, Value.int IntKind.i64 0, Value.int IntKind.i64 1, Value.int IntKind.i64 0]), (457, Blk.c [Value.int IntKind.i64 40, Value.int IntKind.i64 30, Value.int IntKind.i64 50, Value.int IntKind.i64 30]), (456, Blk.c [Value.int IntKind.i64 100, Value.int IntKind.i64 60, Value.int IntKind.i64 50]), (455, Blk.c [Value.int IntKind.i64 (-730), Value.int IntKind.i64 106000]), (426, Blk.c [Value.int IntKind.i64 458, Value.int IntKind.i64 471]), (403, Blk.c [Value.int IntKind.i64 130, Value.int IntKind.i64 60, Value.int IntKind.i64 80, Value.int IntKind.i64 300]), (399, Blk.c [Value.int IntKind.i64 900, Value.bool false, Value.int IntKind.i64 800, Value.bool false, Value.int IntKind.i64 700, Value.bool true, Value.int IntKind.i64 600, Value.bool false]), (1, Blk.c [Value.slice (some { block := 0, off := 0 }) 5 1, Value.int IntKind.i64 300, Value.int IntKind.i64 500]), (0, Blk.c [Value.int IntKind.i64 900, Value.int IntKind.i64 800, Value.int IntKind.i64 700, Value.int IntKind.i64 600, Value.int IntKind.i64 500])] }
def m44.r : Value × St := (Value.tuple { toList := [Value.int IntKind.i64 0, Value.int IntKind.i64 1, Value.int IntKind.i64 0] }, { next := 843, mem := [(729, Blk.c [Value.int IntKind.i64 1, Value.int IntKind.i64 0, Value.int IntKind.i64 5, Value.int IntKind.i64 2, Value.int IntKind.i64 5, Value.int IntKind.i64 5]), (728, Blk.c [Value.int IntKind.i64 1, Value.int IntKind.i64 0, Value.int IntKind.i64 9, Value.int IntKind.i64 5, Value.int IntKind.i64 2, Value.int IntKind.i64 1, Value.int IntKind.i64 10, Value.int IntKind.i64 19, Value.int IntKind.i64 6, Value.int IntKind.i64 2, Value.int IntKind.i64 2, Value.int IntKind.i64 0, Value.int IntKind.i64 19, Value.int IntKind.i64 6, Value.int IntKind.i64 3]), (727, Blk.c [Value.int IntKind.i64 1]), (655, Blk.c [Value.int IntKind.i64 1, Value.int IntKind.i64 0, Value.int IntKind.i64 5, Value.int IntKind.i64 1, Value.int IntKind.i64 5, Value.int IntKind.i64 15]), (654, Blk.c [Value.int IntKind.i64 1, Value.int IntKind.i64 0, Value.int IntKind.i64 9, Value.int IntKind.i64 5, Value.int IntKind.i64 2, Value.int IntKind.i64 1, Value.int IntKind.i64 10, Value.int IntKind.i64 19, Value.int IntKind.i64 6, Value.int IntKind.i64 2, Value.int IntKind.i64 2, Value.int IntKind.i64 0, Value.int IntKind.i64 19, Value.int IntKind.i64 6, Value.int IntKind.i64 3]), (653, Blk.c [Value.int IntKind.i64 1, Value.int IntKind.i64 0, Value.int IntKind.i64 6]), (577, Blk.c [Value.int IntKind.i64 1, Value.int IntKind.i64 9, Value.int IntKind.i64 10, Value.int IntKind.i64 2, Value.int IntKind.i64 0, Value.int IntKind.i64 3]), (575, Blk.c [Value.int IntKind.i64 1, Value.int IntKind.i64 0, Value.int IntKind.i64 9, Value.int IntKind.i64 5, Value.int IntKind.i64 2, Value.int IntKind.i64 1, Value.int IntKind.i64 10, Value.int IntKind.i64 19, Value.int IntKind.i64 6, Value.int IntKind.i64 2, Value.int IntKind.i64 2, Value.int IntKind.i64 0, Value.int IntKind.i64 19, Value.int IntKind.i64 6, Value.int IntKind.i64 3]), (574, Blk.c [Value.int IntKind.i64 1, Value.int IntKind.i64 9, Value.int IntKind.i64 10, Value.int IntKind.i64 2, Value.int IntKind.i64 0, Value.int IntKind.i64 3]), (512, Blk.c [Value.int IntKind.i64 1, Value.int IntKind.i64 0, Value.int IntKind.i64 9, Value.int IntKind.i64 5, Value.int IntKind.i64 2, Value.int IntKind.i64 1, Value.int IntKind.i64 10, Value.int IntKind.i64 19, Value.int IntKind.i64 6, Value.int IntKind.i64 2, Value.int IntKind.i64 2, Value.int IntKind.i64 0, Value.int IntKind.i64 19, Value.int IntKind.i64 6, Value.int IntKind.i64 3]), (573, Blk.c [Value.int IntKind.i64 1, Value.int IntKind.i64 0, Value.int IntKind.i64 5, Value.int IntKind.i64 1, Value.int IntKind.i64 0, Value.int IntKind.i64 6, Value.int IntKind.i64 2, Value.int IntKind.i64 0, Value.int IntKind.i64 2, Value.int IntKind.i64 3, Value.int IntKind.i64 1, Value.int IntKind.i64 9, Value.int IntKind.i64 3, Value.int IntKind.i64 1, Value.int IntKind.i64 10]), (511, Blk.c [Value.int IntKind.i64 1, Value.int IntKind.i64 9, Value.int IntKind.i64 10]), (479, Blk.c [Value.int IntKind.i64 0, Value.int IntKind.i64 0, Value.int IntKind.i64 1, Value.int IntKind.i64 0]), (457, Blk.c [Value.int IntKind.i64 40, Value.int IntKind.i64 30, Value.int IntKind.i64 50, Value.int IntKind.i64 30]), (456, Blk.c [Value.int IntKind.i64 100, Value.int IntKind.i64 60, Value.int IntKind.i64 50]), (455, Blk.c [Value.int IntKind.i64 (-730), Value.int IntKind.i64 106000]), (426, Blk.c [Value.int IntKind.i64 458, Value.int IntKind.i64 471]), (403, Blk.c [Value.int IntKind.i64 130, Value.int IntKind.i64 60, Value.int IntKind.i64 80, Value.int IntKind.i64 300]), (399, Blk.c [Value.int IntKind.i64 900, Value.bool false, Value.int IntKind.i64 800, Value.bool false, Value.int IntKind.i64 700, Value.bool true, Value.int IntKind.i64 600, Value.bool false]), (1, Blk.c [Value.slice (some { block := 0, off := 0 }) 5 1, Value.int IntKind.i64 300, Value.int IntKind.i64 500]), (0, Blk.c [Value.int IntKind.i64 900, Value.int IntKind.i64 800, Value.int IntKind.i64 700, Value.int IntKind.i64 600, Value.int IntKind.i64 500])] })
set_option maxRecDepth 1000000 in
theorem m44.ok : aCall Try.prog orcSort wr12 1000 60 m44.o (.fn 44) m44.a m44.s = some m44.r := by kernel_rfl
end Go.Proofs.Ytiaiecfnpompcaa.T
namespace Go.Proofs.Ytiaiecfnpompcaa.T
open Go Go.RowKit Go.Proofs.Ytiaiecfnpompcaa.Ab
set_option linter.unusedVariables false
def orc12 (f : FuncId) : Option (Nat → List Value → St → Ans) :=
 match Nat.beq f 17 with
 | true => some (hit m17.o m17.a m17.s m17.r)
 | false =>
  match Nat.beq f 28 with
  | true => some (hit m28.o m28.a m28.s m28.r)
  | false =>
   match Nat.beq f 33 with
   | true => some (hit m33.o m33.a m33.s m33.r)
   | false =>
    match Nat.beq f 40 with
    | true => some (hit m40.o m40.a m40.s m40.r)
    | false =>
     match Nat.beq f 44 with
     | true => some (hit m44.o m44.a m44.s m44.r)
     | false =>
      orcSort f
theorem orc12_ok : OrcOK Try.prog orc12 := by
 intro f g hf ro args st v st' h
 unfold orc12 at hf
 split at hf
 ·rename_i q
  obtain rfl := Nat.eq_of_beq_eq_true q
  obtain rfl := Option.some.inj hf
  exact hit_ok m17.ok h
 split at hf
 ·rename_i q
  obtain rfl := Nat.eq_of_beq_eq_true q
  obtain rfl := Option.some.inj hf
  exact hit_ok m28.ok h
 split at hf
 ·rename_i q
  obtain rfl := Nat.eq_of_beq_eq_true q
  obtain rfl := Option.some.inj hf
  exact hit_ok m33.ok h
 split at hf
 ·rename_i q
  obtain rfl := Nat.eq_of_beq_eq_true q
  obtain rfl := Option.some.inj hf
  exact hit_ok m40.ok h
 split at hf
 ·rename_i q
  obtain rfl := Nat.eq_of_beq_eq_true q
  obtain rfl := Option.some.inj hf
  exact hit_ok m44.ok h
 exact orcSort_ok f g hf ro args st v st' h
set_option maxRecDepth 1000000 in
theorem known_run : yes (aCall Try.prog orc12 wr12 1000 60 0 (.fn 15) [] ⟨0, []⟩) = true := by kernel_rfl
def acmelaw12_known.f : Option Bool := some true
theorem acmelaw12_known.calls (r : Bool) (w : World) (h : acmelaw12_known.f = some r) : Calls Try.prog 15 #[] w fun e w' => e = .returned (.bool r) ∧ Below w.heap.size w w' := by
 obtain rfl : true = r := Option.some.inj h
 obtain ⟨st, hs⟩ := yes_some known_run
 exact run_calls (by kernel_rfl) noNum orc12_ok rfl rfl hs w
end Go.Proofs.Ytiaiecfnpompcaa.T
namespace Go.Proofs.Ytiaiecfnpompcaa.T
open Go.RowKit Go.Proofs.YtiaiecfnpompcaaW.PrintWords Go.Proofs.YtiaiecfnpompcaaW.PrintLast Go.Proofs.YtiaiecfnpompcaaW.PrintMore
attribute [local go_sem] max2_int min2_int max_two min_two max_three min_three max_four min_four   -- for this text's walks alone
set_option linter.unusedVariables false
set_option linter.unusedSimpArgs false
attribute [local go_sem] wl_100001

attribute [local go_sem high] eqA58
mutual
def acmelaw12_MillToNoneOther.j0 : Nat → List (S144) → List (S58) → Int → Int → Int → Option (Bool)
 | 0, _, _, _, _, _ => none
 | k + 1, x5, x6, x226000, x226001, x226002 => acmelaw12_MillToNoneOther.l0 k x5 x6 (([] : List (S58))) (([] : List (S58))) 0 x226000 x226001 x226002
def acmelaw12_MillToNoneOther.l0 : Nat → List (S144) → List (S58) → List (S58) → List (S58) → Int → Int → Int → Int → Option (Bool)
 | 0, _, _, _, _, _, _, _, _ => none
 | k + 1, x5, x6, x8, x9, x10, x226000, x226001, x226002 => if x10 < (x6.length : Int) then (if 0 ≤ x10 then ((acmelaw12_has.f k x5 ((rd_T58 x6 x10).f0) ((rd_T58 x6 x10).f1) ((rd_T58 x6 x10).f2) x226000 x226001 x226002).bind fun t233 => (if t233 = true then (if x8.length < 5864062014805 then (acmelaw12_MillToNoneOther.l0 k x5 x6 (x8 ++ [(⟨(rd_T58 x6 x10).f0, (rd_T58 x6 x10).f1, (rd_T58 x6 x10).f2⟩ : S58)]) x9 (wrap64 (x10 + 1)) x226000 x226001 x226002) else (none)) else (if x9.length < 5864062014805 then (acmelaw12_MillToNoneOther.l0 k x5 x6 x8 (x9 ++ [(⟨(rd_T58 x6 x10).f0, (rd_T58 x6 x10).f1, (rd_T58 x6 x10).f2⟩ : S58)]) (wrap64 (x10 + 1)) x226000 x226001 x226002) else (none)))) else (none)) else ((acmelaw12_runs.f x5).bind fun t242 => ((acmelaw12_lots.f x6).bind fun t245 => ((mill_Recall.f t242 t245 x226000 x226001 x226002).bind fun bt248 => (if bt248.2 = 0 then (acmelaw12_MillToNoneOther.j2 k x5 x6 x8 x9 bt248.1 ((bt248.1.length : Int) != (x8.length : Int)) x226000 x226001 x226002) else (acmelaw12_MillToNoneOther.j2 k x5 x6 x8 x9 bt248.1 true x226000 x226001 x226002)))))
def acmelaw12_MillToNoneOther.j2 : Nat → List (S144) → List (S58) → List (S58) → List (S58) → List Int → Bool → Int → Int → Int → Option (Bool)
 | 0, _, _, _, _, _, _, _, _, _ => none
 | k + 1, x5, x6, x8, x9, x11, x97, x226000, x226001, x226002 => if x97 = true then (none) else (acmelaw12_MillToNoneOther.l1 k x5 x6 x8 x9 x11 0 x226000 x226001 x226002)
def acmelaw12_MillToNoneOther.l1 : Nat → List (S144) → List (S58) → List (S58) → List (S58) → List Int → Int → Int → Int → Int → Option (Bool)
 | 0, _, _, _, _, _, _, _, _, _ => none
 | k + 1, x5, x6, x8, x9, x11, x13, x226000, x226001, x226002 => if x13 < (x11.length : Int) then (if 0 ≤ x13 then (if (rd x11 x13) < 0 then (none) else (if (rd x11 x13) ≥ (x6.length : Int) then (none) else (if x13 > 0 then (if 0 ≤ (wrap64 (x13 - 1)) then (if (wrap64 (x13 - 1)) < (x11.length : Int) then (if (rd x11 x13) ≤ (rd x11 (wrap64 (x13 - 1))) then (none) else (if 0 ≤ (rd x11 x13) then (if (rd x11 x13) < (x6.length : Int) then (if x13 < (x8.length : Int) then (if (!(((rd_T58 x6 (rd x11 x13)).f0) == ((rd_T58 x8 x13).f0)) || (!(((rd_T58 x6 (rd x11 x13)).f1) == ((rd_T58 x8 x13).f1)) || (!(((rd_T58 x6 (rd x11 x13)).f2) == ((rd_T58 x8 x13).f2))))) = true then (none) else (acmelaw12_MillToNoneOther.l1 k x5 x6 x8 x9 x11 (wrap64 (x13 + 1)) x226000 x226001 x226002)) else (none)) else (none)) else (none))) else (none)) else (none)) else (if 0 ≤ (rd x11 x13) then (if (rd x11 x13) < (x6.length : Int) then (if x13 < (x8.length : Int) then (if (!(((rd_T58 x6 (rd x11 x13)).f0) == ((rd_T58 x8 x13).f0)) || (!(((rd_T58 x6 (rd x11 x13)).f1) == ((rd_T58 x8 x13).f1)) || (!(((rd_T58 x6 (rd x11 x13)).f2) == ((rd_T58 x8 x13).f2))))) = true then (none) else (acmelaw12_MillToNoneOther.l1 k x5 x6 x8 x9 x11 (wrap64 (x13 + 1)) x226000 x226001 x226002)) else (none)) else (none)) else (none))))) else (none)) else ((acmelaw12_runs.f x5).bind fun t262 => ((acmelaw12_lots.f x8).bind fun t265 => ((acmelaw12_lots.f x9).bind fun t268 => ((mill_Culprits.f t262 t265 t268).bind fun bt271 => (if (x8.length : Int) = 0 then (if bt271.2 = 7 then (if (bt271.1.length : Int) = 0 then ((acmelaw12_known.f).bind fun t275 => (some t275)) else (none)) else (none)) else ((acmelaw12_runs.f x5).bind fun t276 => (if 0 < (x8.length : Int) then ((mill_Causes.f t276 ((rd_T58 x8 0).f0) ((rd_T58 x8 0).f1) ((rd_T58 x8 0).f2)).bind fun bt280 => (if bt271.2 = 0 then (if bt280.2 = 0 then (tailF x5 x6 x8 bt271.1 bt280.1 ⟨x226000, x226001, x226002⟩) else (none)) else (none))) else (none))))))))
end
def acmelaw12_MillToNoneOther.f (k : Nat) (l0_0 : List (S162)) (l0_1 : List (S94)) (a1_0 : Int) (a1_1 : Int) (a1_2 : Int) : Option (Bool) := (acmelaw12_Works_runs.f k l0_0 l0_1).bind fun t219 => ((acmelaw12_Works_lots.f k l0_0 l0_1).bind fun t222 => (if ((1 + (Int.tmod a1_0 3)) % 256) = 3 then (acmelaw12_MillToNoneOther.j0 k t219 t222 ((1 + (Int.tmod a1_0 3)) % 256) (Int.tmod (wrap64 (a1_2)) 2) (Int.tmod (wrap64 (a1_1)) 30)) else (acmelaw12_MillToNoneOther.j0 k t219 t222 ((1 + (Int.tmod a1_0 3)) % 256) 0 (Int.tmod (wrap64 (a1_1)) 4))))
def acmelaw12_MillToNoneOther.T4 : Bool × List (List Nat × List Nat) := (true, [([], []), ([0], [0]), ([1], [1]), ([2], [2]), ([], []), ([4], [4]), ([5], [5]), ([6], [6]), ([0, 1, 2, 3], []), ([8, 3, 0, 1, 2, 3], [3, 8]), ([0, 1, 2, 3, 4, 5, 6, 7, 8, 9], []), ([10, 7, 9, 0, 1, 2, 3, 4, 5, 6, 7, 8, 9], [7, 10])])
def acmelaw12_MillToNoneOther.B4 : List Nat := [0, 1, 3, 7, 0, 16, 48, 112, 15, 271, 1023, 2047]
theorem acmelaw12_MillToNoneOther.tab4 : rtab .any (opsOf Try.f12 4) = acmelaw12_MillToNoneOther.T4 := by kernel_rfl
theorem acmelaw12_MillToNoneOther.bits4 : waitsOk acmelaw12_MillToNoneOther.T4.2 acmelaw12_MillToNoneOther.B4 = true := by kernel_rfl
def acmelaw12_MillToNoneOther.T12 : Bool × List (List Nat × List Nat) := (true, [([], []), ([0], [0]), ([], []), ([2, 1], [2]), ([], []), ([1, 3, 4, 3], [1, 3, 4]), ([5], [5]), ([6], [6]), ([6], [6]), ([7, 5, 0, 1, 2, 3, 4, 5, 6, 7], [7]), ([8, 9, 0, 1, 2, 3, 4, 5, 6, 7, 8, 9], [8])])
def acmelaw12_MillToNoneOther.B12 : List Nat := [0, 1, 0, 7, 0, 31, 63, 127, 127, 255, 1023]
theorem acmelaw12_MillToNoneOther.tab12 : rtab .any (opsOf Try.f12 12) = acmelaw12_MillToNoneOther.T12 := by kernel_rfl
theorem acmelaw12_MillToNoneOther.bits12 : waitsOk acmelaw12_MillToNoneOther.T12.2 acmelaw12_MillToNoneOther.B12 = true := by kernel_rfl
def acmelaw12_MillToNoneOther.T18 : Bool × List (List Nat × List Nat) := (true, [([], []), ([], []), ([0, 1], [0, 1]), ([2], [2]), ([3], [3]), ([4], [4]), ([5], [5]), ([5], [5]), ([6, 7, 5], [5, 6, 7]), ([8, 5], [5, 8]), ([5], [5]), ([10, 5], [5, 10]), ([9, 11, 5], [5, 9, 11]), ([5, 12], [5, 12]), ([13, 5], [13]), ([14], [14]), ([15, 14], [14, 15]), ([16, 14, 14], [14, 16]), ([17], [17]), ([17], [17]), ([18, 19, 17], [17, 18, 19]), ([20, 17], [17, 20]), ([17], [17]), ([17], [17]), ([23, 17], [17, 23]), ([22, 24, 17], [17, 22, 24]), ([25, 17], [17, 25]), ([21, 26, 17], [17, 21, 26]), ([17, 27, 14], [14, 17, 27]), ([14, 28], [14, 28]), ([29, 17], [29]), ([30], [30]), ([30], [30]), ([30], [30]), ([32, 33, 30], [30, 32, 33]), ([34, 30], [30, 34]), ([31, 35, 30], [30, 31, 35]), ([36, 30], [30, 36]), ([30], [30]), ([30], [30]), ([38, 39, 30], [30, 38, 39]), ([40, 30], [30, 40]), ([37, 41, 30], [30, 37, 41]), ([30, 42], [30, 42])])
def acmelaw12_MillToNoneOther.B18 : List Nat := [0, 0, 3, 7, 15, 31, 63, 63, 255, 511, 63, 1087, 4095, 8191, 16383, 32767, 65535, 131071, 262143, 262143, 1048575, 2097151, 262143, 262143, 8650751, 29622271, 63176703, 134217727, 268435455, 536870911, 1073741823, 2147483647, 2147483647, 2147483647, 15032385535, 32212254719, 68719476735, 137438953471, 2147483647, 2147483647, 826781204479, 1926292832255, 4398046511103, 8796093022207]
theorem acmelaw12_MillToNoneOther.tab18 : rtab .any (opsOf Try.f12 18) = acmelaw12_MillToNoneOther.T18 := by kernel_rfl
theorem acmelaw12_MillToNoneOther.bits18 : waitsOk acmelaw12_MillToNoneOther.T18.2 acmelaw12_MillToNoneOther.B18 = true := by kernel_rfl
def acmelaw12_MillToNoneOther.T23 : Bool × List (List Nat × List Nat) := (true, [([], []), ([0], [0]), ([], []), ([2], [2]), ([3], [3]), ([1, 4, 1], [1, 4]), ([5], [5]), ([6], [6]), ([6], [6]), ([7, 5, 0, 1, 2, 3, 4, 5, 6, 7], [7]), ([8, 9, 0, 1, 2, 3, 4, 5, 6, 7, 8, 9], [8])])
def acmelaw12_MillToNoneOther.B23 : List Nat := [0, 1, 0, 4, 12, 31, 63, 127, 127, 255, 1023]
theorem acmelaw12_MillToNoneOther.tab23 : rtab .any (opsOf Try.f12 23) = acmelaw12_MillToNoneOther.T23 := by kernel_rfl
theorem acmelaw12_MillToNoneOther.bits23 : waitsOk acmelaw12_MillToNoneOther.T23.2 acmelaw12_MillToNoneOther.B23 = true := by kernel_rfl
end Go.Proofs.Ytiaiecfnpompcaa.T
