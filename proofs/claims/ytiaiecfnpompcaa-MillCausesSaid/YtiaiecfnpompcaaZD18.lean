-- cut down, squeezed and laid together by pack.py (a program of this repository) out of this seat's texts
import Derived.WalkKit
import Derived.MapKept
import Derived.RangeFuncNested
import Derived.RangeFuncBound
import Derived.RangeFuncCalls
import Derived.RangeFuncLeaves
import Derived.Shelf.Abstract
import Derived.Shelf.RegionOpen
import Derived.OwnWalkIn
import Derived.TacticsInMore
import Derived.LoopNIn
import Derived.LoopIn
import Derived.ChangeKeysEq
import Derived.KernelRfl
import Derived.Maps.OwnSet
import Derived.Maps.RangeWalk
import Derived.DeepKeys4
import Derived.Test.YtiaiecfnpompcaaZD16
import Derived.Test.YtiaiecfnpompcaaZD17
import Derived.Test.YtiaiecfnpompcaaZD15
import Derived.Test.YtiaiecfnpompcaaZD2
import Derived.Test.YtiaiecfnpompcaaZD13
import Derived.Test.YtiaiecfnpompcaaZD7
import Derived.Test.YtiaiecfnpompcaaZD14
import Derived.Test.YtiaiecfnpompcaaZD4
import Derived.Test.YtiaiecfnpompcaaZD3
import Derived.Test.YtiaiecfnpompcaaZD6
import Derived.Test.YtiaiecfnpompcaaZD5
import Derived.Test.YtiaiecfnpompcaaZD1
import Derived.Test.YtiaiecfnpompcaaZD8
import Derived.Test.YtiaiecfnpompcaaZD11
import Derived.Test.YtiaiecfnpompcaaZD9
import Derived.Test.YtiaiecfnpompcaaZD10
import Derived.Test.YtiaiecfnpompcaaZD12
namespace Go.Proofs.Ytiaiecfnpompcaa.T
open Go Go.RowKit Go.Shelf Go.Sort Go.Proofs.Ytiaiecfnpompcaa.Ab Go.Proofs.YtiaiecfnpompcaaW.PrintWords
set_option linter.unusedVariables false
set_option linter.unusedSimpArgs false

def dec79 : Nat → List Value → Option (List S79 × List Value)
 | 0, l => some ([], l)
 | n + 1, .int .i64 a :: .int .i64 b :: .int .i64 c :: l => match dec79 n l with
  | some (xs, r) => some (⟨a, b, c⟩ :: xs, r)
  | none => none
 | _, _ => none
theorem dec79_some : ∀ {n : Nat} {l : List Value} {xs : List S79} {r : List Value}, dec79 n l = some (xs, r) → l = xs.flatMap enc79 ++ r ∧ xs.length = n
 | 0, l, xs, r, h => by
  simp only [dec79, Option.some.injEq, Prod.mk.injEq] at h
  obtain ⟨rfl, rfl⟩ := h
  exact ⟨rfl, rfl⟩
 | n + 1, l, xs, r, h => by
  unfold dec79 at h
  split at h
  ·simp at *
  ·rename_i n' a b c l' heq
   obtain rfl := Nat.succ.inj heq
   split at h
   ·rename_i ys r' h2
    simp only [Option.some.injEq, Prod.mk.injEq] at h
    obtain ⟨rfl, rfl⟩ := h
    obtain ⟨h3, h4⟩ := dec79_some h2
    exact ⟨by rw [h3]; rfl, by simp [h4]⟩
   ·simp at h
  ·simp at h
def ins79 (x : S79) : List S79 → List S79
 | [] => [x]
 | y :: l => match lt79 y x with
  | true => y :: ins79 x l
  | false => x :: y :: l
def isort79 : List S79 → List S79
 | [] => []
 | x :: l => ins79 x (isort79 l)
theorem ins79_perm (x : S79) : ∀ l, (ins79 x l).Perm (x :: l)
 | [] => List.Perm.refl _
 | y :: l => by
  unfold ins79
  split
  ·exact ((ins79_perm x l).cons y).trans (List.Perm.swap x y l)
  ·exact List.Perm.refl _
theorem isort79_perm : ∀ l, (isort79 l).Perm l
 | [] => List.Perm.refl _
 | x :: l => (ins79_perm x _).trans ((isort79_perm l).cons x)
theorem lt79_iff (x y : S79) : lt79 x y = true ↔ (x.f0 < y.f0 ∨ x.f0 = y.f0 ∧ (x.f1 < y.f1 ∨ x.f1 = y.f1 ∧ x.f2 < y.f2)) := by simp only [lt79, decide_eq_true_eq]
theorem not_lt79_iff (x y : S79) : (!lt79 x y) = true ↔ ¬ (x.f0 < y.f0 ∨ x.f0 = y.f0 ∧ (x.f1 < y.f1 ∨ x.f1 = y.f1 ∧ x.f2 < y.f2)) := by rw [← lt79_iff]; simp
theorem le79_trans (a b c : S79) (h1 : (!lt79 b a) = true) (h2 : (!lt79 c b) = true) : (!lt79 c a) = true := by
 rw [not_lt79_iff] at *; omega
theorem le79_total (a b : S79) : ((!lt79 b a) || (!lt79 a b)) = true := by
 rw [Bool.or_eq_true, not_lt79_iff, not_lt79_iff]; omega
theorem ins79_sorted (x : S79) : ∀ l, l.Pairwise (fun x y => (!lt79 y x) = true) → (ins79 x l).Pairwise (fun x y => (!lt79 y x) = true)
 | [], _ => by simp [ins79]
 | y :: l, h => by
  unfold ins79
  have h' := List.pairwise_cons.1 h
  split
  ·rename_i q
   refine List.pairwise_cons.2 ⟨fun z hz => ?_, ins79_sorted x l h'.2⟩
   rcases List.mem_cons.1 ((ins79_perm x l).mem_iff.1 hz) with rfl | hz
   ·rw [not_lt79_iff]; rw [lt79_iff] at q; omega
   ·exact h'.1 z hz
  ·rename_i q
   have q' : (!lt79 y x) = true := by rw [q]; rfl
   refine List.pairwise_cons.2 ⟨fun z hz => ?_, h⟩
   rcases List.mem_cons.1 hz with rfl | hz
   ·exact q'
   ·exact le79_trans x y z q' (h'.1 z hz)
theorem isort79_sorted : ∀ l, (isort79 l).Pairwise (fun x y => (!lt79 y x) = true)
 | [] => List.Pairwise.nil
 | x :: l => ins79_sorted x _ (isort79_sorted l)
theorem isort79_eq (l : List S79) : isort79 l = l.mergeSort fun x y => !lt79 y x := by
 refine List.Perm.eq_of_pairwise (le := fun x y => (!lt79 y x) = true) (fun a b _ _ h1 h2 => ?_) (isort79_sorted l) (List.pairwise_mergeSort (fun a b c h1 h2 => le79_trans a b c h1 h2) (fun a b => le79_total a b) _) ((isort79_perm l).trans (List.mergeSort_perm _ _).symm)
 simp only [Bool.not_eq_true'] at h1 h2
 exact total79 a b (by rw [ltOf79]; exact h2) (by rw [ltOf79]; exact h1)

theorem flat_get (xs : List S79) (t : Nat) (h : t < xs.length * 3) : (xs.flatMap enc79)[t]? = some (flatK enc79 3 xs.toArray)[t]! := by
 rw [get_flatK enc79 3 xs.toArray t (by simpa using h)]
 induction xs generalizing t with
 | nil => simp at h
 | cons x xs ih =>
  simp only [List.flatMap_cons]
  by_cases ht : t < 3
  ·rw [List.getElem?_append_left (by simp [enc79]; omega)]
   have h0 : t / 3 = 0 := by omega
   have h1 : t % 3 = t := by omega
   rw [h0, h1]
   simp only [enc79]
   obtain rfl | rfl | rfl : t = 0 ∨ t = 1 ∨ t = 2 := by omega
   all_goals rfl
  ·rw [List.getElem?_append_right (by simp [enc79]; omega)]
   simp only [enc79, List.length_cons, List.length_nil]
   have := ih (t - 3) (by simp at h; omega)
   simp only [enc79] at this
   rw [this]
   have h0 : t / 3 = (t - 3) / 3 + 1 := by omega
   have h1 : t % 3 = (t - 3) % 3 := by omega
   rw [h0, h1]
   have hl : (t - 3) / 3 < xs.length := by simp at h; omega
   congr 2
   simp [hl]
theorem flat_len (xs : List S79) : (xs.flatMap enc79).length = xs.length * 3 := by
 induction xs with
 | nil => rfl
 | cons x xs ih => simp [List.flatMap_cons, ih, enc79]; omega
theorem flat_int (xs : List S79) (t : Nat) (h : t < xs.length * 3) : ∃ n, (flatK enc79 3 xs.toArray)[t]! = .int .i64 n := by
 have h1 := flat_get xs t h
 have : (flatK enc79 3 xs.toArray)[t]! ∈ xs.flatMap enc79 := List.mem_of_getElem? h1
 obtain ⟨x, _, hx⟩ := List.mem_flatMap.1 this
 simp only [enc79, List.mem_cons, List.not_mem_nil, or_false] at hx
 rcases hx with h | h | h <;> exact ⟨_, h⟩

def or92 (ro : Nat) (args : List Value) (st : St) : Ans :=
 match args with
 | [.slice (some ⟨b, 0, none⟩) n 3, .func (.func 93) ⟨[]⟩ ⟨[]⟩] => match Nat.ble ro b, lookB st.mem b, Nat.ble n 1000000 with
  | true, some (.c cs), true => match dec79 n cs with
   | some (xs, r) => some (.tuple ⟨[]⟩, ⟨st.next, put st.mem b (.c ((isort79 xs).flatMap enc79 ++ r))⟩)
   | none => none
  | _, _, _ => none
 | [.slice none 0 0, .func (.func 93) ⟨[]⟩ ⟨[]⟩] => some (.tuple ⟨[]⟩, st)
 | _ => none
def orcSort (f : FuncId) : Option (Nat → List Value → St → Ans) := match Nat.beq f 92 with
 | true => some or92
 | false => none
theorem VR.fn_inv {U : Nat → Prop} {ρ : Nat → Pl} {f : FuncId} {v : Value} (h : VR U ρ (.func (.func f) ⟨[]⟩ ⟨[]⟩) v) : v = .func (.func f) #[] #[] := by
 cases h with
 | fn _ _ _ xs' ys' h1 h2 => cases h1; cases h2; rfl

set_option maxHeartbeats 1000000 in
theorem or92_ok {ro : Nat} {args : List Value} {st : St} {v : Value} {st' : St} (h : or92 ro args st = some (v, st')) {B : Nat} {U : Nat → Prop} {ρ : Nat → Pl} {w : World} {args' : List Value} (hr : HR B ro U ρ st.next st.mem w) (hl : VL U ρ args args') :
  Calls Try.prog 92 ⟨args'⟩ w fun e w' => ∃ v', e = .returned v' ∧ Post B ro U ρ st.next w v st' v' w' := by
 unfold or92 at h
 split at h
 ·rename_i b n
  split at h
  ·rename_i cs hro hb hn
   split at h
   ·rename_i xs r hd
    simp only [Option.some.injEq, Prod.mk.injEq] at h
    obtain ⟨rfl, rfl⟩ := h
    obtain ⟨hcs, hlen⟩ := dec79_some hd
    have hro := Nat.le_of_ble_eq_true hro
    have hn := Nat.le_of_ble_eq_true hn
    obtain ⟨hU, cs', t, hg, hsz, hcells⟩ := hr.blk b _ hb
    cases hl with
    | cons _ v1 _ l1 q1 q2 => cases q2 with
     | cons _ v2 _ l2 q3 q4 =>
      cases q4
      obtain rfl := VR.fn_inv q3
      cases q1 with
      | sl _ _ _ _ c _ hnc hfit =>
       have hcell : ∀ i, i < n * 3 → cs'[(ρ b).off + i]? = some (flatK enc79 3 xs.toArray)[i]! := by
        intro i hi
        have h1 := flat_get xs i (by omega)
        have h2 : cs[i]? = some (flatK enc79 3 xs.toArray)[i]! := by
         rw [hcs, List.getElem?_append_left (by rw [flat_len]; omega)]; exact h1
        obtain ⟨y, hy, hv⟩ := hcells i _ h2
        obtain ⟨m, hm⟩ := flat_int xs i (by omega)
        rw [hm] at hv ⊢
        cases hv
        exact hy
       have hH : HoldsK enc79 3 w (ρ b).g ((ρ b).off + 0) xs.toArray := by
        intro j hj
        have hj : j < n * 3 := by simpa [hlen] using hj
        refine ⟨?_, blk_frozen hg _⟩
        exact (blk_cell hg _).trans (by simpa using hcell j hj)
       have hlt := (Array.getElem?_eq_some_iff.1 hg).1
       have hmain := sort92.row (ρ b).g ((ρ b).off + 0) c xs w hH hlt (by omega)
       rw [hlen] at hmain
       refine hmain.mono ?_
       rintro e w' ⟨rfl, m, os, rfl⟩
       refine ⟨_, rfl, ?_⟩
       rw [← isort79_eq]
       have hil : (isort79 xs).length = n := by rw [(isort79_perm xs).length_eq, hlen]
       generalize isort79 xs = ys at hil
       unfold sortWorldK
       have e1 : (putRowK enc79 3 (Sort.ahead w m) (ρ b).g ((ρ b).off + 0) ys.toArray).heap = w.heap.modify (ρ b).g (onCells (putCells id ((ρ b).off + 0) (flatK enc79 3 ys.toArray))) := rfl
       have hr1 : HR B ro U ρ st.next (put st.mem b (.c (ys.flatMap enc79 ++ r))) (putRowK enc79 3 (Sort.ahead w m) (ρ b).g ((ρ b).off + 0) ys.toArray) := by
        refine hr.putAt hb ⟨hU, putCells id ((ρ b).off + 0) (flatK enc79 3 ys.toArray) cs', t, ?_, ?_, ?_⟩ ?_ ?_
        ·rw [e1, Array.getElem?_modify, if_pos rfl, hg]; rfl
        ·simp [putCells, hsz]
        ·intro i x hx
         have hcl : cs.length = n * 3 + r.length := by rw [hcs, List.length_append, flat_len, hlen]
         by_cases hi : i < n * 3
         ·rw [List.getElem?_append_left (by rw [flat_len]; omega), flat_get ys i (by omega)] at hx
          obtain rfl := Option.some.inj hx
          refine ⟨(flatK enc79 3 ys.toArray)[i]!, ?_, ?_⟩
          ·simp only [putCells, Array.getElem?_mapIdx, hcell i hi, Option.map_some]
           rw [if_pos (by simp; omega)]
           simp
          ·obtain ⟨k, hk⟩ := flat_int ys i (by omega)
           rw [hk]; exact .int _ _
         ·rw [List.getElem?_append_right (by rw [flat_len]; omega), flat_len, hil] at hx
          have : cs[i]? = some x := by
           rw [hcs, List.getElem?_append_right (by rw [flat_len]; omega), flat_len, hlen]; exact hx
          obtain ⟨y, hy, hv⟩ := hcells i x this
          refine ⟨y, ?_, hv⟩
          simp only [putCells, Array.getElem?_mapIdx, hy, Option.map_some]
          rw [if_neg (by simp; omega)]
        ·intro j hj
         rw [e1, Array.getElem?_modify, if_neg (fun q => hj q.symm)]
        ·rw [e1]; simp
       have hb2 : Below (putRowK enc79 3 (Sort.ahead w m) (ρ b).g ((ρ b).off + 0) ys.toArray).heap.size (putRowK enc79 3 (Sort.ahead w m) (ρ b).g ((ρ b).off + 0) ys.toArray) (Sort.grow (putRowK enc79 3 (Sort.ahead w m) (ρ b).g ((ρ b).off + 0) ys.toArray) os) :=
        ⟨rfl, rfl, rfl, by simp [Sort.grow], fun k hk => by simp only [Sort.grow]; rw [Array.getElem?_append_left hk]⟩
       refine ⟨U, ρ, Ext.refl _ _ _, hr1.still hb2, .tup _ _ .nil, Below.trans (b := putRowK enc79 3 (Sort.ahead w m) (ρ b).g ((ρ b).off + 0) ys.toArray) ⟨rfl, rfl, rfl, by rw [e1]; simp, fun k hk => ?_⟩ (hb2.mono (by rw [e1]; simpa using hr.base))⟩
       rw [e1, Array.getElem?_modify, if_neg ?_]
       have := hr.own _ _ hb hro
       omega
   ·simp at h
  ·simp at h
 ·simp only [Option.some.injEq, Prod.mk.injEq] at h
  obtain ⟨rfl, rfl⟩ := h
  cases hl with
  | cons _ v1 _ l1 q1 q2 => cases q2 with
   | cons _ v2 _ l2 q3 q4 =>
    cases q4
    obtain rfl := VR.fn_inv q3
    cases q1
    refine (AnyF.slices_SortFunc_none sort92_lays none 0 _ w).mono ?_
    rintro e w' ⟨rfl, rfl⟩
    exact ⟨_, rfl, U, ρ, Ext.refl _ _ _, hr, .tup _ _ .nil, Below.refl _ _⟩
 ·simp at h
theorem orcSort_ok : OrcOK Try.prog orcSort := by
 intro f g hf ro args st v st' h
 unfold orcSort at hf
 split at hf
 ·rename_i q
  obtain rfl := Nat.eq_of_beq_eq_true q
  obtain rfl := Option.some.inj hf
  exact ⟨⟨_, Try.func92, rfl⟩, fun B U ρ w args' hr hl => or92_ok h hr hl⟩
 ·simp at hf
end Go.Proofs.Ytiaiecfnpompcaa.T
namespace Go.Proofs.Ytiaiecfnpompcaa.T
open Go Go.RowKit Go.Proofs.Ytiaiecfnpompcaa.Ab
set_option linter.unusedVariables false
set_option linter.unusedSimpArgs false
def wr12 (f : FuncId) : Bool := Nat.beq f 65 || Nat.beq f 92 || Nat.beq f 58 || Nat.beq f 105 || Nat.beq f 111
def eqS (s t : St) : Bool := Nat.beq s.next t.next && eqL (fun p q => Nat.beq p.1 q.1 && eqB p.2 q.2) s.mem t.mem
theorem eqS_eq {s t : St} (h : eqS s t = true) : s = t := by
  obtain ⟨n, m⟩ := s
  obtain ⟨n', m'⟩ := t
  simp only [eqS, Bool.and_eq_true] at h
  rw [Nat.eq_of_beq_eq_true h.1, eqL_eq (fun x y q => ?_) h.2]
  simp only [Bool.and_eq_true] at q
  obtain ⟨b, k⟩ := x
  obtain ⟨b', k'⟩ := y
  simp only at q
  rw [Nat.eq_of_beq_eq_true q.1, eqB_eq q.2]
def hit (r0 : Nat) (a0 : List Value) (s0 : St) (r : Value × St) (ro : Nat) (args : List Value) (st : St) : Ans :=
  match Nat.beq ro r0, eqL (eqV 8) args a0, eqS st s0 with
  | true, true, true => some r
  | _, _, _ => none
theorem noNum (f : Nat) (fn : Func) (h : Try.prog.funcs[f]? = some fn) : (fn.name == "runtime.NumGoroutine") = false := by
  have hall : Try.prog.funcs.toList.all (fun fn => !(fn.name == "runtime.NumGoroutine")) = true := by kernel_rfl
  rw [List.all_eq_true] at hall
  have := hall fn (by simpa using Array.mem_of_getElem? h)
  simpa using this
def yes : Option (Value × St) → Bool
  | some (.bool b, _) => b
  | _ => false
theorem yes_some {x : Option (Value × St)} (h : yes x = true) : ∃ st, x = some (.bool true, st) := by
  unfold yes at h
  split at h
  · exact ⟨_, by rw [h]⟩
  · simp at h
theorem hit_ok {f : FuncId} {r0 : Nat} {a0 : List Value} {s0 : St} {r : Value × St} (h : aCall Try.prog orcSort wr12 1000 60 r0 (.fn f) a0 s0 = some r) {ro : Nat} {args : List Value} {st : St} {v : Value} {st' : St} (hh : hit r0 a0 s0 r ro args st = some (v, st')) :
    (∃ fn, Try.prog.funcs[f]? = some fn ∧ fn.body.isSome = true) ∧
    ∀ B U ρ w args', HR B ro U ρ st.next st.mem w → VL U ρ args args' → Calls Try.prog f ⟨args'⟩ w fun e w' => ∃ v', e = .returned v' ∧ Post B ro U ρ st.next w v st' v' w' := by
  unfold hit at hh
  split at hh
  · rename_i h1 h2 h3
    obtain rfl := Nat.eq_of_beq_eq_true h1
    obtain rfl := eqL_eq (eqV_eq 8) h2
    obtain rfl := eqS_eq h3
    obtain rfl := Option.some.inj hh
    obtain ⟨⟨fn, g1, g2, g3⟩, g4⟩ := aCall_ok (wr := wr12) (by kernel_rfl) noNum orcSort_ok 1000 60 ro (.fn f) args st v st' h
    exact ⟨⟨fn, g1, g3⟩, g4⟩
  · simp at hh
end Go.Proofs.Ytiaiecfnpompcaa.T
namespace Go.Proofs.Ytiaiecfnpompcaa.T
open Go Go.RowKit Go.Proofs.Ytiaiecfnpompcaa.Ab
def m17.o : Nat := 0
def m17.a : List Value := [Value.agg { toList := [Value.slice (some { block := 0, off := 0 }) 5 1, Value.int IntKind.i64 300, Value.int IntKind.i64 500] }, Value.int IntKind.i64 1000, Value.int IntKind.i64 600]
def m17.s : St := { next := 2, mem := [(1, Blk.c [Value.slice (some { block := 0, off := 0 }) 5 1, Value.int IntKind.i64 300, Value.int IntKind.i64 500]), (0, Blk.c [Value.int IntKind.i64 900, Value.int IntKind.i64 800, Value.int IntKind.i64 700, Value.int IntKind.i64 600, Value.int IntKind.i64 500])] }
def m17.r : Value × St := (Value.tuple { toList := [Value.slice (some { block := 399, off := 0 }) 4 2, Value.int IntKind.i64 0] }, { next := 403, mem := [(399, Blk.c [Value.int IntKind.i64 900, Value.bool false, Value.int IntKind.i64 800, Value.bool false, Value.int IntKind.i64 700, Value.bool true, Value.int IntKind.i64 600, Value.bool false]), (1, Blk.c [Value.slice (some { block := 0, off := 0 }) 5 1, Value.int IntKind.i64 300, Value.int IntKind.i64 500]), (0, Blk.c [Value.int IntKind.i64 900, Value.int IntKind.i64 800, Value.int IntKind.i64 700, Value.int IntKind.i64 600, Value.int IntKind.i64 500])] })
set_option maxRecDepth 1000000 in
theorem m17.ok : aCall Try.prog orcSort wr12 1000 60 m17.o (.fn 17) m17.a m17.s = some m17.r := by kernel_rfl
end Go.Proofs.Ytiaiecfnpompcaa.T
namespace Go.Proofs.Ytiaiecfnpompcaa.T
open Go Go.RowKit Go.Proofs.Ytiaiecfnpompcaa.Ab
def m28.o : Nat := 0
def m28.a : List Value := [Value.slice (some { block := 456, off := 0 }) 3 1, Value.slice (some { block := 457, off := 0 }) 4 1]
def m28.s : St := { next := 458, mem := [(457, Blk.c [Value.int IntKind.i64 40, Value.int IntKind.i64 30, Value.int IntKind.i64 50, Value.int IntKind.i64 30]), (456, Blk.c [Value.int IntKind.i64 100, Value.int IntKind.i64 60, Value.int IntKind.i64 50]), (455, Blk.c [Value.int IntKind.i64 (-730), Value.int IntKind.i64 106000]), (426, Blk.c [Value.int IntKind.i64 458, Value.int IntKind.i64 471]), (403, Blk.c [Value.int IntKind.i64 130, Value.int IntKind.i64 60, Value.int IntKind.i64 80, Value.int IntKind.i64 300]), (399, Blk.c [Value.int IntKind.i64 900, Value.bool false, Value.int IntKind.i64 800, Value.bool false, Value.int IntKind.i64 700, Value.bool true, Value.int IntKind.i64 600, Value.bool false]), (1, Blk.c [Value.slice (some { block := 0, off := 0 }) 5 1, Value.int IntKind.i64 300, Value.int IntKind.i64 500]), (0, Blk.c [Value.int IntKind.i64 900, Value.int IntKind.i64 800, Value.int IntKind.i64 700, Value.int IntKind.i64 600, Value.int IntKind.i64 500])] }
def m28.r : Value × St := (Value.tuple { toList := [Value.slice (some { block := 479, off := 0 }) 4 1, Value.int IntKind.i64 0] }, { next := 511, mem := [(479, Blk.c [Value.int IntKind.i64 0, Value.int IntKind.i64 0, Value.int IntKind.i64 1, Value.int IntKind.i64 0]), (457, Blk.c [Value.int IntKind.i64 40, Value.int IntKind.i64 30, Value.int IntKind.i64 50, Value.int IntKind.i64 30]), (456, Blk.c [Value.int IntKind.i64 100, Value.int IntKind.i64 60, Value.int IntKind.i64 50]), (455, Blk.c [Value.int IntKind.i64 (-730), Value.int IntKind.i64 106000]), (426, Blk.c [Value.int IntKind.i64 458, Value.int IntKind.i64 471]), (403, Blk.c [Value.int IntKind.i64 130, Value.int IntKind.i64 60, Value.int IntKind.i64 80, Value.int IntKind.i64 300]), (399, Blk.c [Value.int IntKind.i64 900, Value.bool false, Value.int IntKind.i64 800, Value.bool false, Value.int IntKind.i64 700, Value.bool true, Value.int IntKind.i64 600, Value.bool false]), (1, Blk.c [Value.slice (some { block := 0, off := 0 }) 5 1, Value.int IntKind.i64 300, Value.int IntKind.i64 500]), (0, Blk.c [Value.int IntKind.i64 900, Value.int IntKind.i64 800, Value.int IntKind.i64 700, Value.int IntKind.i64 600, Value.int IntKind.i64 500])] })
set_option maxRecDepth 1000000 in
theorem m28.ok : aCall Try.prog orcSort wr12 1000 60 m28.o (.fn 28) m28.a m28.s = some m28.r := by kernel_rfl
end Go.Proofs.Ytiaiecfnpompcaa.T
namespace Go.Proofs.Ytiaiecfnpompcaa.T
open Go Go.RowKit Go.Proofs.Ytiaiecfnpompcaa.Ab
def m33.o : Nat := 513
def m33.a : List Value := [Value.slice (some { block := 512, off := 0 }) 3 5, Value.agg { toList := [Value.int IntKind.i64 1, Value.int IntKind.i64 9, Value.int IntKind.i64 10] }]
def m33.s : St := { next := 513, mem := [(512, Blk.c [Value.int IntKind.i64 1, Value.int IntKind.i64 0, Value.int IntKind.i64 9, Value.int IntKind.i64 5, Value.int IntKind.i64 2, Value.int IntKind.i64 1, Value.int IntKind.i64 10, Value.int IntKind.i64 19, Value.int IntKind.i64 6, Value.int IntKind.i64 2, Value.int IntKind.i64 2, Value.int IntKind.i64 0, Value.int IntKind.i64 19, Value.int IntKind.i64 6, Value.int IntKind.i64 3]), (511, Blk.c [Value.int IntKind.i64 1, Value.int IntKind.i64 9, Value.int IntKind.i64 10]), (479, Blk.c [Value.int IntKind.i64 0, Value.int IntKind.i64 0, Value.int IntKind.i64 1, Value.int IntKind.i64 0]), (457, Blk.c [Value.int IntKind.i64 40, Value.int IntKind.i64 30, Value.int IntKind.i64 50, Value.int IntKind.i64 30]), (456, Blk.c [Value.int IntKind.i64 100, Value.int IntKind.i64 60, Value.int IntKind.i64 50]), (455, Blk.c [Value.int IntKind.i64 (-730), Value.int IntKind.i64 106000]), (426, Blk.c [Value.int IntKind.i64 458, Value.int IntKind.i64 471]), (403, Blk.c [Value.int IntKind.i64 130, Value.int IntKind.i64 60, Value.int IntKind.i64 80, Value.int IntKind.i64 300]), (399, Blk.c [Value.int IntKind.i64 900, Value.bool false, Value.int IntKind.i64 800, Value.bool false, Value.int IntKind.i64 700, Value.bool true, Value.int IntKind.i64 600, Value.bool false]), (1, Blk.c [Value.slice (some { block := 0, off := 0 }) 5 1, Value.int IntKind.i64 300, Value.int IntKind.i64 500]), (0, Blk.c [Value.int IntKind.i64 900, Value.int IntKind.i64 800, Value.int IntKind.i64 700, Value.int IntKind.i64 600, Value.int IntKind.i64 500])] }
def m33.r : Value × St := (Value.tuple { toList := [Value.slice (some { block := 573, off := 0 }) 5 3, Value.int IntKind.i64 0] }, { next := 574, mem := [(573, Blk.c [Value.int IntKind.i64 1, Value.int IntKind.i64 0, Value.int IntKind.i64 5, Value.int IntKind.i64 1, Value.int IntKind.i64 0, Value.int IntKind.i64 6, Value.int IntKind.i64 2, Value.int IntKind.i64 0, Value.int IntKind.i64 2, Value.int IntKind.i64 3, Value.int IntKind.i64 1, Value.int IntKind.i64 9, Value.int IntKind.i64 3, Value.int IntKind.i64 1, Value.int IntKind.i64 10]), (512, Blk.c [Value.int IntKind.i64 1, Value.int IntKind.i64 0, Value.int IntKind.i64 9, Value.int IntKind.i64 5, Value.int IntKind.i64 2, Value.int IntKind.i64 1, Value.int IntKind.i64 10, Value.int IntKind.i64 19, Value.int IntKind.i64 6, Value.int IntKind.i64 2, Value.int IntKind.i64 2, Value.int IntKind.i64 0, Value.int IntKind.i64 19, Value.int IntKind.i64 6, Value.int IntKind.i64 3]), (511, Blk.c [Value.int IntKind.i64 1, Value.int IntKind.i64 9, Value.int IntKind.i64 10]), (479, Blk.c [Value.int IntKind.i64 0, Value.int IntKind.i64 0, Value.int IntKind.i64 1, Value.int IntKind.i64 0]), (457, Blk.c [Value.int IntKind.i64 40, Value.int IntKind.i64 30, Value.int IntKind.i64 50, Value.int IntKind.i64 30]), (456, Blk.c [Value.int IntKind.i64 100, Value.int IntKind.i64 60, Value.int IntKind.i64 50]), (455, Blk.c [Value.int IntKind.i64 (-730), Value.int IntKind.i64 106000]), (426, Blk.c [Value.int IntKind.i64 458, Value.int IntKind.i64 471]), (403, Blk.c [Value.int IntKind.i64 130, Value.int IntKind.i64 60, Value.int IntKind.i64 80, Value.int IntKind.i64 300]), (399, Blk.c [Value.int IntKind.i64 900, Value.bool false, Value.int IntKind.i64 800, Value.bool false, Value.int IntKind.i64 700, Value.bool true, Value.int IntKind.i64 600, Value.bool false]), (1, Blk.c [Value.slice (some { block := 0, off := 0 }) 5 1, Value.int IntKind.i64 300, Value.int IntKind.i64 500]), (0, Blk.c [Value.int IntKind.i64 900, Value.int IntKind.i64 800, Value.int IntKind.i64 700, Value.int IntKind.i64 600, Value.int IntKind.i64 500])] })
set_option maxRecDepth 1000000 in
theorem m33.ok : aCall Try.prog orcSort wr12 1000 60 m33.o (.fn 33) m33.a m33.s = some m33.r := by kernel_rfl
end Go.Proofs.Ytiaiecfnpompcaa.T
namespace Go.Proofs.Ytiaiecfnpompcaa.T
open Go Go.RowKit Go.Proofs.Ytiaiecfnpompcaa.Ab
def m40.o : Nat := 0
def m40.a : List Value := [Value.slice (some { block := 575, off := 0 }) 3 5, Value.slice (some { block := 577, off := 0 }) 2 3, Value.slice none 0 0]
def m40.s : St := { next := 578, mem := [(577, Blk.c [Value.int IntKind.i64 1, Value.int IntKind.i64 9, Value.int IntKind.i64 10, Value.int IntKind.i64 2, Value.int IntKind.i64 0, Value.int IntKind.i64 3]), (575, Blk.c [Value.int IntKind.i64 1, Value.int IntKind.i64 0, Value.int IntKind.i64 9, Value.int IntKind.i64 5, Value.int IntKind.i64 2, Value.int IntKind.i64 1, Value.int IntKind.i64 10, Value.int IntKind.i64 19, Value.int IntKind.i64 6, Value.int IntKind.i64 2, Value.int IntKind.i64 2, Value.int IntKind.i64 0, Value.int IntKind.i64 19, Value.int IntKind.i64 6, Value.int IntKind.i64 3]), (574, Blk.c [Value.int IntKind.i64 1, Value.int IntKind.i64 9, Value.int IntKind.i64 10, Value.int IntKind.i64 2, Value.int IntKind.i64 0, Value.int IntKind.i64 3]), (512, Blk.c [Value.int IntKind.i64 1, Value.int IntKind.i64 0, Value.int IntKind.i64 9, Value.int IntKind.i64 5, Value.int IntKind.i64 2, Value.int IntKind.i64 1, Value.int IntKind.i64 10, Value.int IntKind.i64 19, Value.int IntKind.i64 6, Value.int IntKind.i64 2, Value.int IntKind.i64 2, Value.int IntKind.i64 0, Value.int IntKind.i64 19, Value.int IntKind.i64 6, Value.int IntKind.i64 3]), (573, Blk.c [Value.int IntKind.i64 1, Value.int IntKind.i64 0, Value.int IntKind.i64 5, Value.int IntKind.i64 1, Value.int IntKind.i64 0, Value.int IntKind.i64 6, Value.int IntKind.i64 2, Value.int IntKind.i64 0, Value.int IntKind.i64 2, Value.int IntKind.i64 3, Value.int IntKind.i64 1, Value.int IntKind.i64 9, Value.int IntKind.i64 3, Value.int IntKind.i64 1, Value.int IntKind.i64 10]), (511, Blk.c [Value.int IntKind.i64 1, Value.int IntKind.i64 9, Value.int IntKind.i64 10]), (479, Blk.c [Value.int IntKind.i64 0, Value.int IntKind.i64 0, Value.int IntKind.i64 1, Value.int IntKind.i64 0]), (457, Blk.c [Value.int IntKind.i64 40, Value.int IntKind.i64 30, Value.int IntKind.i64 50, Value.int IntKind.i64 30]), (456, Blk.c [Value.int IntKind.i64 100, Value.int IntKind.i64 60, Value.int IntKind.i64 50]), (455, Blk.c [Value.int IntKind.i64 (-730), Value.int IntKind.i64 106000]), (426, Blk.c [Value.int IntKind.i64 458, Value.int IntKind.i64 471]), (403, Blk.c [Value.int IntKind.i64 130, Value.int IntKind.i64 60, Value.int IntKind.i64 80, Value.int IntKind.i64 300]), (399, Blk.c [Value.int IntKind.i64 900, Value.bool false, Value.int IntKind.i64 800, Value.bool false, Value.int IntKind.i64 700, Value.bool true, Value.int IntKind.i64 600, Value.bool false]), (1, Blk.c [Value.slice (some { block := 0, off := 0 }) 5 1, Value.int IntKind.i64 300, Value.int IntKind.i64 500]), (0, Blk.c [Value.int IntKind.i64 900, Value.int IntKind.i64 800, Value.int IntKind.i64 700, Value.int IntKind.i64 600, Value.int IntKind.i64 500])] }
def m40.r : Value × St := (Value.tuple { toList := [Value.slice (some { block := 653, off := 0 }) 1 3, Value.int IntKind.i64 0] }, { next := 654, mem := [(653, Blk.c [Value.int IntKind.i64 1, Value.int IntKind.i64 0, Value.int IntKind.i64 6]), (577, Blk.c [Value.int IntKind.i64 1, Value.int IntKind.i64 9, Value.int IntKind.i64 10, Value.int IntKind.i64 2, Value.int IntKind.i64 0, Value.int IntKind.i64 3]), (575, Blk.c [Value.int IntKind.i64 1, Value.int IntKind.i64 0, Value.int IntKind.i64 9, Value.int IntKind.i64 5, Value.int IntKind.i64 2, Value.int IntKind.i64 1, Value.int IntKind.i64 10, Value.int IntKind.i64 19, Value.int IntKind.i64 6, Value.int IntKind.i64 2, Value.int IntKind.i64 2, Value.int IntKind.i64 0, Value.int IntKind.i64 19, Value.int IntKind.i64 6, Value.int IntKind.i64 3]), (574, Blk.c [Value.int IntKind.i64 1, Value.int IntKind.i64 9, Value.int IntKind.i64 10, Value.int IntKind.i64 2, Value.int IntKind.i64 0, Value.int IntKind.i64 3]), (512, Blk.c [Value.int IntKind.i64 1, Value.int IntKind.i64 0, Value.int IntKind.i64 9, Value.int IntKind.i64 5, Value.int IntKind.i64 2, Value.int IntKind.i64 1, Value.int IntKind.i64 10, Value.int IntKind.i64 19, Value.int IntKind.i64 6, Value.int IntKind.i64 2, Value.int IntKind.i64 2, Value.int IntKind.i64 0, Value.int IntKind.i64 19, Value.int IntKind.i64 6, Value.int IntKind.i64 3]), (573, Blk.c [Value.int IntKind.i64 1, Value.int IntKind.i64 0, Value.int IntKind.i64 5, Value.int IntKind.i64 1, Value.int IntKind.i64 0, Value.int IntKind.i64 6, Value.int IntKind.i64 2, Value.int IntKind.i64 0, Value.int IntKind.i64 2, Value.int IntKind.i64 3, Value.int IntKind.i64 1, Value.int IntKind.i64 9, Value.int IntKind.i64 3, Value.int IntKind.i64 1, Value.int IntKind.i64 10]), (511, Blk.c [Value.int IntKind.i64 1, Value.int IntKind.i64 9, Value.int IntKind.i64 10]), (479, Blk.c [Value.int IntKind.i64 0, Value.int IntKind.i64 0, Value.int IntKind.i64 1, Value.int IntKind.i64 0]), (457, Blk.c [Value.int IntKind.i64 40, Value.int IntKind.i64 30, Value.int IntKind.i64 50, Value.int IntKind.i64 30]), (456, Blk.c [Value.int IntKind.i64 100, Value.int IntKind.i64 60, Value.int IntKind.i64 50]), (455, Blk.c [Value.int IntKind.i64 (-730), Value.int IntKind.i64 106000]), (426, Blk.c [Value.int IntKind.i64 458, Value.int IntKind.i64 471]), (403, Blk.c [Value.int IntKind.i64 130, Value.int IntKind.i64 60, Value.int IntKind.i64 80, Value.int IntKind.i64 300]), (399, Blk.c [Value.int IntKind.i64 900, Value.bool false, Value.int IntKind.i64 800, Value.bool false, Value.int IntKind.i64 700, Value.bool true, Value.int IntKind.i64 600, Value.bool false]), (1, Blk.c [Value.slice (some { block := 0, off := 0 }) 5 1, Value.int IntKind.i64 300, Value.int IntKind.i64 500]), (0, Blk.c [Value.int IntKind.i64 900, Value.int IntKind.i64 800, Value.int IntKind.i64 700, Value.int IntKind.i64 600, Value.int IntKind.i64 500])] })
set_option maxRecDepth 1000000 in
theorem m40.ok : aCall Try.prog orcSort wr12 1000 60 m40.o (.fn 40) m40.a m40.s = some m40.r := by kernel_rfl
end Go.Proofs.Ytiaiecfnpompcaa.T
namespace Go.Proofs.Ytiaiecfnpompcaa.T
open Go Go.RowKit Go.Proofs.Ytiaiecfnpompcaa.Ab
def m44.o : Nat := 0
def m44.a : List Value := [Value.slice (some { block := 728, off := 0 }) 3 5, Value.slice (some { block := 574, off := 0 }) 2 3, Value.slice none 0 0, Value.slice (some { block := 729, off := 0 }) 2 3]
def m44.s : St := { next := 730, mem := [(729, Blk.c [Value.int IntKind.i64 1, Value.int IntKind.i64 0, Value.int IntKind.i64 5, Value.int IntKind.i64 2, Value.int IntKind.i64 5, Value.int IntKind.i64 5]), (728, Blk.c [Value.int IntKind.i64 1, Value.int IntKind.i64 0, Value.int IntKind.i64 9, Value.int IntKind.i64 5, Value.int IntKind.i64 2, Value.int IntKind.i64 1, Value.int IntKind.i64 10, Value.int IntKind.i64 19, Value.int IntKind.i64 6, Value.int IntKind.i64 2, Value.int IntKind.i64 2, Value.int IntKind.i64 0, Value.int IntKind.i64 19, Value.int IntKind.i64 6, Value.int IntKind.i64 3]), (727, Blk.c [Value.int IntKind.i64 1]), (655, Blk.c [Value.int IntKind.i64 1, Value.int IntKind.i64 0, Value.int IntKind.i64 5, Value.int IntKind.i64 1, Value.int IntKind.i64 5, Value.int IntKind.i64 15]), (654, Blk.c [Value.int IntKind.i64 1, Value.int IntKind.i64 0, Value.int IntKind.i64 9, Value.int IntKind.i64 5, Value.int IntKind.i64 2, Value.int IntKind.i64 1, Value.int IntKind.i64 10, Value.int IntKind.i64 19, Value.int IntKind.i64 6, Value.int IntKind.i64 2, Value.int IntKind.i64 2, Value.int IntKind.i64 0, Value.int IntKind.i64 19, Value.int IntKind.i64 6, Value.int IntKind.i64 3]), (653, Blk.c [Value.int IntKind.i64 1, Value.int IntKind.i64 0, Value.int IntKind.i64 6]), (577, Blk.c [Value.int IntKind.i64 1, Value.int IntKind.i64 9, Value.int IntKind.i64 10, Value.int IntKind.i64 2, Value.int IntKind.i64 0, Value.int IntKind.i64 3]), (575, Blk.c [Value.int IntKind.i64 1, Value.int IntKind.i64 0, Value.int IntKind.i64 9, Value.int IntKind.i64 5, Value.int IntKind.i64 2, Value.int IntKind.i64 1, Value.int IntKind.i64 10, Value.int IntKind.i64 19, Value.int IntKind.i64 6, Value.int IntKind.i64 2, Value.int IntKind.i64 2, Value.int IntKind.i64 0, Value.int IntKind.i64 19, Value.int IntKind.i64 6, Value.int IntKind.i64 3]), (574, Blk.c [Value.int IntKind.i64 1, Value.int IntKind.i64 9, Value.int IntKind.i64 10, Value.int IntKind.i64 2, Value.int IntKind.i64 0, Value.int IntKind.i64 3]), (512, Blk.c [Value.int IntKind.i64 1, Value.int IntKind.i64 0, Value.int IntKind.i64 9, Value.int IntKind.i64 5, Value.int IntKind.i64 2, Value.int IntKind.i64 1, Value.int IntKind.i64 10, Value.int IntKind.i64 19, Value.int IntKind.i64 6, Value.int IntKind.i64 2, Value.int IntKind.i64 2, Value.int IntKind.i64 0, Value.int IntKind.i64 19, Value.int IntKind.i64 6, Value.int IntKind.i64 3]), (573, Blk.c [Value.int IntKind.i64 1, Value.int IntKind.i64 0, Value.int IntKind.i64 5, Value.int IntKind.i64 1, Value.int IntKind.i64 0, Value.int IntKind.i64 6, Value.int IntKind.i64 2, Value.int IntKind.i64 0, Value.int IntKind.i64 2, Value.int IntKind.i64 3, Value.int IntKind.i64 1, Value.int IntKind.i64 9, Value.int IntKind.i64 3, Value.int IntKind.i64 1, Value.int IntKind.i64 10]), (511, Blk.c [Value.int IntKind.i64 1, Value.int IntKind.i64 9, Value.int IntKind.i64 10]), (479, Blk.c [Value.int IntKind.i64 0, Value.int IntKind.i64 0, Value.int IntKind.i64 1, Value.int IntKind.i64 0]), (457, Blk.c [Value.int IntKind.i64 40, Value.int IntKind.i64 30, Value.int IntKind.i64 50, Value.int IntKind.i64 30]), (456, Blk.c [Value.int IntKind.i64 100, Value.int IntKind.i64 60, Value.int IntKind.i64 50]), (455, Blk.c [Value.int IntKind.i64 (-730), Value.int IntKind.i64 106000]), (426, Blk.c [Value.int IntKind.i64 458, Value.int IntKind.i64 471]), (403, Blk.c [Value.int IntKind.i64 130, Value.int IntKind.i64 60, Value.int IntKind.i64 80, Value.int IntKind.i64 300]), (399, Blk.c [Value.int IntKind.i64 900, Value.bool false, Value.int IntKind.i64 800, Value.bool false, Value.int IntKind.i64 700, Value.bool true, Value.int IntKind.i64 600, Value.bool false]), (1, Blk.c [Value.slice (some { block := 0, off := 0 }) 5 1, Value.int IntKind.i64 300, Value.int IntKind.i64 500]), (0, Blk.c [Value.int IntKind.i64 900, Value.int IntKind.i64 800, Value.int IntKind.i64 700, Value.int IntKind.i64 600, Value.int IntKind.i64 500])] }
def m44.r : Value × St := (Value.tuple { toList := [Value.int IntKind.i64 0, Value.int IntKind.i64 1, Value.int IntKind.i64 0] }, { next := 843, mem := [(729, Blk.c [Value.int IntKind.i64 1, Value.int IntKind.i64 0, Value.int IntKind.i64 5, Value.int IntKind.i64 2, Value.int IntKind.i64 5, Value.int IntKind.i64 5]), (728, Blk.c [Value.int IntKind.i64 1, Value.int IntKind.i64 0, Value.int IntKind.i64 9, Value.int IntKind.i64 5, Value.int IntKind.i64 2, Value.int IntKind.i64 1, Value.int IntKind.i64 10, Value.int IntKind.i64 19, Value.int IntKind.i64 6, Value.int IntKind.i64 2, Value.int IntKind.i64 2, Value.int IntKind.i64 0, Value.int IntKind.i64 19, Value.int IntKind.i64 6, Value.int IntKind.i64 3]), (727, Blk.c [Value.int IntKind.i64 1]), (655, Blk.c [Value.int IntKind.i64 1, Value.int IntKind.i64 0, Value.int IntKind.i64 5, Value.int IntKind.i64 1, Value.int IntKind.i64 5, Value.int IntKind.i64 15]), (654, Blk.c [Value.int IntKind.i64 1, Value.int IntKind.i64 0, Value.int IntKind.i64 9, Value.int IntKind.i64 5, Value.int IntKind.i64 2, Value.int IntKind.i64 1, Value.int IntKind.i64 10, Value.int IntKind.i64 19, Value.int IntKind.i64 6, Value.int IntKind.i64 2, Value.int IntKind.i64 2, Value.int IntKind.i64 0, Value.int IntKind.i64 19, Value.int IntKind.i64 6, Value.int IntKind.i64 3]), (653, Blk.c [Value.int IntKind.i64 1, Value.int IntKind.i64 0, Value.int IntKind.i64 6]), (577, Blk.c [Value.int IntKind.i64 1, Value.int IntKind.i64 9, Value.int IntKind.i64 10, Value.int IntKind.i64 2, Value.int IntKind.i64 0, Value.int IntKind.i64 3]), (575, Blk.c [Value.int IntKind.i64 1, Value.int IntKind.i64 0, Value.int IntKind.i64 9, Value.int IntKind.i64 5, Value.int IntKind.i64 2, Value.int IntKind.i64 1, Value.int IntKind.i64 10, Value.int IntKind.i64 19, Value.int IntKind.i64 6, Value.int IntKind.i64 2, Value.int IntKind.i64 2, Value.int IntKind.i64 0, Value.int IntKind.i64 19, Value.int IntKind.i64 6, Value.int IntKind.i64 3]), (574, Blk.c [Value.int IntKind.i64 1, Value.int IntKind.i64 9, Value.int IntKind.i64 10, Value.int IntKind.i64 2, Value.int IntKind.i64 0, Value.int IntKind.i64 3]), (512, Blk.c [Value.int IntKind.i64 1, Value.int IntKind.i64 0, Value.int IntKind.i64 9, Value.int IntKind.i64 5, Value.int IntKind.i64 2, Value.int IntKind.i64 1, Value.int IntKind.i64 10, Value.int IntKind.i64 19, Value.int IntKind.i64 6, Value.int IntKind.i64 2, Value.int IntKind.i64 2, Value.int IntKind.i64 0, Value.int IntKind.i64 19, Value.int IntKind.i64 6, Value.int IntKind.i64 3]), (573, Blk.c [Value.int IntKind.i64 1, Value.int IntKind.i64 0, Value.int IntKind.i64 5, Value.int IntKind.i64 1, Value.int IntKind.i64 0, Value.int IntKind.i64 6, Value.int IntKind.i64 2, Value.int IntKind.i64 0, Value.int IntKind.i64 2, Value.int IntKind.i64 3, Value.int IntKind.i64 1, Value.int IntKind.i64 9, Value.int IntKind.i64 3, Value.int IntKind.i64 1, Value.int IntKind.i64 10]), (511, Blk.c [Value.int IntKind.i64 1, Value.int IntKind.i64 9, Value.int IntKind.i64 10]), (479, Blk.c [Value.int IntKind.i64 0, Value.int IntKind.i64 0, Value.int IntKind.i64 1, Value.int IntKind.i64 0]), (457, Blk.c [Value.int IntKind.i64 40, Value.int IntKind.i64 30, Value.int IntKind.i64 50, Value.int IntKind.i64 30]), (456, Blk.c [Value.int IntKind.i64 100, Value.int IntKind.i64 60, Value.int IntKind.i64 50]), (455, Blk.c [Value.int IntKind.i64 (-730), Value.int IntKind.i64 106000]), (426, Blk.c [Value.int IntKind.i64 458, Value.int IntKind.i64 471]), (403, Blk.c [Value.int IntKind.i64 130, Value.int IntKind.i64 60, Value.int IntKind.i64 80, Value.int IntKind.i64 300]), (399, Blk.c [Value.int IntKind.i64 900, Value.bool false, Value.int IntKind.i64 800, Value.bool false, Value.int IntKind.i64 700, Value.bool true, Value.int IntKind.i64 600, Value.bool false]), (1, Blk.c [Value.slice (some { block := 0, off := 0 }) 5 1, Value.int IntKind.i64 300, Value.int IntKind.i64 500]), (0, Blk.c [Value.int IntKind.i64 900, Value.int IntKind.i64 800, Value.int IntKind.i64 700, Value.int IntKind.i64 600, Value.int IntKind.i64 500])] })
set_option maxRecDepth 1000000 in
theorem m44.ok : aCall Try.prog orcSort wr12 1000 60 m44.o (.fn 44) m44.a m44.s = some m44.r := by kernel_rfl
end Go.Proofs.Ytiaiecfnpompcaa.T
namespace Go.Proofs.Ytiaiecfnpompcaa.T
open Go Go.RowKit Go.Proofs.Ytiaiecfnpompcaa.Ab
set_option linter.unusedVariables false
def orc12 (f : FuncId) : Option (Nat → List Value → St → Ans) :=
 match Nat.beq f 17 with
 | true => some (hit m17.o m17.a m17.s m17.r)
 | false =>
  match Nat.beq f 28 with
  | true => some (hit m28.o m28.a m28.s m28.r)
  | false =>
   match Nat.beq f 33 with
   | true => some (hit m33.o m33.a m33.s m33.r)
   | false =>
    match Nat.beq f 40 with
    | true => some (hit m40.o m40.a m40.s m40.r)
    | false =>
     match Nat.beq f 44 with
     | true => some (hit m44.o m44.a m44.s m44.r)
     | false =>
      orcSort f
theorem orc12_ok : OrcOK Try.prog orc12 := by
 intro f g hf ro args st v st' h
 unfold orc12 at hf
 split at hf
 ·rename_i q
  obtain rfl := Nat.eq_of_beq_eq_true q
  obtain rfl := Option.some.inj hf
  exact hit_ok m17.ok h
 split at hf
 ·rename_i q
  obtain rfl := Nat.eq_of_beq_eq_true q
  obtain rfl := Option.some.inj hf
  exact hit_ok m28.ok h
 split at hf
 ·rename_i q
  obtain rfl := Nat.eq_of_beq_eq_true q
  obtain rfl := Option.some.inj hf
  exact hit_ok m33.ok h
 split at hf
 ·rename_i q
  obtain rfl := Nat.eq_of_beq_eq_true q
  obtain rfl := Option.some.inj hf
  exact hit_ok m40.ok h
 split at hf
 ·rename_i q
  obtain rfl := Nat.eq_of_beq_eq_true q
  obtain rfl := Option.some.inj hf
  exact hit_ok m44.ok h
 exact orcSort_ok f g hf ro args st v st' h
set_option maxRecDepth 1000000 in
theorem known_run : yes (aCall Try.prog orc12 wr12 1000 60 0 (.fn 15) [] ⟨0, []⟩) = true := by kernel_rfl
def acmelaw12_known.f : Option Bool := some true
theorem acmelaw12_known.calls (r : Bool) (w : World) (h : acmelaw12_known.f = some r) : Calls Try.prog 15 #[] w fun e w' => e = .returned (.bool r) ∧ Below w.heap.size w w' := by
 obtain rfl : true = r := Option.some.inj h
 obtain ⟨st, hs⟩ := yes_some known_run
 exact run_calls (by kernel_rfl) noNum orc12_ok rfl rfl hs w
end Go.Proofs.Ytiaiecfnpompcaa.T
namespace Go.Proofs.Ytiaiecfnpompcaa.T
open Go.RowKit Go.Maps Go.Proofs.YtiaiecfnpompcaaW.PrintWords Go.Proofs.YtiaiecfnpompcaaW.PrintLast
set_option linter.unusedVariables false
theorem laid_prog : laidOutB Try.prog = true := by kernel_rfl
theorem row79 : (79 : TypeId) < Try.prog.types.size := of_decide_eq_true (by kernel_rfl)
theorem wide79 : (match Try.prog.underlying 79 with | some (.array _ _) | some (.struct _) => true | _ => false) = true := by rw [Try.underlying79]
set_option maxRecDepth 1000000 in
theorem law79' : WideMaps.KeyLaw Try.prog 79 := deep_law_laid laid_prog (m := 2) (by omega) row79 (by kernel_rfl) wide79
theorem law79 : Keyed Try.prog 79 := Keyed.of_law law79'
instance decS79 : DecidableEq S79 := fun a b => decidable_of_iff (a.f0 = b.f0 ∧ a.f1 = b.f1 ∧ a.f2 = b.f2) ⟨fun h => by cases a; cases b; simp at h; simp [h], fun h => by subst h; exact ⟨rfl, rfl, rfl⟩⟩
def vC (x : S79) : Value := .agg #[.int .i64 x.f0, .int .i64 x.f1, .int .i64 x.f2]
def okC (x : S79) : Prop := (Lit.int .i64 x.f0).wf = true ∧ (Lit.int .i64 x.f1).wf = true ∧ (Lit.int .i64 x.f2).wf = true
def litC (x : S79) : Lit := .string (keyBytes [.int .i64 x.f0, .int .i64 x.f1, .int .i64 x.f2])
theorem key79 {x : S79} (h : okC x) : keyOf Try.prog 79 (vC x) = some (litC x) := by
  have hkt : Try.prog.keyType 79 = true := by kernel_rfl
  obtain ⟨m, hm⟩ : ∃ m, Try.prog.types.size = m + 2 := ⟨Try.prog.types.size - 2, by have h : (79 : Nat) < Try.prog.types.size := row79; omega⟩
  have hc : Try.prog.cellsOf 79 = 3 := by kernel_rfl
  have hc3 : Try.prog.cellsOf 3 = 1 := by kernel_rfl
  have hc77 : Try.prog.cellsOf 77 = 1 := by kernel_rfl
  obtain ⟨h0, h1, h2⟩ := h
  unfold keyOf vC
  simp only [Try.underlying79]
  rw [if_pos (by simp [hkt, Value.formed, Try.underlying79, hc]), hm]
  unfold Program.keyLits
  simp only [Try.underlying79, Value.cells]
  rw [if_pos (by rw [hc]; exact ⟨rfl, by simp⟩)]
  simp [hc3, hc77, Program.keyLits, Try.underlying77, Try.underlying3, h0, h1, h2, litC]
theorem vC_inj {x y : S79} (h : vC x = vC y) : x = y := by
  cases x; cases y
  simp [vC] at h
  simp [h]
theorem litC_inj {x y : S79} (hx : okC x) (hy : okC y) (h : litC x = litC y) : x = y := vC_inj (law79.inj (key79 hx) (by rw [h]; exact key79 hy))
theorem litC_same {x y : S79} (hx : okC x) (hy : okC y) : (litC x).sameKey (litC y) = decide (x = y) := by
  by_cases h : x = y
  · subst h; simp [litC, Lit.sameKey]
  · rw [decide_eq_false h]
    have : ¬ litC x = litC y := fun e => h (litC_inj hx hy e)
    simp only [litC, Lit.sameKey] at this ⊢
    simpa using this
def setC (l : List S79) : DataW Unit := setOf (.lit (.bool true)) (l.map litC)
theorem setC_snoc (l : List S79) (x : S79) : setC (l ++ [x]) = (setC l).put (litC x) (.lit (.bool true)) := by
  unfold setC; rw [List.map_append]; exact setOf_snoc _ _ _
theorem setC_nil : setC [] = .map [] := by simp [setC, setOf]
def addC (acc : List S79) (x : S79) : List S79 := if x ∈ acc then acc else acc ++ [x]
def distinctC (l : List S79) : List S79 := l.foldl addC []
theorem foldKey_C : ∀ (l acc : List S79), (∀ x ∈ l, okC x) → (∀ x ∈ acc, okC x) → (l.map litC).foldl addKey (acc.map litC) = (l.foldl addC acc).map litC
  | [], _, _, _ => rfl
  | x :: l, acc, h, ha => by
    have hx := h x (by simp)
    have e : addKey (acc.map litC) (litC x) = (addC acc x).map litC := by
      unfold addKey addC
      have e1 : (acc.map litC).any (fun y => y.sameKey (litC x)) = decide (x ∈ acc) := by
        rw [Bool.eq_iff_iff, List.any_eq_true, decide_eq_true_eq]
        constructor
        · rintro ⟨y, hy, hs⟩
          obtain ⟨z, hz, rfl⟩ := List.mem_map.1 hy
          rw [litC_same (ha z hz) hx, decide_eq_true_eq] at hs
          exact hs ▸ hz
        · intro hm
          exact ⟨litC x, List.mem_map.2 ⟨x, hm, rfl⟩, by rw [litC_same hx hx]; simp⟩
      rw [e1]
      by_cases hm : x ∈ acc
      · rw [if_pos (decide_eq_true hm), if_pos hm]
      · rw [if_neg (by simpa using hm), if_neg hm, List.map_append]; rfl
    show (l.map litC).foldl addKey (addKey (acc.map litC) (litC x)) = _
    rw [e]
    refine foldKey_C l _ (fun y hy => h y (by simp [hy])) ?_
    intro y hy
    unfold addC at hy
    split at hy
    · exact ha y hy
    · rcases List.mem_append.1 hy with q | q
      · exact ha y q
      · rw [List.mem_singleton] at q; subst q; exact hx
theorem size_setC {l : List S79} (h : ∀ x ∈ l, okC x) : Maps.size (setC l) = ((distinctC l).length : Int) := by
  unfold setC
  rw [size_setOf _ _ (fun x hx => by
    obtain ⟨y, hy, rfl⟩ := List.mem_map.1 hx
    exact law79.key (key79 (h y hy)))]
  have := foldKey_C l [] h (fun x hx => by simp at hx)
  rw [List.map_nil] at this
  rw [this]
  simp [distinctC]
theorem has_setC {l : List S79} (h : ∀ x ∈ l, okC x) {x : S79} (hx : okC x) : Maps.has (setC l) (litC x) = decide (x ∈ l) := by
  unfold setC
  rw [has_setOf _ _ _ (fun y hy => by
    obtain ⟨z, hz, rfl⟩ := List.mem_map.1 hy
    exact law79.key (key79 (h z hz)))]
  rw [Bool.eq_iff_iff, List.any_eq_true, decide_eq_true_eq]
  constructor
  · rintro ⟨y, hy, hs⟩
    obtain ⟨z, hz, rfl⟩ := List.mem_map.1 hy
    rw [litC_same (h z hz) hx, decide_eq_true_eq] at hs
    exact hs ▸ hz
  · intro hm
    exact ⟨litC x, List.mem_map.2 ⟨x, hm, rfl⟩, by rw [litC_same hx hx]; simp⟩
end Go.Proofs.Ytiaiecfnpompcaa.T
namespace Go.Proofs.Ytiaiecfnpompcaa.T
open Go.RowKit Go.Maps Go.Proofs.YtiaiecfnpompcaaW.PrintWords Go.Proofs.YtiaiecfnpompcaaW.PrintLast Go.Proofs.YtiaiecfnpompcaaW.PrintMore
set_option linter.unusedVariables false
set_option linter.unusedSimpArgs false
set_option maxRecDepth 100000 in
theorem inv79 (key : Value) (kl : Lit) (h : keyOf Try.prog 79 key = some kl) : ∃ x : {x : S79 // okC x}, key = vC x.1 := by
  have hkt : Try.prog.keyType 79 = true := by kernel_rfl
  obtain ⟨m, hm⟩ : ∃ m, Try.prog.types.size = m + 2 := ⟨Try.prog.types.size - 2, by have h : (79 : Nat) < Try.prog.types.size := row79; omega⟩
  have hc : Try.prog.cellsOf 79 = 3 := by kernel_rfl
  have hc3 : Try.prog.cellsOf 3 = 1 := by kernel_rfl
  have hc77 : Try.prog.cellsOf 77 = 1 := by kernel_rfl
  unfold keyOf at h
  simp only [Try.underlying79] at h
  split at h
  · rename_i hf
    rw [Bool.and_eq_true] at hf
    have hf2 := hf.2
    cases key with
    | agg cs =>
      simp only [Value.formed, Try.underlying79, hc, beq_iff_eq] at hf2
      obtain ⟨l⟩ := cs
      have hl : l.length = 3 := hf2
      clear hf2 hf
      match l, hl with
      | [a, b, c], _ =>
        rw [hm] at h
        unfold Program.keyLits at h
        simp only [Try.underlying79, Value.cells] at h
        rw [if_pos (by rw [hc]; exact ⟨rfl, by simp⟩)] at h
        simp [hc3, hc77, Program.keyLits, Try.underlying77, Try.underlying3] at h
        cases a with
        | int k1 n1 =>
          by_cases e1 : k1 = IntKind.i64 ∧ (Lit.int .i64 n1).wf = true
          · cases b with
            | int k2 n2 =>
              by_cases e2 : k2 = IntKind.i64 ∧ (Lit.int .i64 n2).wf = true
              · cases c with
                | int k3 n3 =>
                  by_cases e3 : k3 = IntKind.i64 ∧ (Lit.int .i64 n3).wf = true
                  · obtain ⟨rfl, q1⟩ := e1
                    obtain ⟨rfl, q2⟩ := e2
                    obtain ⟨rfl, q3⟩ := e3
                    exact ⟨⟨⟨n1, n2, n3⟩, q1, q2, q3⟩, rfl⟩
                  · simp [e1, e2, e3] at h
                | _ => simp [e1, e2] at h
              · simp [e1, e2] at h
            | _ => simp [e1] at h
          · simp [e1] at h
        | _ => simp at h
    | _ => simp [Value.formed, Try.underlying79] at hf2
  · simp at h
theorem invB (v : Value) (y : DataW Unit × List MemPlace) (h : plainElem Try.prog 4 v = some y) : ∃ c : Bool, v = .bool c := by
  cases v <;> simp [plainElem, Try.underlying4] at h
  exact ⟨_, rfl⟩
end Go.Proofs.Ytiaiecfnpompcaa.T
namespace Go.Proofs.Ytiaiecfnpompcaa.T
open Go.RowKit Go.Maps Go.Proofs.YtiaiecfnpompcaaW.PrintWords Go.Proofs.YtiaiecfnpompcaaW.PrintLast Go.Proofs.YtiaiecfnpompcaaW.PrintMore
set_option linter.unusedVariables false
set_option linter.unusedSimpArgs false
theorem distinctC_spec : ∀ (l acc : List S79), acc.Nodup → (l.foldl addC acc).Nodup ∧ ∀ y, y ∈ l.foldl addC acc ↔ y ∈ acc ∨ y ∈ l
  | [], acc, h => ⟨h, by simp⟩
  | x :: l, acc, h => by
    have hn : (addC acc x).Nodup := by
      unfold addC
      split
      · exact h
      · rename_i hx
        rw [List.nodup_append]
        refine ⟨h, by simp, ?_⟩
        intro a ha b hb e
        rw [List.mem_singleton] at hb
        subst hb; subst e
        exact hx ha
    have hm : ∀ y, y ∈ addC acc x ↔ y ∈ acc ∨ y = x := by
      intro y
      unfold addC
      split
      · rename_i hx
        exact ⟨.inl, fun q => q.elim id (fun e => e ▸ hx)⟩
      · simp
    obtain ⟨h1, h2⟩ := distinctC_spec l (addC acc x) hn
    refine ⟨h1, fun y => ?_⟩
    rw [List.foldl_cons, h2, hm, List.mem_cons]
    constructor
    · rintro ((q | q) | q)
      · exact .inl q
      · exact .inr (.inl q)
      · exact .inr (.inr q)
    · rintro (q | q | q)
      · exact .inl (.inl q)
      · exact .inl (.inr q)
      · exact .inr q
theorem addC_len (acc : List S79) (x : S79) : (addC acc x).length ≤ acc.length + 1 := by unfold addC; split <;> simp
theorem distinctC_len : ∀ (l acc : List S79), (l.foldl addC acc).length ≤ acc.length + l.length
  | [], acc => by simp
  | x :: l, acc => by
    have := distinctC_len l (addC acc x)
    have h2 := addC_len acc x
    rw [List.foldl_cons, List.length_cons]; omega
def mkB (i : Int) : Value := .bool (decide (i ≠ 0))
theorem inv79' (key : Value) (kl : Lit) (h : keyOf Try.prog 79 key = some kl) : ∃ x : S79, key = vC x := by
  obtain ⟨x, e⟩ := inv79 key kl h
  exact ⟨x.1, e⟩
theorem okC_of_key {x : S79} {kl : Lit} (h : keyOf Try.prog 79 (vC x) = some kl) : okC x := by
  obtain ⟨y, e⟩ := inv79 _ kl h
  have := vC_inj e
  rw [this]; exact y.2
theorem invB' (v : Value) (y : DataW Unit × List MemPlace) (h : plainElem Try.prog 4 v = some y) : ∃ c : Int, v = mkB c := by
  obtain ⟨c, rfl⟩ := invB v y h
  cases c
  · exact ⟨0, rfl⟩
  · exact ⟨1, rfl⟩
set_option maxHeartbeats 8000000 in
set_option maxRecDepth 100000 in
theorem sorted_calls (B n : Nat) (ks : List S79) (w : World) (hown : w.ownsMap Try.prog 79 (plainElem (H := Unit) Try.prog 4) B n (setC ks)) (hok : ∀ x ∈ ks, okC x) (hlen : ks.length ≤ 1000000) :
    Calls Try.prog 70 #[.map (some B)] w fun e w' => ∃ (v : Value) (l : List S79), e = .returned v ∧ l.Perm (distinctC ks) ∧ Kd.R k79 79 w' w.heap.size (fun _ => True) v (l.mergeSort fun x y => !lt79 y x) ∧ Below w.heap.size w w' := by
  have hBlt := hown.lt
  go_enter Try.func70, Try.ntmps70
  go_wp2_with (first | (at_range; refine wpList_range_own _ rfl _ 149 rfl 79 4 law79 Try.underlying149 _ B n _ rfl hown ?_; intro w0 hrg0 hg0 hs0) | go_in)
  go_frame
  go_loopw [2] (fun v2 wr => ∃ (left : Lit → Bool) (cnt : Nat) (l : List S79), wr.ranges Try.prog 79 (plainElem (H := Unit) Try.prog 4) B w.heap.size n (setC ks) left cnt ∧
      Kd.R k79 79 wr w.heap.size (fun k => some k ≠ some w.heap.size) v2 l ∧ (∀ x ∈ l, okC x ∧ x ∈ ks ∧ left (litC x) = false) ∧ l.Nodup ∧ (∀ x ∈ ks, left (litC x) = false → x ∈ l) ∧ Below w.heap.size w wr ∧ w.heap.size + 1 ≤ wr.heap.size)
    (fun _ wr => wr.rangeLeft B w.heap.size)
  case atStart => exact ⟨_, _, [], hrg0, Kd.R_nil _ _ _ _ _, (fun x hx => by simp at hx), by simp, (fun x hx hf => by rw [has_setC hok (hok x hx), decide_eq_false_iff_not] at hf; exact absurd hx hf), (Below.refl _ _).grown hg0 (Nat.le_refl _) (fun j hj => by cases hj), by omega⟩
  case round =>
    clear hrg0 hg0 hs0
    obtain ⟨left, cnt, l, hrg, hR, hin, hnd, hall, hB, hsz⟩ := hrel
    obtain ⟨AL, cL, rfl⟩ := Kd.R_slice hR
    have hsub : l.length ≤ (distinctC ks).length := by
      obtain ⟨q1, q2⟩ := distinctC_spec ks [] (by simp)
      have hp : l.Perm ((distinctC ks).filter fun x => decide (x ∈ l)) := by
        refine (List.perm_ext_iff_of_nodup hnd (List.Pairwise.filter _ q1)).2 (fun x => ?_)
        rw [List.mem_filter, decide_eq_true_eq]
        exact ⟨fun hx => ⟨(q2 x).2 (.inr (hin x hx).2.1), hx⟩, fun hx => hx.2⟩
      rw [hp.length_eq]
      exact List.length_filter_le _ _
    have hdl := distinctC_len ks []
    have hll : l.length ≤ 1000000 := by unfold distinctC at hsub; simp at hdl; omega
    clear hsub hdl
    replace hll := Aside0.mk hll
    go_wp2_with (first | (at_next; refine wpList_next_ranges _ rfl _ rfl 79 law79 (plainElem (H := Unit) Try.prog 4) vC mkB inv79' invB' B w.heap.size n _ _ _ rfl hrg ?_ ?_) | go_in)
    · intro hc0 hl0
      have hsf : sort92.f l = some (l.mergeSort fun x y => !lt79 y x) := by unfold sort92.f; rw [if_pos (by have := hll.out; omega)]
      have hperm : l.Perm (distinctC ks) := by
        obtain ⟨q1, q2⟩ := distinctC_spec ks [] (by simp)
        refine (List.perm_ext_iff_of_nodup hnd q1).2 (fun x => ?_)
        rw [q2]
        exact ⟨fun hx => .inr (hin x hx).2.1, fun hx => hall x (hx.resolve_left (by simp)) (hl0 _)⟩
      replace hperm := Aside0.mk hperm
      replace hsf := Aside0.mk hsf
      go_wp2_with (go_at_call 92; refine (sort92.calls l _ _ hR hsf.out).mono ?_; rintro e w2 ⟨rfl, hR2, hb2⟩)
      go_ret
      exact ⟨_, l, rfl, hperm.out, Kd.R_mono hR2 (fun _ _ => trivial), hB.trans hb2⟩
    · intro x c kl ya yb w1 cnt1 hkey hlk hv hat hrg1 hlt hg1 hs1 hen
      have hox := okC_of_key hkey
      have ekl : kl = litC x := by have h2 := hkey.symm.trans (key79 hox); injection h2
      subst ekl
      have hxk : x ∈ ks := by have h2 := has_true_of_atKey hat; rw [has_setC hok hox, decide_eq_true_eq] at h2; exact h2
      have hR1 := Kd.R_grown hR hg1 (fun _ hk => hk)
      have hB1 := hB.grown hg1 hB.size (fun j hj => by cases hj; exact Nat.le_refl _)
      have hen' : (Instr.entry (.pointer (some ⟨w.heap.size, 0, none⟩))).run Try.prog w1 = .ok (.tuple #[.agg #[.int .i64 x.f0, .int .i64 x.f1, .int .i64 x.f2], mkB c]) w1 := hen
      clear hen hg1
      replace hs1 := Aside0.mk hs1
      go_upto_region 4 with (first | ((with_reducible refine gate_dst (N := 3) rfl ?_); refine box_event ?hg (N := 3) ?hd (cs := #[.int .i64 0, .int .i64 0, .int .i64 0]) (t := 79) ?hr ?_; (case hd => rfl); (case hg => rfl); (case hr => first | (go_simp; done) | (go_simp; rfl)); intro g3 hg3 w2 hb3 hbb; have hge3 : w1.heap.size ≤ g3 := Nat.le_of_eq hg3.symm; clear hg3; obtain ⟨y0, y1, y2⟩ := bc3 hb3; obtain ⟨f0, f1, f2⟩ := bf3 hb3))
      have hx3 : (((w2.setCell ⟨g3, 0, none⟩ (.int .i64 x.f0)).setCell ⟨g3, 1, none⟩ (.int .i64 x.f1)).setCell ⟨g3, 2, none⟩ (.int .i64 x.f2)).heap[g3]? = some (.cells #[.int .i64 x.f0, .int .i64 x.f1, .int .i64 x.f2] 79 (0, 0)) := bto (bput (bput (bput hb3 0 _) 1 _) 2 _) rfl
      have hbs : Below w1.heap.size w1 (((w2.setCell ⟨g3, 0, none⟩ (.int .i64 x.f0)).setCell ⟨g3, 1, none⟩ (.int .i64 x.f1)).setCell ⟨g3, 2, none⟩ (.int .i64 x.f2)) := below_set (below_set (below_set hbb hge3) hge3) hge3
      clear y0 y1 y2 f0 f1 f2 hb3 hbb
      generalize ((w2.setCell ⟨g3, 0, none⟩ (.int .i64 x.f0)).setCell ⟨g3, 1, none⟩ (.int .i64 x.f1)).setCell ⟨g3, 2, none⟩ (.int .i64 x.f2) = w3 at hx3 hbs ⊢
      have hrg3 := hrg1.kept (grown_of_below hbs none) (by simp) (by simp)
      have hR3 := Kd.R_below hR1 hbs
      have hB3 := below_step hB1 hbs
      have hfr : ∀ j, w3.heap.size ≤ j → some j ≠ some w.heap.size := fun j hj e => by injection e with e; have := hbs.size; have := hs1.out; omega
      have hsz3 := below_size hbs
      obtain ⟨y0, y1, y2⟩ := bc3 hx3
      go_wp2_with ((with_reducible refine gate_builtin (b := .append) (xs := #[.tmp 10, .tmp 12]) rfl ?_); at_builtin; refine Kd.R_append k79 (w0 := w) w.heap.size rfl (.tmp 10) (.tmp 12) 62 79 (.agg #[(.int .i64 0), (.int .i64 0), (.int .i64 0)]) 24 rfl Try.underlying62 info79 rfl (by decide) (by omega) (.slice AL l.length cL) l x [.int .i64 x.f0, .int .i64 x.f1, .int .i64 x.f2] (fun k => some k ≠ some w.heap.size) (fun _ => False) rfl (by first | (go_simp; done) | (go_simp; rfl)) ?aP (fun _ hk => hk.elim) ?aF ?aO ?aB ?aS ?aL ?_; (case aP => exact k79_mkM _ _ _ x); (case aF => exact hfr); (case aO => exact hR3); (case aB => exact hB3); (case aS => exact below_size hB3); (case aL => have := hll.out; omega); intro v1 w4 ho hb hg hat)
      have hrg4 := hrg3.kept hg ((fun e => by have h1 := Kd.R_base hR3 B e.symm; omega)) ((fun e => (hR3.1 _ e.symm) rfl))
      go_roundw
      case rel => exact ⟨_, cnt1, l ++ [x], hrg4, ho, (fun z hz => by rcases List.mem_append.1 hz with q | q; exact ⟨(hin z q).1, (hin z q).2.1, by rw [(hin z q).2.2]; rfl⟩; rw [List.mem_singleton] at q; subst q; exact ⟨hox, hxk, by rw [litC_same hox hox]; simp⟩), (by rw [List.nodup_append]; refine ⟨hnd, by simp, ?_⟩; intro a ha b hb2 e; rw [List.mem_singleton] at hb2; subst hb2; subst e; have := (hin _ ha).2.2; rw [hlk] at this; exact absurd this (by decide)), (fun z hz hf => by by_cases e : z = x; subst e; simp; refine List.mem_append_left _ (hall z hz ?_); rw [litC_same (hok z hz) hox, decide_eq_false e] at hf; simpa using hf), hb, by have := hsz3; have := hs1.out; have := hg.size; omega⟩
      case measure => rw [hrg4.left_eq, hrg.left_eq]; exact hlt
end Go.Proofs.Ytiaiecfnpompcaa.T
namespace Go.Proofs.Ytiaiecfnpompcaa.T
open Go.RowKit Go.Proofs.YtiaiecfnpompcaaW.PrintWords
set_option linter.unusedVariables false
set_option linter.unusedSimpArgs false
def Ev {α : Type} (F : Nat → Option α) (v : α) : Prop := ∃ k0, ∀ k, k0 ≤ k → F k = some v
theorem Ev.of {α : Type} {F : Nat → Option α} {v : α} (h : ∀ k, F k = some v) : Ev F v := ⟨0, fun k _ => h k⟩
theorem Ev.pure {α : Type} (v : α) : Ev (fun _ => some v) v := ⟨0, fun _ _ => rfl⟩
theorem Ev.bind {α β : Type} {F : Nat → Option α} {G : Nat → α → Option β} {v : α} {u : β} (h : Ev F v) (h2 : Ev (fun k => G k v) u) : Ev (fun k => (F k).bind (G k)) u := by
  obtain ⟨a, ha⟩ := h
  obtain ⟨b, hb⟩ := h2
  exact ⟨max a b, fun k hk => by show (F k).bind (G k) = _; rw [ha k (by omega)]; exact hb k (by omega)⟩
theorem Ev.succ {α : Type} {F : Nat → Option α} {v : α} (h : Ev (fun k => F (k + 1)) v) : Ev F v := by
  obtain ⟨a, ha⟩ := h
  exact ⟨a + 1, fun k hk => by obtain ⟨j, rfl⟩ : ∃ j, k = j + 1 := ⟨k - 1, by omega⟩; exact ha j (by omega)⟩
theorem Ev.ite {α : Type} {p : Prop} [Decidable p] {F G : Nat → Option α} {v : α} (h1 : p → Ev F v) (h2 : ¬ p → Ev G v) : Ev (fun k => if p then F k else G k) v := by
  by_cases h : p
  · simpa [h] using h1 h
  · simpa [h] using h2 h
theorem Ev.ex {α : Type} {F : Nat → Option α} {v : α} (h : Ev F v) : ∃ k, F k = some v := by obtain ⟨a, ha⟩ := h; exact ⟨a, ha a (Nat.le_refl _)⟩
theorem wrap64_id {x : Int} (h0 : -9223372036854775808 ≤ x) (h1 : x ≤ 9223372036854775807) : wrap64 x = x := by unfold wrap64; omega

theorem within_one (a b x : Int) : mill_within.f a b [x] = some (decide (a ≤ x ∧ x ≤ b)) := by
  unfold mill_within.f
  congr 1
  simp only [List.any_cons, List.any_nil, Bool.or_false, outside]
  by_cases h1 : x < a
  · have : ¬ (a ≤ x ∧ x ≤ b) := by omega
    simp [h1, this]
  · by_cases h2 : b < x
    · have : ¬ (a ≤ x ∧ x ≤ b) := by omega
      simp [h2, this]
    · have : a ≤ x ∧ x ≤ b := by omega
      simp [h1, h2, this]
theorem within_two (a b x y : Int) : mill_within.f a b [x, y] = some (decide ((a ≤ x ∧ x ≤ b) ∧ a ≤ y ∧ y ≤ b)) := by
  have h1 := within_one a b x
  have h2 := within_one a b y
  unfold mill_within.f at *
  simp only [Option.some.injEq, List.any_cons, List.any_nil, Bool.or_false] at *
  rw [Bool.not_or, h1, h2]
  by_cases g1 : a ≤ x ∧ x ≤ b <;> by_cases g2 : a ≤ y ∧ y ≤ b <;> simp [g1, g2]
def okP (p : S46) : Prop := (1 ≤ p.f0 ∧ p.f0 ≤ 100000) ∧ 1 ≤ p.f1 ∧ p.f1 ≤ 10000000
instance (p : S46) : Decidable (okP p) := by unfold okP; infer_instance
end Go.Proofs.Ytiaiecfnpompcaa.T
namespace Go.Proofs.Ytiaiecfnpompcaa.T
open Go.RowKit Go.Maps Go.Proofs.YtiaiecfnpompcaaW.PrintWords Go.Proofs.YtiaiecfnpompcaaW.PrintLast Go.Proofs.YtiaiecfnpompcaaW.PrintMore
set_option linter.unusedVariables false
set_option linter.unusedSimpArgs false
def okRun (x : S144) : Prop := (0 ≤ x.f0 ∧ x.f0 ≤ 1000) ∧ (0 ≤ x.f3 ∧ x.f3 ≤ 1000) ∧ (0 ≤ x.f4 ∧ x.f4 ≤ 1000) ∧ 0 ≤ x.f1 ∧ x.f1 ≤ x.f2 ∧ x.f2 ≤ 100000
def hoursR (x : S144) (m f t : Int) : Int × Int := if x.f0 = m then (mx x.f1 f, mn x.f2 t) else (1, 0)
def hourKeys (m a : Int) : Nat → List S79
  | 0 => []
  | n + 1 => hourKeys m a n ++ [⟨3, m, a + (n : Int)⟩]
def runKeys (x : S144) (m f t : Int) : List S79 := if (hoursR x m f t).1 > (hoursR x m f t).2 then [] else
  [⟨1, 0, x.f3⟩, ⟨2, 0, x.f4⟩] ++ hourKeys x.f0 (hoursR x m f t).1 ((hoursR x m f t).2 + 1 - (hoursR x m f t).1).toNat
def longRun (x : S144) (m f t : Int) : Prop := (hoursR x m f t).1 ≤ (hoursR x m f t).2 ∧ (hoursR x m f t).2 - (hoursR x m f t).1 ≥ 1000
instance (x : S144) (m f t : Int) : Decidable (longRun x m f t) := by unfold longRun; infer_instance
def allKeys (l : List S144) (m f t : Int) : List S79 := l.flatMap fun x => runKeys x m f t
def okLot (m f t : Int) : Prop := (0 ≤ m ∧ m ≤ 1000) ∧ ((0 ≤ f ∧ f ≤ 100000) ∧ 0 ≤ t ∧ t ≤ 100000) ∧ f ≤ t
instance (m f t : Int) : Decidable (okLot m f t) := by unfold okLot; infer_instance
def causesE (l : List S144) (m f t : Int) : Int := if ¬ okLot m f t then 2 else if ∃ x ∈ l, longRun x m f t then 5 else if (distinctC (allKeys l m f t)).length > 1000 then 5 else 0
theorem hourKeys_mem {m a : Int} : ∀ {n : Nat} {y : S79}, y ∈ hourKeys m a n → y.f0 = 3 ∧ y.f1 = m ∧ a ≤ y.f2 ∧ y.f2 < a + n
  | 0, y, h => by simp [hourKeys] at h
  | n + 1, y, h => by
    rw [hourKeys] at h
    rcases List.mem_append.1 h with q | q
    · have := hourKeys_mem q; omega
    · rw [List.mem_singleton] at q; subst q; exact ⟨rfl, rfl, by show a ≤ a + (n : Int); omega, by show a + (n : Int) < a + ((n + 1 : Nat) : Int); omega⟩
theorem wfI {x : Int} (h0 : -9223372036854775808 ≤ x) (h1 : x ≤ 9223372036854775807) : (Lit.int .i64 x).wf = true := by
  simp [Lit.wf, IntKind.min, IntKind.max, IntKind.signed, IntKind.bits]; omega
theorem mx_le {a b : Int} : a ≤ mx a b ∧ b ≤ mx a b ∧ (mx a b = a ∨ mx a b = b) := by unfold mx; split <;> omega
theorem mn_le {a b : Int} : mn a b ≤ a ∧ mn a b ≤ b ∧ (mn a b = a ∨ mn a b = b) := by unfold mn; split <;> omega
theorem hoursR_b {x : S144} {m f t : Int} (h : okRun x) (hl : okLot m f t) : 0 ≤ (hoursR x m f t).1 ∧ (hoursR x m f t).1 ≤ 100000 ∧ 0 ≤ (hoursR x m f t).2 ∧ (hoursR x m f t).2 ≤ 100000 := by
  obtain ⟨h0, h3, h4, h1, h12, h2⟩ := h
  obtain ⟨_, ⟨hf, ht⟩, hft⟩ := hl
  unfold hoursR
  split
  · have a1 := @mx_le x.f1 f
    have a2 := @mn_le x.f2 t
    show 0 ≤ mx x.f1 f ∧ mx x.f1 f ≤ 100000 ∧ 0 ≤ mn x.f2 t ∧ mn x.f2 t ≤ 100000
    omega
  · show (0 : Int) ≤ 1 ∧ (1 : Int) ≤ 100000 ∧ (0 : Int) ≤ 0 ∧ (0 : Int) ≤ 100000
    omega
theorem okC_mk {a b c : Int} (ha : 0 ≤ a ∧ a ≤ 100000) (hb : 0 ≤ b ∧ b ≤ 100000) (hc : 0 ≤ c ∧ c ≤ 100000) : okC ⟨a, b, c⟩ :=
  ⟨wfI (by show _ ≤ a; omega) (by show a ≤ _; omega), wfI (by show _ ≤ b; omega) (by show b ≤ _; omega), wfI (by show _ ≤ c; omega) (by show c ≤ _; omega)⟩
theorem allKeys_ok {l : List S144} {m f t : Int} (hl : ∀ x ∈ l, okRun x) (g : okLot m f t) : ∀ y ∈ allKeys l m f t, okC y := by
  intro y hy
  unfold allKeys at hy
  obtain ⟨x, hx, hk⟩ := List.mem_flatMap.1 hy
  have hb := hoursR_b (hl x hx) g
  obtain ⟨h0, h3, h4, _⟩ := hl x hx
  unfold runKeys at hk
  split at hk
  · simp at hk
  · rcases List.mem_append.1 hk with q | q
    · rcases List.mem_cons.1 q with rfl | q
      · exact okC_mk (by omega) (by omega) (by omega)
      · rw [List.mem_singleton] at q; subst q
        exact okC_mk (by omega) (by omega) (by omega)
    · have q2 := hourKeys_mem q
      exact ⟨wfI (by omega) (by omega), wfI (by omega) (by omega), wfI (by omega) (by omega)⟩
theorem isNumber_eq (m : Int) : mill_isNumber.f [m] = some (decide (0 ≤ m ∧ m ≤ 1000)) := by unfold mill_isNumber.f; rw [within_one]; rfl
theorem areHours_eq (f t : Int) : mill_areHours.f f t = some (decide (((0 ≤ f ∧ f ≤ 100000) ∧ 0 ≤ t ∧ t ≤ 100000) ∧ f ≤ t)) := by
  unfold mill_areHours.f
  rw [within_two]
  simp only [Option.bind_some, decide_eq_true_eq]
  by_cases h : (0 ≤ f ∧ f ≤ 100000) ∧ 0 ≤ t ∧ t ≤ 100000
  · rw [if_pos h]; by_cases h2 : f ≤ t <;> simp [h, h2]
  · rw [if_neg h]; simp [h]
theorem runHours_eq (x : S144) (m f t : Int) : mill_run_hours.f x.f0 x.f1 x.f2 x.f3 x.f4 m f t = some ((hoursR x m f t).1, (hoursR x m f t).2) := by
  unfold mill_run_hours.f hoursR; split <;> rfl
set_option maxHeartbeats 40000000 in
set_option maxRecDepth 100000 in
theorem shop_causes.calls (A0 : Option Addr) (c0 : Nat) (l : List S144) (m f t : Int) (w : World) (hC : Kd.C k144 w A0 l.length l) (hc0 : l.length ≤ c0) (hlen : l.length ≤ 100) (hl : ∀ x ∈ l, okRun x) :
    Calls Try.prog 69 #[.slice A0 l.length c0, .agg #[.int .i64 m, .int .i64 f, .int .i64 t]] w fun e w' => ∃ v, e = .returned (.tuple #[v, .int .i64 (causesE l m f t)]) ∧ Below w.heap.size w w' ∧
      (causesE l m f t ≠ 0 → v = .map none) ∧ (causesE l m f t = 0 → ∃ B n, v = .map (some B) ∧ w.heap.size ≤ B ∧ w'.ownsMap Try.prog 79 (plainElem Try.prog 4) B n (setC (allKeys l m f t))) := by
  have hmm := @run_makeMap Try.prog
  by_cases g1 : 0 ≤ m ∧ m ≤ 1000
  rotate_left
  · have g1b : decide (0 ≤ m ∧ m ≤ 1000) = false := decide_eq_false g1
    have e0 : causesE l m f t = 2 := by unfold causesE; rw [if_pos (fun q => g1 q.1)]
    rw [e0]
    replace g1 := Aside0.mk g1
    go_enter Try.func69, Try.ntmps69
    go_wp2_with (first | ((with_reducible refine gate_dst (N := 3) rfl ?_); refine box_event ?hg (N := 3) ?hd (cs := #[.int .i64 m, .int .i64 f, .int .i64 t]) (t := 58) ?hr ?_; (case hd => rfl); (case hg => rfl); (case hr => first | (go_simp; done) | (go_simp; rfl)); intro b3 hg3 w2 hL hb3; have hge3 : w.heap.size ≤ b3 := Nat.le_of_eq hg3.symm; have hB := below_step (Below.refl w.heap.size w) hb3; obtain ⟨z0, z1, z2⟩ := bc3 hL; clear hg3 hb3) | ((with_reducible refine gate_dst (N := 14) rfl ?_); refine Kd.R_lit (Kd.int .i64) _ 3 ?hg (N := 14) ?hd (xs := ([m] : List Int)) (inner := [.int .i64 m]) (ok := fun _ => True) (okp := fun _ => True) ?hr ?hp (fun _ hk => hk) trivial (Below.refl _ _) (Nat.le_refl _) (by simp) ?_; (case hd => rfl); (case hg => rfl); (case hr => first | (go_simp; done) | (go_simp; rfl)); (case hp => exact (Reps.one (show Kd.M (Kd.int .i64) _ _ _ m [.int .i64 m] from rfl) (Reps.none _ _))); intro v14 w3 ho14 hb14 hg_ hnew_; clear hg_ hnew_; obtain ⟨A14, c14, rfl⟩ := Kd.R_slice ho14; replace hL := blk_below hL hb14; have hB := below_step hB hb14; clear z0 z1 z2; obtain ⟨z0, z1, z2⟩ := bc3 hL; clear hb14) | (go_at_call 90; refine (mill_isNumber.calls A14 c14 [m] _ _ (Kd.R_reads' ho14).2.2 (Kd.R_reads' ho14).2.1 (isNumber_eq m)).mono ?_; rintro e w4 ⟨rfl, hb⟩; replace hL := blk_below hL hb; have hB := below_step hB hb; clear z0 z1 z2; obtain ⟨z0, z1, z2⟩ := bc3 hL; clear hb))
    go_ret2
    exact ⟨_, rfl, hB, fun _ => rfl, fun q => absurd q (by decide)⟩
  have g1b : decide (0 ≤ m ∧ m ≤ 1000) = true := decide_eq_true g1
  by_cases g2 : ((0 ≤ f ∧ f ≤ 100000) ∧ 0 ≤ t ∧ t ≤ 100000) ∧ f ≤ t
  rotate_left
  · have g2b : decide (((0 ≤ f ∧ f ≤ 100000) ∧ 0 ≤ t ∧ t ≤ 100000) ∧ f ≤ t) = false := decide_eq_false g2
    have e0 : causesE l m f t = 2 := by unfold causesE; rw [if_pos (fun q => g2 ⟨q.2.1, q.2.2⟩)]
    rw [e0]
    replace g1 := Aside0.mk g1
    replace g2 := Aside0.mk g2
    go_enter Try.func69, Try.ntmps69
    go_wp2_with (first | ((with_reducible refine gate_dst (N := 3) rfl ?_); refine box_event ?hg (N := 3) ?hd (cs := #[.int .i64 m, .int .i64 f, .int .i64 t]) (t := 58) ?hr ?_; (case hd => rfl); (case hg => rfl); (case hr => first | (go_simp; done) | (go_simp; rfl)); intro b3 hg3 w2 hL hb3; have hge3 : w.heap.size ≤ b3 := Nat.le_of_eq hg3.symm; have hB := below_step (Below.refl w.heap.size w) hb3; obtain ⟨z0, z1, z2⟩ := bc3 hL; clear hg3 hb3) | ((with_reducible refine gate_dst (N := 14) rfl ?_); refine Kd.R_lit (Kd.int .i64) _ 3 ?hg (N := 14) ?hd (xs := ([m] : List Int)) (inner := [.int .i64 m]) (ok := fun _ => True) (okp := fun _ => True) ?hr ?hp (fun _ hk => hk) trivial (Below.refl _ _) (Nat.le_refl _) (by simp) ?_; (case hd => rfl); (case hg => rfl); (case hr => first | (go_simp; done) | (go_simp; rfl)); (case hp => exact (Reps.one (show Kd.M (Kd.int .i64) _ _ _ m [.int .i64 m] from rfl) (Reps.none _ _))); intro v14 w3 ho14 hb14 hg_ hnew_; clear hg_ hnew_; obtain ⟨A14, c14, rfl⟩ := Kd.R_slice ho14; replace hL := blk_below hL hb14; have hB := below_step hB hb14; clear z0 z1 z2; obtain ⟨z0, z1, z2⟩ := bc3 hL; clear hb14) | (go_at_call 90; refine (mill_isNumber.calls A14 c14 [m] _ _ (Kd.R_reads' ho14).2.2 (Kd.R_reads' ho14).2.1 (isNumber_eq m)).mono ?_; rintro e w4 ⟨rfl, hb⟩; replace hL := blk_below hL hb; have hB := below_step hB hb; clear z0 z1 z2; obtain ⟨z0, z1, z2⟩ := bc3 hL; clear hb) | (go_at_call 91; refine (mill_areHours.calls f t _ _ (areHours_eq f t)).mono ?_; rintro e w5 ⟨rfl, hb⟩; replace hL := blk_below hL hb; have hB := below_step hB hb; clear z0 z1 z2; obtain ⟨z0, z1, z2⟩ := bc3 hL; clear hb))
    go_ret2
    exact ⟨_, rfl, hB, fun _ => rfl, fun q => absurd q (by decide)⟩
  have g2b : decide (((0 ≤ f ∧ f ≤ 100000) ∧ 0 ≤ t ∧ t ≤ 100000) ∧ f ≤ t) = true := decide_eq_true g2
  have g3 : okLot m f t := ⟨g1, g2.1, g2.2⟩
  replace g1 := Aside0.mk g1
  replace g2 := Aside0.mk g2
  replace g3 := Aside0.mk g3
  go_enter Try.func69, Try.ntmps69
  go_wp2_with (first | ((with_reducible refine gate_dst (N := 3) rfl ?_); refine box_event ?hg (N := 3) ?hd (cs := #[.int .i64 m, .int .i64 f, .int .i64 t]) (t := 58) ?hr ?_; (case hd => rfl); (case hg => rfl); (case hr => first | (go_simp; done) | (go_simp; rfl)); intro b3 hg3 w2 hL hb3; have hge3 : w.heap.size ≤ b3 := Nat.le_of_eq hg3.symm; have hB := below_step (Below.refl w.heap.size w) hb3; obtain ⟨z0, z1, z2⟩ := bc3 hL; clear hg3 hb3) | ((with_reducible refine gate_dst (N := 14) rfl ?_); refine Kd.R_lit (Kd.int .i64) _ 3 ?hg (N := 14) ?hd (xs := ([m] : List Int)) (inner := [.int .i64 m]) (ok := fun _ => True) (okp := fun _ => True) ?hr ?hp (fun _ hk => hk) trivial (Below.refl _ _) (Nat.le_refl _) (by simp) ?_; (case hd => rfl); (case hg => rfl); (case hr => first | (go_simp; done) | (go_simp; rfl)); (case hp => exact (Reps.one (show Kd.M (Kd.int .i64) _ _ _ m [.int .i64 m] from rfl) (Reps.none _ _))); intro v14 w3 ho14 hb14 hg_ hnew_; clear hg_ hnew_; obtain ⟨A14, c14, rfl⟩ := Kd.R_slice ho14; replace hL := blk_below hL hb14; have hB := below_step hB hb14; clear z0 z1 z2; obtain ⟨z0, z1, z2⟩ := bc3 hL; clear hb14) | (go_at_call 90; refine (mill_isNumber.calls A14 c14 [m] _ _ (Kd.R_reads' ho14).2.2 (Kd.R_reads' ho14).2.1 (isNumber_eq m)).mono ?_; rintro e w4 ⟨rfl, hb⟩; replace hL := blk_below hL hb; have hB := below_step hB hb; clear z0 z1 z2; obtain ⟨z0, z1, z2⟩ := bc3 hL; clear hb) | (go_at_call 91; refine (mill_areHours.calls f t _ _ (areHours_eq f t)).mono ?_; rintro e w5 ⟨rfl, hb⟩; replace hL := blk_below hL hb; have hB := below_step hB hb; clear z0 z1 z2; obtain ⟨z0, z1, z2⟩ := bc3 hL; clear hb))
  have hown0 : (w5.alloc (.map #[] 0)).ownsMap Try.prog 79 (plainElem (H := Unit) Try.prog 4) w5.heap.size 0 (setC (allKeys (l.take 0) m f t)) := by rw [List.take_zero, show allKeys [] m f t = [] from rfl, setC_nil]; exact World.ownsMap_made _ _ _ _
  have hneB : b3 ≠ w5.heap.size := Nat.ne_of_lt (blk_lt hL)
  have hBge : w.heap.size ≤ w5.heap.size := below_size hB
  replace hL := blk_alloc hL (.map #[] 0)
  replace hB := below_alloc hB (.map #[] 0)
  generalize w5.alloc (.map #[] 0) = w6 at hown0 hL hB ⊢
  generalize w5.heap.size = B at hown0 hneB hBge ⊢
  clear z0 z1 z2 ho14
  go_loopw [28] (fun v28 wr => ∃ (i n : Nat), i ≤ l.length ∧ v28 = .int .i64 i ∧ n ≤ 1010 * i ∧ (∀ x ∈ l.take i, ¬ longRun x m f t) ∧ wr.ownsMap Try.prog 79 (plainElem (H := Unit) Try.prog 4) B n (setC (allKeys (l.take i) m f t)) ∧
      wr.heap[b3]? = some (.cells #[.int .i64 m, .int .i64 f, .int .i64 t] 58 (0, 0)) ∧ Below w.heap.size w wr)
    (fun v28 _ => l.length - (intOf v28).toNat)
  case atStart => exact ⟨0, 0, Nat.zero_le _, rfl, Nat.zero_le _, (fun x hx => by simp at hx), hown0, hL, hB⟩
  case round =>
    clear hown0 hL hB
    obtain ⟨i, n, hi, rfl, hn, hno, hown, hL, hB⟩ := hrel
    by_cases hlt : i < l.length
    rotate_left
    · have p2n : decide (i < l.length) = false := decide_eq_false hlt
      have hil : i = l.length := by omega
      rw [hil, List.take_length] at hno hown
      clear hil hn
      replace hlt := Aside0.mk hlt
      have hok : ∀ x ∈ allKeys l m f t, okC x := allKeys_ok hl g3.out
      have hs := size_setC hok
      by_cases c1 : (distinctC (allKeys l m f t)).length > 1000
      · have e0 : causesE l m f t = 5 := by unfold causesE; rw [if_neg (fun q => q g3.out), if_neg (fun ⟨x, hx, hq⟩ => hno x hx hq), if_pos c1]
        have c1b : decide (1000 < Maps.size (setC (allKeys l m f t))) = true := decide_eq_true (by omega)
        have c1c : decide ((1000 : Int) < (Maps.size (setC (allKeys l m f t)) : Int)) = true := decide_eq_true (by omega)
        replace c1 := Aside0.mk c1
        replace hs := Aside0.mk hs
        clear hno hok
        go_wp2_with (first | (at_len; refine wpList_len_own _ rfl _ 149 rfl 79 4 Try.underlying149 _ B n _ rfl hown ?_) | go_in)
        go_ret2
        rw [e0]
        exact ⟨_, rfl, hB, fun _ => rfl, fun q => absurd q (by decide)⟩
      · have e0 : causesE l m f t = 0 := by unfold causesE; rw [if_neg (fun q => q g3.out), if_neg (fun ⟨x, hx, hq⟩ => hno x hx hq), if_neg c1]
        have c1b : decide (1000 < Maps.size (setC (allKeys l m f t))) = false := decide_eq_false (by omega)
        have c1c : decide ((1000 : Int) < (Maps.size (setC (allKeys l m f t)) : Int)) = false := decide_eq_false (by omega)
        replace c1 := Aside0.mk c1
        replace hs := Aside0.mk hs
        clear hno hok
        go_wp2_with (first | (at_len; refine wpList_len_own _ rfl _ 149 rfl 79 4 Try.underlying149 _ B n _ rfl hown ?_) | go_in)
        go_ret2
        rw [e0]
        exact ⟨_, rfl, hB, fun q => absurd rfl q, fun _ => ⟨B, n, rfl, hBge, hown⟩⟩
    have p2n : decide (i < l.length) = true := decide_eq_true hlt
    have p2t := eq_true hlt
    obtain ⟨ad, e1, hx0, hx1, hx2, hx3, hx4⟩ := at_T144 (Kd.C_below hC hB) (i : Int) (by omega) (by omega)
    cases e1
    rw [Int.toNat_natCast] at hx0 hx1 hx2 hx3 hx4
    have hxi : rd_T144 l (i : Int) = l[i] := by simp [rd_T144, hlt]
    have hxr : okRun (rd_T144 l (i : Int)) := by rw [hxi]; exact hl _ (List.getElem_mem hlt)
    have htk : l.take (i + 1) = l.take i ++ [rd_T144 l (i : Int)] := by rw [List.take_succ_eq_append_getElem hlt, hxi]
    generalize rd_T144 l (i : Int) = x at hx0 hx1 hx2 hx3 hx4 hxi hxr htk
    obtain ⟨x0, x1, x2, x3, x4⟩ := x
    dsimp only at hx0 hx1 hx2 hx3 hx4
    replace hlt := Aside0.mk hlt
    replace hxr := Aside0.mk hxr
    replace htk := Aside0.mk htk
    replace hxi := Aside0.mk hxi
    replace hno := Aside0.mk hno
    go_upto_region 7 with (first | ((with_reducible refine gate_dst (N := 8) rfl ?_); refine box_event ?hg (N := 8) ?hd (cs := #[.int .i64 0, .int .i64 0, .int .i64 0, .int .i64 0, .int .i64 0]) (t := 144) ?hr ?_; (case hd => rfl); (case hg => rfl); (case hr => first | (go_simp; done) | (go_simp; rfl)); intro g8 hg8 w7 hb8 hbb; have hge8 : wr.heap.size ≤ g8 := Nat.le_of_eq hg8.symm; clear hg8; obtain ⟨y0, y1, y2, y3, y4⟩ := bc5 hb8; obtain ⟨f0, f1, f2, f3, f4⟩ := bf5 hb8))
    have hx8 : (((((w7.setCell ⟨g8, 0, none⟩ (.int .i64 x0)).setCell ⟨g8, 1, none⟩ (.int .i64 x1)).setCell ⟨g8, 2, none⟩ (.int .i64 x2)).setCell ⟨g8, 3, none⟩ (.int .i64 x3)).setCell ⟨g8, 4, none⟩ (.int .i64 x4)).heap[g8]? = some (.cells #[.int .i64 x0, .int .i64 x1, .int .i64 x2, .int .i64 x3, .int .i64 x4] 144 (0, 0)) := bto (bput (bput (bput (bput (bput hb8 0 _) 1 _) 2 _) 3 _) 4 _) rfl
    have hbs : Below wr.heap.size wr (((((w7.setCell ⟨g8, 0, none⟩ (.int .i64 x0)).setCell ⟨g8, 1, none⟩ (.int .i64 x1)).setCell ⟨g8, 2, none⟩ (.int .i64 x2)).setCell ⟨g8, 3, none⟩ (.int .i64 x3)).setCell ⟨g8, 4, none⟩ (.int .i64 x4)) := below_set (below_set (below_set (below_set (below_set hbb hge8) hge8) hge8) hge8) hge8
    have hne8 : g8 ≠ B := Nat.ne_of_gt (Nat.lt_of_lt_of_le hown.lt hge8)
    clear y0 y1 y2 y3 y4 f0 f1 f2 f3 f4 hb8 hbb
    generalize ((((w7.setCell ⟨g8, 0, none⟩ (.int .i64 x0)).setCell ⟨g8, 1, none⟩ (.int .i64 x1)).setCell ⟨g8, 2, none⟩ (.int .i64 x2)).setCell ⟨g8, 3, none⟩ (.int .i64 x3)).setCell ⟨g8, 4, none⟩ (.int .i64 x4) = w8 at hx8 hbs ⊢
    replace hown := hown.kept (grown_of_below hbs none) (by simp)
    replace hL := blk_below hL hbs
    replace hB := below_step hB hbs
    clear hbs hx0 hx1 hx2 hx3 hx4
    have hpb := hoursR_b hxr.out g3.out
    have hrk : runKeys ⟨x0, x1, x2, x3, x4⟩ m f t = if (hoursR ⟨x0, x1, x2, x3, x4⟩ m f t).1 > (hoursR ⟨x0, x1, x2, x3, x4⟩ m f t).2 then [] else [⟨1, 0, x3⟩, ⟨2, 0, x4⟩] ++ hourKeys x0 (hoursR ⟨x0, x1, x2, x3, x4⟩ m f t).1 ((hoursR ⟨x0, x1, x2, x3, x4⟩ m f t).2 + 1 - (hoursR ⟨x0, x1, x2, x3, x4⟩ m f t).1).toNat := rfl
    have hlr : longRun ⟨x0, x1, x2, x3, x4⟩ m f t ↔ (hoursR ⟨x0, x1, x2, x3, x4⟩ m f t).1 ≤ (hoursR ⟨x0, x1, x2, x3, x4⟩ m f t).2 ∧ (hoursR ⟨x0, x1, x2, x3, x4⟩ m f t).2 - (hoursR ⟨x0, x1, x2, x3, x4⟩ m f t).1 ≥ 1000 := Iff.rfl
    have hrh := runHours_eq ⟨x0, x1, x2, x3, x4⟩ m f t
    generalize (hoursR ⟨x0, x1, x2, x3, x4⟩ m f t).1 = p at hpb hrk hlr hrh
    generalize (hoursR ⟨x0, x1, x2, x3, x4⟩ m f t).2 = q at hpb hrk hlr hrh
    obtain ⟨z0, z1, z2⟩ := bc3 hL
    obtain ⟨y0, y1, y2, y3, y4⟩ := bc5 hx8
    have hall : allKeys (l.take (i + 1)) m f t = allKeys (l.take i) m f t ++ runKeys ⟨x0, x1, x2, x3, x4⟩ m f t := by rw [htk.out]; simp [allKeys]
    replace hall := Aside0.mk hall
    replace hrk := Aside0.mk hrk
    replace hlr := Aside0.mk hlr
    replace hrh := Aside0.mk hrh
    by_cases c1 : p > q
    · have c1b : decide (q < p) = true := decide_eq_true c1
      have e1 : allKeys (l.take (i + 1)) m f t = allKeys (l.take i) m f t := by rw [hall.out, hrk.out, if_pos c1, List.append_nil]
      have hno' : ∀ x ∈ l.take (i + 1), ¬ longRun x m f t := by
        intro x hx
        rw [htk.out] at hx
        rcases List.mem_append.1 hx with h | h
        · exact hno.out x h
        · rw [List.mem_singleton] at h; subst h; intro hq; have := hlr.out.1 hq; omega
      replace c1 := Aside0.mk c1
      replace e1 := Aside0.mk e1
      replace hno' := Aside0.mk hno'
      go_wp2_with (go_at_call 68; refine (mill_run_hours.calls x0 x1 x2 x3 x4 m f t p q _ hrh.out).mono ?_; rintro e w9 ⟨rfl, hb⟩; replace hown := hown.kept (grown_of_below hb none) (by simp); replace hL := blk_below hL hb; replace hx8 := blk_below hx8 hb; replace hB := below_step hB hb; clear hb z0 z1 z2 y0 y1 y2 y3 y4; obtain ⟨y0, y1, y2, y3, y4⟩ := bc5 hx8)
      go_roundw
      case rel => exact ⟨i + 1, n, by have := of_eq_true p2t; omega, by go_num, by omega, hno'.out, by rw [e1.out]; exact hown, hL, hB⟩
      case measure => have := of_eq_true p2t; simp [intOf]; omega
    have c1b : decide (q < p) = false := decide_eq_false c1
    have hwq : wrap64 (q - p) = q - p := by unfold wrap64; omega
    by_cases c2 : q - p ≥ 1000
    · have c2b : decide (1000 ≤ q - p) = true := decide_eq_true c2
      have e0 : causesE l m f t = 5 := by
        unfold causesE
        rw [if_neg (fun q => q g3.out), if_pos ⟨⟨x0, x1, x2, x3, x4⟩, by rw [hxi.out]; exact List.getElem_mem _, hlr.out.2 ⟨by omega, c2⟩⟩]
      replace c1 := Aside0.mk c1
      replace c2 := Aside0.mk c2
      replace e0 := Aside0.mk e0
      go_wp2_with (go_at_call 68; refine (mill_run_hours.calls x0 x1 x2 x3 x4 m f t p q _ hrh.out).mono ?_; rintro e w9 ⟨rfl, hb⟩; replace hown := hown.kept (grown_of_below hb none) (by simp); replace hL := blk_below hL hb; replace hx8 := blk_below hx8 hb; replace hB := below_step hB hb; clear hb z0 z1 z2 y0 y1 y2 y3 y4; obtain ⟨y0, y1, y2, y3, y4⟩ := bc5 hx8)
      go_ret2
      rw [e0.out]
      exact ⟨_, rfl, hB, fun _ => rfl, fun q => absurd q (by decide)⟩
    have c2b : decide (1000 ≤ q - p) = false := decide_eq_false c2
    have hrk2 : runKeys ⟨x0, x1, x2, x3, x4⟩ m f t = [⟨1, 0, x3⟩, ⟨2, 0, x4⟩] ++ hourKeys x0 p (q + 1 - p).toNat := by rw [hrk.out, if_neg c1]
    have hno' : ∀ x ∈ l.take (i + 1), ¬ longRun x m f t := by
      intro x hx
      rw [htk.out] at hx
      rcases List.mem_append.1 hx with h | h
      · exact hno.out x h
      · rw [List.mem_singleton] at h; subst h; intro hq; have := hlr.out.1 hq; omega
    have hk1 : keyOf Try.prog 79 (.agg #[.int .i64 1, .int .i64 0, .int .i64 x3]) = some (litC ⟨1, 0, x3⟩) := key79 (okC_mk (by omega) (by omega) (by have h : 0 ≤ x3 ∧ x3 ≤ 1000 := hxr.out.2.1; omega))
    have hk2 : keyOf Try.prog 79 (.agg #[.int .i64 2, .int .i64 0, .int .i64 x4]) = some (litC ⟨2, 0, x4⟩) := key79 (okC_mk (by omega) (by omega) (by have h : 0 ≤ x4 ∧ x4 ≤ 1000 := hxr.out.2.2.1; omega))
    have hn2 : n + 2 < maxLen := by unfold maxLen; have := of_eq_true p2t; omega
    have hs2 : setC (allKeys (l.take i) m f t ++ [⟨1, 0, x3⟩, ⟨2, 0, x4⟩]) = ((setC (allKeys (l.take i) m f t)).put (litC ⟨1, 0, x3⟩) (.lit (.bool true))).put (litC ⟨2, 0, x4⟩) (.lit (.bool true)) := by
      rw [show allKeys (l.take i) m f t ++ [⟨1, 0, x3⟩, ⟨2, 0, x4⟩] = (allKeys (l.take i) m f t ++ [⟨1, 0, x3⟩]) ++ [⟨2, 0, x4⟩] by simp, setC_snoc, setC_snoc]
    replace c1 := Aside0.mk c1
    replace c2 := Aside0.mk c2
    replace hrk2 := Aside0.mk hrk2
    replace hno' := Aside0.mk hno'
    replace hs2 := Aside0.mk hs2
    replace hk1 := Aside0.mk hk1
    replace hk2 := Aside0.mk hk2
    go_wp2_with (first | (go_at_call 68; refine (mill_run_hours.calls x0 x1 x2 x3 x4 m f t p q _ hrh.out).mono ?_; rintro e w9 ⟨rfl, hb⟩; replace hown := hown.kept (grown_of_below hb none) (by simp); replace hL := blk_below hL hb; replace hx8 := blk_below hx8 hb; replace hB := below_step hB hb; clear hb z0 z1 z2 y0 y1 y2 y3 y4; obtain ⟨y0, y1, y2, y3, y4⟩ := bc5 hx8) | (at_mapUpdate; refine wpList_mapUpdate_own _ rfl _ _ _ 149 rfl 79 4 law79 Try.underlying149 (plainElem (H := Unit) Try.prog 4) B n _ rfl hown (by have := hn2; omega) _ _ _ rfl rfl hk1.out _ [] (plainElem_bool Try.underlying4 true) ?_; intro w10 hown1 hgrow1; replace hL := blk_grown hL hgrow1 (by simpa using hneB); replace hx8 := blk_grown hx8 hgrow1 (by simpa using hne8); clear y0 y1 y2 y3 y4; obtain ⟨y0, y1, y2, y3, y4⟩ := bc5 hx8) | (at_mapUpdate; refine wpList_mapUpdate_own _ rfl _ _ _ 149 rfl 79 4 law79 Try.underlying149 (plainElem (H := Unit) Try.prog 4) B (n + 1) _ rfl hown1 (by have := hn2; omega) _ _ _ rfl rfl hk2.out _ [] (plainElem_bool Try.underlying4 true) ?_; intro w11 hown2 hgrow2; replace hL := blk_grown hL hgrow2 (by simpa using hneB); replace hx8 := blk_grown hx8 hgrow2 (by simpa using hne8); clear y0 y1 y2 y3 y4; obtain ⟨y0, y1, y2, y3, y4⟩ := bc5 hx8))
    have hB2 : Below w.heap.size w w11 := (hB.grown hgrow1 hB.size (fun j hj => by cases hj; exact hBge)).grown hgrow2 (hB.grown hgrow1 hB.size (fun j hj => by cases hj; exact hBge)).size (fun j hj => by cases hj; exact hBge)
    clear hB hgrow1 hgrow2 hown hown1 y0 y1 y2 y3 y4
    have hx0b : 0 ≤ x0 ∧ x0 ≤ 1000 := hxr.out.1
    replace hk1 := trivial
    replace hk2 := trivial
    go_loopw [11] (fun v11 wv => ∃ (j nj : Nat), v11 = .int .i64 (p + (j : Int)) ∧ (j : Int) ≤ q + 1 - p ∧ nj ≤ n + 2 + j ∧ wv.ownsMap Try.prog 79 (plainElem (H := Unit) Try.prog 4) B nj (setC (allKeys (l.take i) m f t ++ [⟨1, 0, x3⟩, ⟨2, 0, x4⟩] ++ hourKeys x0 p j)) ∧
        wv.heap[b3]? = some (.cells #[.int .i64 m, .int .i64 f, .int .i64 t] 58 (0, 0)) ∧ wv.heap[g8]? = some (.cells #[.int .i64 x0, .int .i64 x1, .int .i64 x2, .int .i64 x3, .int .i64 x4] 144 (0, 0)) ∧ Below w.heap.size w wv)
      (fun v11 _ => (q + 1 - intOf v11).toNat)
    case atStart => exact ⟨0, n + 1 + 1, by simp, by have := c1.out; omega, by omega, by rw [hourKeys, List.append_nil, hs2.out]; exact hown2, hL, hx8, hB2⟩
    case round =>
      clear hown2 hL hx8 hB2
      obtain ⟨j, nj, rfl, hj, hnj, hown, hL, hx8, hB⟩ := hrel
      by_cases hjq : p + (j : Int) ≤ q
      · have hjb : decide (p + (j : Int) ≤ q) = true := decide_eq_true hjq
        have hk3 : keyOf Try.prog 79 (.agg #[.int .i64 3, .int .i64 x0, .int .i64 (p + (j : Int))]) = some (litC ⟨3, x0, p + (j : Int)⟩) := key79 (okC_mk (by omega) (by omega) (by omega))
        have hwj : wrap64 (p + (j : Int) + 1) = p + (j : Int) + 1 := by unfold wrap64; omega
        have hn3 : nj < maxLen := by have := hn2; unfold maxLen at *; omega
        obtain ⟨y0, y1, y2, y3, y4⟩ := bc5 hx8
        replace hk3 := Aside0.mk hk3
        replace hwj := Aside0.mk hwj
        go_wp2_with (at_mapUpdate; refine wpList_mapUpdate_own _ rfl _ _ _ 149 rfl 79 4 law79 Try.underlying149 (plainElem (H := Unit) Try.prog 4) B nj _ rfl hown hn3 _ _ _ rfl rfl hk3.out _ [] (plainElem_bool Try.underlying4 true) ?_; intro w12 hown3 hgrow3)
        go_roundw
        case rel => exact ⟨j + 1, nj + 1, by first | (rw [hwj.out]; congr 1; omega) | (congr 1; omega), by omega, by omega, by rw [hourKeys, ← List.append_assoc, setC_snoc]; exact hown3, blk_grown hL hgrow3 (by simpa using hneB), blk_grown hx8 hgrow3 (by simpa using hne8), hB.grown hgrow3 hB.size (fun j hj => by cases hj; exact hBge)⟩
        case measure => simp [intOf]; omega
      · have hjb : decide (p + (j : Int) ≤ q) = false := decide_eq_false hjq
        have hjj : j = (q + 1 - p).toNat := by omega
        have e2 : allKeys (l.take (i + 1)) m f t = allKeys (l.take i) m f t ++ [⟨1, 0, x3⟩, ⟨2, 0, x4⟩] ++ hourKeys x0 p j := by rw [hall.out, hrk2.out, hjj, List.append_assoc]
        have hnn : nj ≤ 1010 * (i + 1) := by have := c2.out; omega
        replace hjq := Aside0.mk hjq
        replace e2 := Aside0.mk e2
        replace hjj := Aside0.mk hjj
        go_wp2
        go_roundw
        case rel => exact ⟨i + 1, nj, by have := of_eq_true p2t; omega, by go_num, hnn, hno'.out, by rw [e2.out]; exact hown, hL, hB⟩
        case measure => have := of_eq_true p2t; simp [intOf]; omega
end Go.Proofs.Ytiaiecfnpompcaa.T
namespace Go.Proofs.Ytiaiecfnpompcaa.T
open Go.RowKit Go.Maps Go.Proofs.YtiaiecfnpompcaaW.PrintWords Go.Proofs.YtiaiecfnpompcaaW.PrintLast Go.Proofs.YtiaiecfnpompcaaW.PrintMore
set_option linter.unusedVariables false
set_option linter.unusedSimpArgs false
theorem sort79_perm {a b : List S79} (h : a.Perm b) : (a.mergeSort fun x y => !lt79 y x) = b.mergeSort fun x y => !lt79 y x := by
  have tr : ∀ x y z : S79, (!lt79 y x) = true → (!lt79 z y) = true → (!lt79 z x) = true := by
    intro x y z h1 h2
    simp only [lt79, Bool.not_eq_true', decide_eq_false_iff_not] at *
    omega
  have tt : ∀ x y : S79, ((!lt79 y x) || !lt79 x y) = true := by
    intro x y
    simp only [lt79, Bool.or_eq_true, Bool.not_eq_true', decide_eq_false_iff_not]
    omega
  refine List.Perm.eq_of_pairwise (le := fun x y => (!lt79 y x) = true) ?_ (List.pairwise_mergeSort tr tt a) (List.pairwise_mergeSort tr tt b) ((List.mergeSort_perm a _).trans (h.trans (List.mergeSort_perm b _).symm))
  intro x y _ _ h1 h2
  simp only [lt79, Bool.not_eq_true', decide_eq_false_iff_not] at h1 h2
  obtain ⟨x0, x1, x2⟩ := x
  obtain ⟨y0, y1, y2⟩ := y
  dsimp only at h1 h2
  obtain rfl : x0 = y0 := by omega
  obtain rfl : x1 = y1 := by omega
  obtain rfl : x2 = y2 := by omega
  rfl
def sortC (ks : List S79) : List S79 := (distinctC ks).mergeSort fun x y => !lt79 y x
instance (x : S144) : Decidable (okRun x) := by unfold okRun; infer_instance
def mill_Causes.g (k : Nat) (l : List S144) (m f t : Int) : Option (List S79 × Int) :=
  (mill_Check.f k l).bind fun e => if e ≠ 0 then some ([], e) else if l.length ≤ 100 ∧ ∀ x ∈ l, okRun x then (if causesE l m f t ≠ 0 then some ([], causesE l m f t) else some (sortC (allKeys l m f t), 0)) else none
def mill_Causes.f (l : List S144) (m f t : Int) : Option (List S79 × Int) := mill_Causes.g 1000 l m f t
theorem hourKeys_len (m a : Int) : ∀ n : Nat, (hourKeys m a n).length = n
  | 0 => rfl
  | n + 1 => by rw [hourKeys, List.length_append, hourKeys_len m a n]; rfl
theorem runKeys_len {x : S144} {m f t : Int} (h : ¬ longRun x m f t) : (runKeys x m f t).length ≤ 1002 := by
  unfold runKeys
  split
  · simp
  · rw [List.length_append, hourKeys_len]
    unfold longRun at h
    simp only [List.length_cons, List.length_nil]
    omega
theorem allKeys_len {m f t : Int} : ∀ {l : List S144}, (∀ x ∈ l, ¬ longRun x m f t) → (allKeys l m f t).length ≤ 1002 * l.length
  | [], _ => by simp [allKeys]
  | x :: l, h => by
    have h1 := runKeys_len (h x (by simp))
    have h2 := allKeys_len (l := l) (fun y hy => h y (by simp [hy]))
    have e : allKeys (x :: l) m f t = runKeys x m f t ++ allKeys l m f t := rfl
    rw [e, List.length_append, List.length_cons]
    omega
theorem causesE_zero {l : List S144} {m f t : Int} (h : causesE l m f t = 0) : okLot m f t ∧ ∀ x ∈ l, ¬ longRun x m f t := by
  unfold causesE at h
  split at h
  · cases h
  · rename_i g
    split at h
    · cases h
    · rename_i g2
      exact ⟨Classical.not_not.1 g, fun x hx hq => g2 ⟨x, hx, hq⟩⟩
set_option maxHeartbeats 4000000 in
set_option maxRecDepth 100000 in
theorem sorted_nil (w : World) : Calls Try.prog 70 #[.map none] w fun e w' => ∃ v, e = .returned v ∧ Kd.R k79 79 w' w.heap.size (fun _ => True) v [] ∧ Below w.heap.size w w' := by
  have hrg := run_range_nilMap (P := Try.prog) w 149 79 4 Try.underlying149
  have hnx : ∀ ty, (Instr.next (.pointer (some ⟨w.heap.size, 0, none⟩)) false ty).run Try.prog (w.alloc (.mapIter none 0 #[] 0)) = _ := fun ty => run_next_nilMap w ty 0 0 #[]
  go_enter Try.func70, Try.ntmps70
  go_wp2
  refine wp_loop_rounds 1 ?_
  rw [rounds_succ]
  go_wp2_with (go_at_call 92; refine (sort92.calls [] _ _ (Kd.R_nil k79 79 _ w.heap.size (fun _ => True)) rfl).mono ?_; rintro e w2 ⟨rfl, hR2, hb2⟩)
  go_ret
  rw [List.mergeSort_nil] at hR2
  exact ⟨_, rfl, hR2, ((Below.refl _ _).alloc (Nat.le_refl _) _).trans hb2⟩
end Go.Proofs.Ytiaiecfnpompcaa.T
namespace Go.Proofs.Ytiaiecfnpompcaa.T
open Go.RowKit Go.Maps Go.Proofs.YtiaiecfnpompcaaW.PrintWords Go.Proofs.YtiaiecfnpompcaaW.PrintLast Go.Proofs.YtiaiecfnpompcaaW.PrintMore
set_option linter.unusedVariables false
set_option linter.unusedSimpArgs false
set_option maxHeartbeats 40000000 in
set_option maxRecDepth 100000 in
theorem mill_Causes.calls_g (k : Nat) (A0 : Option Addr) (c0 : Nat) (l : List S144) (m f t : Int) (r1 : List S79) (r2 : Int) (w : World) (hC : Kd.C k144 w A0 l.length l) (hc0 : l.length ≤ c0) (h : mill_Causes.g k l m f t = some (r1, r2)) :
    Calls Try.prog 33 #[.slice A0 l.length c0, .agg #[.int .i64 m, .int .i64 f, .int .i64 t]] w fun e w' => ∃ v, e = .returned (.tuple #[v, .int .i64 r2]) ∧ Kd.R k79 79 w' w.heap.size (fun _ => True) v r1 ∧ Below w.heap.size w w' := by
  unfold mill_Causes.g at h
  obtain ⟨e1, hck, h⟩ := Option.bind_eq_some_iff.1 h
  replace hck := Aside0.mk hck
  by_cases c1 : e1 = 0
  rotate_left
  · rw [if_pos c1] at h
    injection h with h
    injection h with ha hb
    subst ha; subst hb
    have c1b : (e1 != 0) = true := by simpa using c1
    clear h
    replace c1 := Aside0.mk c1
    go_enter Try.func33, Try.ntmps33
    go_wp2_with (first | ((with_reducible refine gate_dst (N := 3) rfl ?_); refine box_event ?hg (N := 3) ?hd (cs := #[.int .i64 m, .int .i64 f, .int .i64 t]) (t := 58) ?hr ?_; (case hd => rfl); (case hg => rfl); (case hr => first | (go_simp; done) | (go_simp; rfl)); intro b3 hg3 w2 hL hb3; have hge3 : w.heap.size ≤ b3 := Nat.le_of_eq hg3.symm; have hB := below_step (Below.refl w.heap.size w) hb3; obtain ⟨z0, z1, z2⟩ := bc3 hL; clear hg3 hb3) | (go_at_call 32; with_reducible refine (mill_Check.calls k A0 c0 l e1 _ (Kd.C_below hC hB) hc0 hck.out).mono ?_; rintro e w4 ⟨rfl, hb⟩; replace hL := blk_below hL hb; have hB := below_step hB hb; clear z0 z1 z2; obtain ⟨z0, z1, z2⟩ := bc3 hL; clear hb))
    go_ret2
    exact ⟨_, rfl, Kd.R_nil _ _ _ _ _, hB⟩
  subst c1
  rw [if_neg (by simp)] at h
  by_cases hp : l.length ≤ 100 ∧ ∀ x ∈ l, okRun x
  rotate_left
  · rw [if_neg hp] at h; cases h
  rw [if_pos hp] at h
  replace hp := Aside0.mk hp
  by_cases c2 : causesE l m f t = 0
  rotate_left
  · rw [if_pos c2] at h
    injection h with h
    injection h with ha hb
    subst ha; subst hb
    have c2b : (causesE l m f t != 0) = true := by simpa using c2
    replace c2 := Aside0.mk c2
    clear h
    go_enter Try.func33, Try.ntmps33
    go_wp2_with (first | ((with_reducible refine gate_dst (N := 3) rfl ?_); refine box_event ?hg (N := 3) ?hd (cs := #[.int .i64 m, .int .i64 f, .int .i64 t]) (t := 58) ?hr ?_; (case hd => rfl); (case hg => rfl); (case hr => first | (go_simp; done) | (go_simp; rfl)); intro b3 hg3 w2 hL hb3; have hge3 : w.heap.size ≤ b3 := Nat.le_of_eq hg3.symm; have hB := below_step (Below.refl w.heap.size w) hb3; obtain ⟨z0, z1, z2⟩ := bc3 hL; clear hg3 hb3) | (go_at_call 32; with_reducible refine (mill_Check.calls k A0 c0 l 0 _ (Kd.C_below hC hB) hc0 hck.out).mono ?_; rintro e w4 ⟨rfl, hb⟩; replace hL := blk_below hL hb; have hB := below_step hB hb; clear z0 z1 z2; obtain ⟨z0, z1, z2⟩ := bc3 hL; clear hb) | ((go_at_call 69; with_reducible refine (shop_causes.calls A0 c0 l m f t _ (Kd.C_below hC hB) hc0 hp.out.1 hp.out.2).mono ?_; rintro e w5 ⟨v, rfl, hb, hbad, hgood⟩; have hsz := below_size hB; have hB2 := below_step hB hb; clear z0 z1 z2 hL); obtain rfl := hbad c2.out; clear hbad hgood) | (go_at_call 70; with_reducible refine (sorted_nil _).mono ?_; rintro e w6 ⟨v2, rfl, hR6, hb6⟩))
    go_ret2
    exact ⟨_, rfl, Kd.R_lower hR6 (below_size hB2), below_step hB2 hb6⟩
  rw [if_neg (fun q => q c2)] at h
  injection h with h
  injection h with ha hb
  subst ha; subst hb
  clear h
  obtain ⟨q1, q2⟩ := causesE_zero c2
  have hok := allKeys_ok hp.out.2 q1
  have hlen := allKeys_len q2
  have hlen2 : (allKeys l m f t).length ≤ 1000000 := by have := hp.out.1; omega
  replace c2 := Aside0.mk c2
  replace q1 := Aside0.mk q1
  replace q2 := Aside0.mk q2
  replace hok := Aside0.mk hok
  replace hlen := Aside0.mk hlen
  replace hlen2 := Aside0.mk hlen2
  go_enter Try.func33, Try.ntmps33
  go_wp2_with (first | ((with_reducible refine gate_dst (N := 3) rfl ?_); refine box_event ?hg (N := 3) ?hd (cs := #[.int .i64 m, .int .i64 f, .int .i64 t]) (t := 58) ?hr ?_; (case hd => rfl); (case hg => rfl); (case hr => first | (go_simp; done) | (go_simp; rfl)); intro b3 hg3 w2 hL hb3; have hge3 : w.heap.size ≤ b3 := Nat.le_of_eq hg3.symm; have hB := below_step (Below.refl w.heap.size w) hb3; obtain ⟨z0, z1, z2⟩ := bc3 hL; clear hg3 hb3) | (go_at_call 32; with_reducible refine (mill_Check.calls k A0 c0 l 0 _ (Kd.C_below hC hB) hc0 hck.out).mono ?_; rintro e w4 ⟨rfl, hb⟩; replace hL := blk_below hL hb; have hB := below_step hB hb; clear z0 z1 z2; obtain ⟨z0, z1, z2⟩ := bc3 hL; clear hb) | ((go_at_call 69; with_reducible refine (shop_causes.calls A0 c0 l m f t _ (Kd.C_below hC hB) hc0 hp.out.1 hp.out.2).mono ?_; rintro e w5 ⟨v, rfl, hb, hbad, hgood⟩; have hsz := below_size hB; have hB2 := below_step hB hb; clear z0 z1 z2 hL); rw [c2.out] at hgood ⊢; obtain ⟨B, n, rfl, hge, hown⟩ := hgood rfl; clear hbad hgood) | (go_at_call 70; with_reducible refine (sorted_calls B n _ _ hown hok.out hlen2.out).mono ?_; rintro e w6 ⟨v2, l2, rfl, hp2, hR6, hb6⟩))
  go_ret2
  rw [sort79_perm hp2] at hR6
  exact ⟨_, rfl, Kd.R_lower hR6 (below_size hB2), below_step hB2 hb6⟩
theorem mill_Causes.calls (A0 : Option Addr) (c0 : Nat) (l : List S144) (m f t : Int) (r1 : List S79) (r2 : Int) (w : World) (hC : Kd.C k144 w A0 l.length l) (hc0 : l.length ≤ c0) (h : mill_Causes.f l m f t = some (r1, r2)) :
    Calls Try.prog 33 #[.slice A0 l.length c0, .agg #[.int .i64 m, .int .i64 f, .int .i64 t]] w fun e w' => ∃ v, e = .returned (.tuple #[v, .int .i64 r2]) ∧ Kd.R k79 79 w' w.heap.size (fun _ => True) v r1 ∧ Below w.heap.size w w' := mill_Causes.calls_g 1000 A0 c0 l m f t r1 r2 w hC hc0 h
end Go.Proofs.Ytiaiecfnpompcaa.T
namespace Go.Proofs.Ytiaiecfnpompcaa.T
open Go.RowKit Go.Proofs.YtiaiecfnpompcaaW.PrintWords Go.Proofs.YtiaiecfnpompcaaW.PrintLast Go.Proofs.YtiaiecfnpompcaaW.PrintMore
attribute [local go_sem] max2_int min2_int max_two min_two max_three min_three max_four min_four   -- for this text's walks alone
set_option linter.unusedVariables false
set_option linter.unusedSimpArgs false
attribute [local go_sem] wl_100001

mutual
def acmelaw12_MillCauses.j0 : Nat → List (S144) → Bool → Int → Int → Int → Option (Bool)
 | 0, _, _, _, _, _ => none
 | k + 1, x0, x30, x284000, x284001, x284002 => if x30 = true then ((acmelaw12_known.f).bind fun t285 => (some t285)) else ((acmelaw12_runs.f x0).bind fun t286 => ((mill_Check.f k t286).bind fun t289 => ((mill_Causes.f t286 x284000 x284001 x284002).bind fun bt290 => ((acmeref12_Check.f k x0).bind fun t294 => ((acmelaw12_same.f k t286 x0).bind fun t295 => (if t295 = true then (acmelaw12_MillCauses.j1 k x0 bt290.1 bt290.2 t294 (t289 != t294) x284000 x284001 x284002) else (acmelaw12_MillCauses.j1 k x0 bt290.1 bt290.2 t294 true x284000 x284001 x284002)))))))
def acmelaw12_MillCauses.j1 : Nat → List (S144) → List (S79) → Int → Int → Bool → Int → Int → Int → Option (Bool)
 | 0, _, _, _, _, _, _, _, _ => none
 | k + 1, x0, x7, x8, x9, x52, x284000, x284001, x284002 => if x52 = true then (none) else (if x9 = 0 then ((acmeref12_Causes.f k x0 x284000 x284001 x284002).bind fun bt299 => (if x8 = bt299.2 then ((acmeref12_Same.f k x7 bt299.1).bind fun t303 => (if t303 = true then ((acmelaw12_known.f).bind fun t304 => (some t304)) else (none))) else (none))) else (if x8 = x9 then ((acmeref12_Same.f k x7 (([] : List (S79)))).bind fun t305 => (if t305 = true then ((acmelaw12_known.f).bind fun t306 => (some t306)) else (none))) else (none)))
end
def acmelaw12_MillCauses.f (k : Nat) (l0 : List (S144)) (a1_0 : Int) (a1_1 : Int) (a1_2 : Int) : Option (Bool) := (acmelaw12_many.f k l0 ([] : List (List (S58)))).bind fun t284 => (if t284 = true then (acmelaw12_MillCauses.j0 k l0 true a1_0 a1_1 a1_2) else (if (wrap64 (a1_2 - a1_1)) > 3000 then (if a1_2 ≤ 100000 then (acmelaw12_MillCauses.j0 k l0 (decide (a1_1 ≥ 0)) a1_0 a1_1 a1_2) else (acmelaw12_MillCauses.j0 k l0 false a1_0 a1_1 a1_2)) else (acmelaw12_MillCauses.j0 k l0 false a1_0 a1_1 a1_2)))
set_option maxHeartbeats 8000000 in
set_option maxRecDepth 100000 in
theorem acmelaw12_MillCauses.calls (k : Nat) (A0 : Option Addr) (c0 : Nat) (l0 : List (S144)) (a1_0 : Int) (a1_1 : Int) (a1_2 : Int) (r : Bool) (w : World) (hr0 : Kd.C k144 w A0 l0.length l0) (hc0 : l0.length ≤ c0) (h : acmelaw12_MillCauses.f k l0 a1_0 a1_1 a1_2 = some r) :
  Calls Try.prog 6 #[.slice A0 l0.length c0, .agg #[.int .i64 a1_0, .int .i64 a1_1, .int .i64 a1_2]] w fun e w' => e = .returned (.bool r) ∧ Below w.heap.size w w' := by
 have hu58 := Try.underlying58
 have HR0 := Aside0.mk hr0
 have HC0 := Aside0.mk hc0
 clear hr0 hc0
 have HB := Aside0.mk (Below.refl w.heap.size w)
 have H : ((acmelaw12_many.f k l0 ([] : List (List (S58)))).bind fun t284 => (if t284 = true then (acmelaw12_MillCauses.j0 k l0 true a1_0 a1_1 a1_2) else (if (wrap64 (a1_2 - a1_1)) > 3000 then (if a1_2 ≤ 100000 then (acmelaw12_MillCauses.j0 k l0 (decide (a1_1 ≥ 0)) a1_0 a1_1 a1_2) else (acmelaw12_MillCauses.j0 k l0 false a1_0 a1_1 a1_2)) else (acmelaw12_MillCauses.j0 k l0 false a1_0 a1_1 a1_2)))) = some r := h
 clear h
 have HC3 := Aside0.mk H
 clear H
 go_enter Try.func6, Try.ntmps6
 go_upto_region 1 with (first | ((with_reducible refine gate_dst (N := 3) rfl ?_); refine box_event ?hg (N := 3) ?hd (cs := #[.int .i64 a1_0, .int .i64 a1_1, .int .i64 a1_2]) (t := 58) ?hr ?_; (case hd => rfl); (case hg => rfl); (case hr => first | (go_simp; done) | (go_simp; rfl)); intro gb283 hg w4 hbox hb; have BK283 := Aside0.mk (hbox); have GW283 := Aside0.mk ((by rw [hg]; exact (below_size HB.out) : w.heap.size ≤ gb283)); have GE283 := GW283; replace HB := Aside0.mk (below_step HB.out hb); clear hb hbox hg))
 (try simp only [Act.put, List.setIfInBounds_toArray, List.set_cons_zero, List.set_cons_succ])
 go_cut [30] (fun v30 wc => ∃ (kq : Nat) (x30_2 : Bool), v30 = .bool x30_2 ∧ Aside0 (acmelaw12_MillCauses.j0 kq l0 x30_2 a1_0 a1_1 a1_2 = some r) ∧ Aside0 (kq ≤ k) ∧ Aside0 (wc.heap[gb283]? = some (.cells #[.int .i64 a1_0, .int .i64 a1_1, .int .i64 a1_2] 58 (0, 0))) ∧ Aside0 (Below w.heap.size w wc))
 case first =>
  have H := HC3.out
  clear HC3
  replace H := Option.bind_eq_some_iff.mp H
  obtain ⟨t284, A50, H⟩ := H; (try dsimp only at H)
  have A5 := Aside0.mk A50
  clear A50
  by_cases c6 : t284 = true
  ·subst c6
   have H1 : (acmelaw12_MillCauses.j0 k l0 true a1_0 a1_1 a1_2) = some r := by rw [if_pos rfl] at H; exact H
   clear H
   have H := H1
   clear H1
   have H' := Aside0.mk H
   clear H
   go_wp2_with (first | ((with_reducible refine gate_callee (f := 30) rfl ?_); refine goesL_ (some 12) rfl rfl Try.func30 (by kernel_rfl) rfl #[.slice A0 l0.length c0, .slice none 0 0] rfl (by (try simp only [List.map_toArray, List.map_cons, List.map_nil]); first | done | rfl | (simp only [List.length_drop, List.length_take]; rfl)) ?_; (refine (acmelaw12_many.calls k _ _ l0 _ _ ([] : List (List (S58))) true _ ?side1 ?side2 ?side3 ?side4 A5.out).mono ?_); (case side1 => repeat (first | exact (Kd.C_below HR0.out HB.out) | (with_reducible refine Kd.C_alloc ?_ _) | (with_reducible refine Kd.C_drewN ?_ _) | (with_reducible refine Kd.C_drew ?_))); (case side2 => exact HC0.out); (case side3 => exact Kd.C_nil _ _); (case side4 => exact Nat.le_refl _); rintro e w' ⟨rfl, ⟨nd, rfl⟩⟩; refine ⟨_, rfl, ?_⟩))
   go_meet
   case rel => exact ⟨_, (true), (by first | rfl | (simp; done) | (simp [*]; done)), H', ⟨by first | omega | exact Nat.le_refl _⟩, BK283, ⟨by repeat (first | (with_reducible first | exact HB.out | apply below_alloc | apply pw_below_drewN | apply below_drew1 | refine below_set ?_ (Aside0.out (by assumption))) | exact HB.out)⟩⟩
  ·replace c6 := Bool.eq_false_iff.mpr c6
   subst c6
   have H1 : (if (wrap64 (a1_2 - a1_1)) > 3000 then (if a1_2 ≤ 100000 then (acmelaw12_MillCauses.j0 k l0 (decide (a1_1 ≥ 0)) a1_0 a1_1 a1_2) else (acmelaw12_MillCauses.j0 k l0 false a1_0 a1_1 a1_2)) else (acmelaw12_MillCauses.j0 k l0 false a1_0 a1_1 a1_2)) = some r := by rw [if_neg (show ¬ (false = true) by decide)] at H; exact H
   clear H
   have H := H1
   clear H1
   by_cases c7 : (wrap64 (a1_2 - a1_1)) > 3000
   ·rw [if_pos c7] at H
    have c7b0 : decide (3000 < (wrap64 (a1_2 - a1_1))) = true := decide_eq_true c7
    clear c7
    (first | rw [c7b0] | (simp only [i64_w, i32_w]; rw [c7b0]) | skip)
    by_cases c8 : a1_2 ≤ 100000
    ·rw [if_pos c8] at H
     have c8b0 : decide (a1_2 ≤ 100000) = true := decide_eq_true c8
     clear c8
     have H' := Aside0.mk H
     clear H
     go_wp2_with (first | ((with_reducible refine gate_callee (f := 30) rfl ?_); refine goesL_ (some 12) rfl rfl Try.func30 (by kernel_rfl) rfl #[.slice A0 l0.length c0, .slice none 0 0] rfl (by (try simp only [List.map_toArray, List.map_cons, List.map_nil]); first | done | rfl | (simp only [List.length_drop, List.length_take]; rfl)) ?_; (refine (acmelaw12_many.calls k _ _ l0 _ _ ([] : List (List (S58))) false _ ?side1 ?side2 ?side3 ?side4 A5.out).mono ?_); (case side1 => repeat (first | exact (Kd.C_below HR0.out HB.out) | (with_reducible refine Kd.C_alloc ?_ _) | (with_reducible refine Kd.C_drewN ?_ _) | (with_reducible refine Kd.C_drew ?_))); (case side2 => exact HC0.out); (case side3 => exact Kd.C_nil _ _); (case side4 => exact Nat.le_refl _); rintro e w' ⟨rfl, ⟨nd, rfl⟩⟩; refine ⟨_, rfl, ?_⟩; obtain ⟨hcz9_0, hcz9_1, hcz9_2⟩ := bc3 BK283.out; obtain ⟨hfz9_0, hfz9_1, hfz9_2⟩ := bf3 BK283.out))
     go_meet
     case rel => exact ⟨_, (decide (a1_1 ≥ 0)), (by first | rfl | (simp; done) | (simp [*]; done)), H', ⟨by first | omega | exact Nat.le_refl _⟩, BK283, ⟨by repeat (first | (with_reducible first | exact HB.out | apply below_alloc | apply pw_below_drewN | apply below_drew1 | refine below_set ?_ (Aside0.out (by assumption))) | exact HB.out)⟩⟩
    ·rw [if_neg c8] at H
     have c8b0 : decide (a1_2 ≤ 100000) = false := decide_eq_false c8
     clear c8
     have H' := Aside0.mk H
     clear H
     go_wp2_with (first | ((with_reducible refine gate_callee (f := 30) rfl ?_); refine goesL_ (some 12) rfl rfl Try.func30 (by kernel_rfl) rfl #[.slice A0 l0.length c0, .slice none 0 0] rfl (by (try simp only [List.map_toArray, List.map_cons, List.map_nil]); first | done | rfl | (simp only [List.length_drop, List.length_take]; rfl)) ?_; (refine (acmelaw12_many.calls k _ _ l0 _ _ ([] : List (List (S58))) false _ ?side1 ?side2 ?side3 ?side4 A5.out).mono ?_); (case side1 => repeat (first | exact (Kd.C_below HR0.out HB.out) | (with_reducible refine Kd.C_alloc ?_ _) | (with_reducible refine Kd.C_drewN ?_ _) | (with_reducible refine Kd.C_drew ?_))); (case side2 => exact HC0.out); (case side3 => exact Kd.C_nil _ _); (case side4 => exact Nat.le_refl _); rintro e w' ⟨rfl, ⟨nd, rfl⟩⟩; refine ⟨_, rfl, ?_⟩; obtain ⟨hcz10_0, hcz10_1, hcz10_2⟩ := bc3 BK283.out; obtain ⟨hfz10_0, hfz10_1, hfz10_2⟩ := bf3 BK283.out))
     go_meet
     case rel => exact ⟨_, (false), (by first | rfl | (simp; done) | (simp [*]; done)), H', ⟨by first | omega | exact Nat.le_refl _⟩, BK283, ⟨by repeat (first | (with_reducible first | exact HB.out | apply below_alloc | apply pw_below_drewN | apply below_drew1 | refine below_set ?_ (Aside0.out (by assumption))) | exact HB.out)⟩⟩
   ·rw [if_neg c7] at H
    have c7b0 : decide (3000 < (wrap64 (a1_2 - a1_1))) = false := decide_eq_false c7
    clear c7
    (first | rw [c7b0] | (simp only [i64_w, i32_w]; rw [c7b0]) | skip)
    have H' := Aside0.mk H
    clear H
    go_wp2_with (first | ((with_reducible refine gate_callee (f := 30) rfl ?_); refine goesL_ (some 12) rfl rfl Try.func30 (by kernel_rfl) rfl #[.slice A0 l0.length c0, .slice none 0 0] rfl (by (try simp only [List.map_toArray, List.map_cons, List.map_nil]); first | done | rfl | (simp only [List.length_drop, List.length_take]; rfl)) ?_; (refine (acmelaw12_many.calls k _ _ l0 _ _ ([] : List (List (S58))) false _ ?side1 ?side2 ?side3 ?side4 A5.out).mono ?_); (case side1 => repeat (first | exact (Kd.C_below HR0.out HB.out) | (with_reducible refine Kd.C_alloc ?_ _) | (with_reducible refine Kd.C_drewN ?_ _) | (with_reducible refine Kd.C_drew ?_))); (case side2 => exact HC0.out); (case side3 => exact Kd.C_nil _ _); (case side4 => exact Nat.le_refl _); rintro e w' ⟨rfl, ⟨nd, rfl⟩⟩; refine ⟨_, rfl, ?_⟩; obtain ⟨hcz11_0, hcz11_1, hcz11_2⟩ := bc3 BK283.out; obtain ⟨hfz11_0, hfz11_1, hfz11_2⟩ := bf3 BK283.out))
    go_meet
    case rel => exact ⟨_, (false), (by first | rfl | (simp; done) | (simp [*]; done)), H', ⟨by first | omega | exact Nat.le_refl _⟩, BK283, ⟨by repeat (first | (with_reducible first | exact HB.out | apply below_alloc | apply pw_below_drewN | apply below_drew1 | refine below_set ?_ (Aside0.out (by assumption))) | exact HB.out)⟩⟩
 case rest =>
  clear HC3
  try clear p2; try clear c3; try clear c6; try clear p6; try clear c7; try clear c7b0; try clear c8; try clear c8b0; try clear hcz10_0; try clear hcz10_1; try clear hcz10_2; try clear hcz11_0; try clear hcz11_1; try clear hcz11_2; try clear hcz9_0; try clear hcz9_1; try clear hcz9_2; try clear hfz10_0; try clear hfz10_1; try clear hfz10_2; try clear hfz11_0; try clear hfz11_1; try clear hfz11_2; try clear hfz9_0; try clear hfz9_1; try clear hfz9_2
  obtain ⟨kq, x30_2, rfl, HA, HJ2, BK283, HB⟩ := hcut
  cases kq with
  | zero => exact absurd HA.out (by simp [acmelaw12_MillCauses.j0])
  | succ kj2 =>
   have H := HA.out
   clear HA
   simp only [acmelaw12_MillCauses.j0] at H
   by_cases c12 : x30_2 = true
   ·subst c12
    have H1 : ((acmelaw12_known.f).bind fun t285 => (some t285)) = some r := by rw [if_pos rfl] at H; exact H
    clear H
    have H := H1
    clear H1
    replace H := Option.bind_eq_some_iff.mp H
    obtain ⟨t285, A130, H⟩ := H; (try dsimp only at H)
    have A13 := Aside0.mk A130
    clear A130
    obtain rfl := Option.some.inj H
    go_wp2_with (first | ((with_reducible refine gate_callee (f := 15) rfl ?_); refine goesL_ (some 31) rfl rfl Try.func15 (by kernel_rfl) rfl #[] rfl (by (try simp only [List.map_toArray, List.map_cons, List.map_nil]); first | done | rfl | (simp only [List.length_drop, List.length_take]; rfl)) ?_; (with_reducible refine (acmelaw12_known.calls  t285 _ A13.out).mono ?_); rintro e w14 ⟨rfl, hb⟩; refine ⟨_, rfl, ?_⟩; replace BK283 := Aside0.mk (blk_below (g := gb283) (o := .cells #[.int .i64 a1_0, .int .i64 a1_1, .int .i64 a1_2] 58 (0, 0)) (by repeat (first | (with_reducible first | exact BK283.out | refine blk_drewN ?_ _ | refine blk_drew ?_ | refine blk_alloc ?_ _) | exact BK283.out)) hb); replace HB := Aside0.mk (below_step (by repeat (first | (with_reducible first | exact HB.out | apply below_alloc | apply pw_below_drewN | apply below_drew1 | refine below_set ?_ (Aside0.out (by assumption))) | exact HB.out)) hb); (try clear hb); (try clear hb2); (try clear hk); (try clear hi)))
    go_ret
    exact ⟨by first | rfl | (simp [errW_none, errW_some] <;> rfl) | (simp [*, errW_none, errW_some] <;> rfl), by repeat (first | (with_reducible first | exact HB.out | apply below_alloc | apply pw_below_drewN | apply below_drew1 | refine below_set ?_ (Aside0.out (by assumption))) | exact HB.out)⟩
   ·replace c12 := Bool.eq_false_iff.mpr c12
    subst c12
    have H1 : ((acmelaw12_runs.f l0).bind fun t286 => ((mill_Check.f kj2 t286).bind fun t289 => ((mill_Causes.f t286 a1_0 a1_1 a1_2).bind fun bt290 => ((acmeref12_Check.f kj2 l0).bind fun t294 => ((acmelaw12_same.f kj2 t286 l0).bind fun t295 => (if t295 = true then (acmelaw12_MillCauses.j1 kj2 l0 bt290.1 bt290.2 t294 (t289 != t294) a1_0 a1_1 a1_2) else (acmelaw12_MillCauses.j1 kj2 l0 bt290.1 bt290.2 t294 true a1_0 a1_1 a1_2))))))) = some r := by rw [if_neg (show ¬ (false = true) by decide)] at H; exact H
    clear H
    have H := H1
    clear H1
    replace H := Option.bind_eq_some_iff.mp H
    obtain ⟨t286, A150, H⟩ := H; (try dsimp only at H)
    have A15 := Aside0.mk A150
    clear A150
    replace H := Option.bind_eq_some_iff.mp H
    obtain ⟨t289, A160, H⟩ := H; (try dsimp only at H)
    have A16 := Aside0.mk A160
    clear A160
    replace H := Option.bind_eq_some_iff.mp H
    obtain ⟨⟨t290, t293⟩, A170, H⟩ := H; (try dsimp only at H)
    have A17 := Aside0.mk A170
    clear A170
    replace H := Option.bind_eq_some_iff.mp H
    obtain ⟨t294, A180, H⟩ := H; (try dsimp only at H)
    have A18 := Aside0.mk A180
    clear A180
    have HC19 := Aside0.mk H
    clear H
    go_upto_region 7 with (first | ((with_reducible refine gate_callee (f := 31) rfl ?_); refine goesL_ (some 33) rfl rfl Try.func31 (by kernel_rfl) rfl #[.slice A0 l0.length c0] rfl (by (try simp only [List.map_toArray, List.map_cons, List.map_nil]); first | done | rfl | (simp only [List.length_drop, List.length_take]; rfl)) ?_; (with_reducible refine (acmelaw12_runs.calls _ _ l0 t286 _ ?side1 ?side2 A15.out).mono ?_); (case side1 => repeat (first | exact (Kd.C_below HR0.out HB.out) | (with_reducible refine Kd.C_alloc ?_ _) | (with_reducible refine Kd.C_drewN ?_ _) | (with_reducible refine Kd.C_drew ?_))); (case side2 => exact HC0.out); rintro e w20 ⟨v287, rfl, ho0, hb⟩; refine ⟨_, rfl, ?_⟩; have HO288 := Aside0.mk (Kd.R_lower ho0 (below_size (by repeat (first | (with_reducible first | exact HB.out | apply below_alloc | apply pw_below_drewN | apply below_drew1 | refine below_set ?_ (Aside0.out (by assumption))) | exact HB.out)))); replace BK283 := Aside0.mk (blk_below (g := gb283) (o := .cells #[.int .i64 a1_0, .int .i64 a1_1, .int .i64 a1_2] 58 (0, 0)) (by repeat (first | (with_reducible first | exact BK283.out | refine blk_drewN ?_ _ | refine blk_drew ?_ | refine blk_alloc ?_ _) | exact BK283.out)) hb); replace HB := Aside0.mk (below_step (by repeat (first | (with_reducible first | exact HB.out | apply below_alloc | apply pw_below_drewN | apply below_drew1 | refine below_set ?_ (Aside0.out (by assumption))) | exact HB.out)) hb); (try clear hb); (try clear hb2); (try clear hk); (try clear hi); (try clear ho0); obtain ⟨Ao21, co21, eo21⟩ := Kd.R_slice HO288.out; subst eo21) | ((with_reducible refine gate_callee (f := 32) rfl ?_); refine goesL_ (some 35) rfl rfl Try.func32 (by kernel_rfl) rfl #[.slice Ao21 t286.length co21] rfl (by (try simp only [List.map_toArray, List.map_cons, List.map_nil]); first | done | rfl | (simp only [List.length_drop, List.length_take]; rfl)) ?_; (with_reducible refine (mill_Check.calls kj2 _ _ t286 t289 _ ?side1 ?side2 A16.out).mono ?_); (case side1 => repeat (first | exact (Kd.R_reads' HO288.out).2.2 | (with_reducible refine Kd.C_alloc ?_ _) | (with_reducible refine Kd.C_drewN ?_ _) | (with_reducible refine Kd.C_drew ?_))); (case side2 => exact (Kd.R_reads' HO288.out).2.1); rintro e w22 ⟨rfl, hb⟩; refine ⟨_, rfl, ?_⟩; replace HO288 := Aside0.mk (Kd.R_below (by (with_reducible repeat (first | apply Kd.R_alloc | apply Kd.R_drewN | apply Kd.R_drew)); exact HO288.out) hb); replace BK283 := Aside0.mk (blk_below (g := gb283) (o := .cells #[.int .i64 a1_0, .int .i64 a1_1, .int .i64 a1_2] 58 (0, 0)) (by repeat (first | (with_reducible first | exact BK283.out | refine blk_drewN ?_ _ | refine blk_drew ?_ | refine blk_alloc ?_ _) | exact BK283.out)) hb); replace HB := Aside0.mk (below_step (by repeat (first | (with_reducible first | exact HB.out | apply below_alloc | apply pw_below_drewN | apply below_drew1 | refine below_set ?_ (Aside0.out (by assumption))) | exact HB.out)) hb); (try clear hb); (try clear hb2); (try clear hk); (try clear hi); obtain ⟨hcz23_0, hcz23_1, hcz23_2⟩ := bc3 BK283.out; obtain ⟨hfz23_0, hfz23_1, hfz23_2⟩ := bf3 BK283.out) | ((with_reducible refine gate_callee (f := 33) rfl ?_); refine goesL_ (some 39) rfl rfl Try.func33 (by kernel_rfl) rfl #[.slice Ao21 t286.length co21, .agg #[.int .i64 a1_0, .int .i64 a1_1, .int .i64 a1_2]] rfl (by (try simp only [List.map_toArray, List.map_cons, List.map_nil]); first | done | rfl | (simp only [List.length_drop, List.length_take]; rfl)) ?_; (with_reducible refine (mill_Causes.calls _ _ t286 a1_0 a1_1 a1_2 t290 t293 _ ?side1 ?side2 A17.out).mono ?_); (case side1 => repeat (first | exact (Kd.R_reads' HO288.out).2.2 | (with_reducible refine Kd.C_alloc ?_ _) | (with_reducible refine Kd.C_drewN ?_ _) | (with_reducible refine Kd.C_drew ?_))); (case side2 => exact (Kd.R_reads' HO288.out).2.1); rintro e w24 ⟨v291, rfl, ho0, hb⟩; refine ⟨_, rfl, ?_⟩; replace HO288 := Aside0.mk (Kd.R_below (by (with_reducible repeat (first | apply Kd.R_alloc | apply Kd.R_drewN | apply Kd.R_drew)); exact HO288.out) hb); have HO292 := Aside0.mk (Kd.R_lower ho0 (below_size (by repeat (first | (with_reducible first | exact HB.out | apply below_alloc | apply pw_below_drewN | apply below_drew1 | refine below_set ?_ (Aside0.out (by assumption))) | exact HB.out)))); replace BK283 := Aside0.mk (blk_below (g := gb283) (o := .cells #[.int .i64 a1_0, .int .i64 a1_1, .int .i64 a1_2] 58 (0, 0)) (by repeat (first | (with_reducible first | exact BK283.out | refine blk_drewN ?_ _ | refine blk_drew ?_ | refine blk_alloc ?_ _) | exact BK283.out)) hb); replace HB := Aside0.mk (below_step (by repeat (first | (with_reducible first | exact HB.out | apply below_alloc | apply pw_below_drewN | apply below_drew1 | refine below_set ?_ (Aside0.out (by assumption))) | exact HB.out)) hb); (try clear hb); (try clear hb2); (try clear hk); (try clear hi); (try clear ho0)) | ((with_reducible refine gate_callee (f := 34) rfl ?_); refine goesL_ (some 43) rfl rfl Try.func34 (by kernel_rfl) rfl #[.slice A0 l0.length c0] rfl (by (try simp only [List.map_toArray, List.map_cons, List.map_nil]); first | done | rfl | (simp only [List.length_drop, List.length_take]; rfl)) ?_; (with_reducible refine (acmeref12_Check.calls kj2 _ _ l0 t294 _ ?side1 ?side2 A18.out).mono ?_); (case side1 => repeat (first | exact (Kd.C_below HR0.out HB.out) | (with_reducible refine Kd.C_alloc ?_ _) | (with_reducible refine Kd.C_drewN ?_ _) | (with_reducible refine Kd.C_drew ?_))); (case side2 => exact HC0.out); rintro e w25 ⟨rfl, hb⟩; refine ⟨_, rfl, ?_⟩; replace HO288 := Aside0.mk (Kd.R_below (by (with_reducible repeat (first | apply Kd.R_alloc | apply Kd.R_drewN | apply Kd.R_drew)); exact HO288.out) hb); replace HO292 := Aside0.mk (Kd.R_below (by (with_reducible repeat (first | apply Kd.R_alloc | apply Kd.R_drewN | apply Kd.R_drew)); exact HO292.out) hb); replace BK283 := Aside0.mk (blk_below (g := gb283) (o := .cells #[.int .i64 a1_0, .int .i64 a1_1, .int .i64 a1_2] 58 (0, 0)) (by repeat (first | (with_reducible first | exact BK283.out | refine blk_drewN ?_ _ | refine blk_drew ?_ | refine blk_alloc ?_ _) | exact BK283.out)) hb); replace HB := Aside0.mk (below_step (by repeat (first | (with_reducible first | exact HB.out | apply below_alloc | apply pw_below_drewN | apply below_drew1 | refine below_set ?_ (Aside0.out (by assumption))) | exact HB.out)) hb); (try clear hb); (try clear hb2); (try clear hk); (try clear hi)))
    (try simp only [Act.put, List.setIfInBounds_toArray, List.set_cons_zero, List.set_cons_succ])
    go_cut [52] (fun v52 wc => ∃ (kq : Nat) (x52_18 : Bool), v52 = .bool x52_18 ∧ Aside0 (acmelaw12_MillCauses.j1 kq l0 t290 t293 t294 x52_18 a1_0 a1_1 a1_2 = some r) ∧ Aside0 (kq ≤ kj2) ∧ Aside0 (Kd.R k79 79 wc w.heap.size (fun _ => True) v291 t290) ∧ Aside0 (wc.heap[gb283]? = some (.cells #[.int .i64 a1_0, .int .i64 a1_1, .int .i64 a1_2] 58 (0, 0))) ∧ Aside0 (Below w.heap.size w wc))
    case first =>
     have H := HC19.out
     clear HC19
     replace H := Option.bind_eq_some_iff.mp H
     obtain ⟨t295, A260, H⟩ := H; (try dsimp only at H)
     have A26 := Aside0.mk A260
     clear A260
     by_cases c27 : t295 = true
     ·subst c27
      have H1 : (acmelaw12_MillCauses.j1 kj2 l0 t290 t293 t294 (t289 != t294) a1_0 a1_1 a1_2) = some r := by rw [if_pos rfl] at H; exact H
      clear H
      have H := H1
      clear H1
      have H' := Aside0.mk H
      clear H
      go_wp2_with (first | ((with_reducible refine gate_callee (f := 35) rfl ?_); refine goesL_ (some 46) rfl rfl Try.func35 (by kernel_rfl) rfl #[.slice Ao21 t286.length co21, .slice A0 l0.length c0] rfl (by (try simp only [List.map_toArray, List.map_cons, List.map_nil]); first | done | rfl | (simp only [List.length_drop, List.length_take]; rfl)) ?_; (with_reducible refine (acmelaw12_same.calls kj2 _ _ t286 _ _ l0 true _ ?side1 ?side2 ?side3 ?side4 A26.out).mono ?_); (case side1 => repeat (first | exact (Kd.R_reads' HO288.out).2.2 | (with_reducible refine Kd.C_alloc ?_ _) | (with_reducible refine Kd.C_drewN ?_ _) | (with_reducible refine Kd.C_drew ?_))); (case side2 => exact (Kd.R_reads' HO288.out).2.1); (case side3 => repeat (first | exact (Kd.C_below HR0.out HB.out) | (with_reducible refine Kd.C_alloc ?_ _) | (with_reducible refine Kd.C_drewN ?_ _) | (with_reducible refine Kd.C_drew ?_))); (case side4 => exact HC0.out); rintro e w' ⟨rfl, ⟨nd, rfl⟩⟩; refine ⟨_, rfl, ?_⟩))
      go_meet
      case rel => exact ⟨_, ((t289 != t294)), (by first | rfl | (simp; done) | (simp [*]; done)), H', ⟨by have := HJ2.out; first | omega | exact Nat.le_refl _⟩, ⟨by (with_reducible repeat (first | apply Kd.R_alloc | apply Kd.R_drewN | apply Kd.R_drew)); exact HO292.out⟩, BK283, ⟨by repeat (first | (with_reducible first | exact HB.out | apply below_alloc | apply pw_below_drewN | apply below_drew1 | refine below_set ?_ (Aside0.out (by assumption))) | exact HB.out)⟩⟩
     ·replace c27 := Bool.eq_false_iff.mpr c27
      subst c27
      have H1 : (acmelaw12_MillCauses.j1 kj2 l0 t290 t293 t294 true a1_0 a1_1 a1_2) = some r := by rw [if_neg (show ¬ (false = true) by decide)] at H; exact H
      clear H
      have H := H1
      clear H1
      have H' := Aside0.mk H
      clear H
      go_wp2_with (first | ((with_reducible refine gate_callee (f := 35) rfl ?_); refine goesL_ (some 46) rfl rfl Try.func35 (by kernel_rfl) rfl #[.slice Ao21 t286.length co21, .slice A0 l0.length c0] rfl (by (try simp only [List.map_toArray, List.map_cons, List.map_nil]); first | done | rfl | (simp only [List.length_drop, List.length_take]; rfl)) ?_; (with_reducible refine (acmelaw12_same.calls kj2 _ _ t286 _ _ l0 false _ ?side1 ?side2 ?side3 ?side4 A26.out).mono ?_); (case side1 => repeat (first | exact (Kd.R_reads' HO288.out).2.2 | (with_reducible refine Kd.C_alloc ?_ _) | (with_reducible refine Kd.C_drewN ?_ _) | (with_reducible refine Kd.C_drew ?_))); (case side2 => exact (Kd.R_reads' HO288.out).2.1); (case side3 => repeat (first | exact (Kd.C_below HR0.out HB.out) | (with_reducible refine Kd.C_alloc ?_ _) | (with_reducible refine Kd.C_drewN ?_ _) | (with_reducible refine Kd.C_drew ?_))); (case side4 => exact HC0.out); rintro e w' ⟨rfl, ⟨nd, rfl⟩⟩; refine ⟨_, rfl, ?_⟩))
      go_meet
      case rel => exact ⟨_, (true), (by first | rfl | (simp; done) | (simp [*]; done)), H', ⟨by have := HJ2.out; first | omega | exact Nat.le_refl _⟩, ⟨by (with_reducible repeat (first | apply Kd.R_alloc | apply Kd.R_drewN | apply Kd.R_drew)); exact HO292.out⟩, BK283, ⟨by repeat (first | (with_reducible first | exact HB.out | apply below_alloc | apply pw_below_drewN | apply below_drew1 | refine below_set ?_ (Aside0.out (by assumption))) | exact HB.out)⟩⟩
    case rest =>
     clear HC19
     try clear c1; try clear c2; try clear p2; try clear c3; try clear c6; try clear p6; try clear c7; try clear c7b0; try clear c8; try clear c8b0; try clear c12; try clear c15; try clear c27; try clear hcz10_0; try clear hcz10_1; try clear hcz10_2; try clear hcz11_0; try clear hcz11_1; try clear hcz11_2; try clear hcz23_0; try clear hcz23_1; try clear hcz23_2; try clear hcz9_0; try clear hcz9_1; try clear hcz9_2; try clear hfz10_0; try clear hfz10_1; try clear hfz10_2; try clear hfz11_0; try clear hfz11_1; try clear hfz11_2; try clear hfz23_0; try clear hfz23_1; try clear hfz23_2; try clear hfz9_0; try clear hfz9_1; try clear hfz9_2; try clear p2; try clear p6
     obtain ⟨kq, x52_18, rfl, HA, HJ18, HO_7, BK283, HB⟩ := hcut
     cases kq with
     | zero => exact absurd HA.out (by simp [acmelaw12_MillCauses.j1])
     | succ kj18 =>
      have H := HA.out
      clear HA
      simp only [acmelaw12_MillCauses.j1] at H
      by_cases c28 : x52_18 = true
      ·subst c28
       have H1 : (none) = some r := by rw [if_pos rfl] at H; exact H
       clear H
       have H := H1
       clear H1
       exact absurd H (by simp)
      ·replace c28 := Bool.eq_false_iff.mpr c28
       subst c28
       have H1 : (if t294 = 0 then ((acmeref12_Causes.f kj18 l0 a1_0 a1_1 a1_2).bind fun bt299 => (if t293 = bt299.2 then ((acmeref12_Same.f kj18 t290 bt299.1).bind fun t303 => (if t303 = true then ((acmelaw12_known.f).bind fun t304 => (some t304)) else (none))) else (none))) else (if t293 = t294 then ((acmeref12_Same.f kj18 t290 (([] : List (S79)))).bind fun t305 => (if t305 = true then ((acmelaw12_known.f).bind fun t306 => (some t306)) else (none))) else (none))) = some r := by rw [if_neg (show ¬ (false = true) by decide)] at H; exact H
       clear H
       have H := H1
       clear H1
       obtain ⟨y296, hy296⟩ : ∃ y_ : List (S79), y_ = (([] : List (S79))) := ⟨_, rfl⟩
       replace H : (if t294 = 0 then ((acmeref12_Causes.f kj18 l0 a1_0 a1_1 a1_2).bind fun bt299 => (if t293 = bt299.2 then ((acmeref12_Same.f kj18 t290 bt299.1).bind fun t303 => (if t303 = true then ((acmelaw12_known.f).bind fun t304 => (some t304)) else (none))) else (none))) else (if t293 = t294 then ((acmeref12_Same.f kj18 t290 y296).bind fun t305 => (if t305 = true then ((acmelaw12_known.f).bind fun t306 => (some t306)) else (none))) else (none))) = some r := by first | (rw [hy296]; with_reducible exact H) | (have H2_ := (Option.bind_some _ _).symm.trans H; rw [hy296]; with_reducible exact H2_) | (have H2_ := (Option.bind_some _ _).symm.trans H; with_reducible exact H2_) | with_reducible exact H | (rw [hy296]; exact H) | exact H
       have Ny296 := Aside0.mk hy296
       clear hy296
       by_cases c29 : t294 = 0
       ·rw [if_pos c29] at H
        have c29b0 : (t294 == 0) = true := beq_iff_eq.mpr c29
        have c29b1 : (t294 != 0) = false := bne_eq_false_iff_eq.mpr c29
        clear c29
        replace H := Option.bind_eq_some_iff.mp H
        obtain ⟨⟨t299, t302⟩, A300, H⟩ := H; (try dsimp only at H)
        have A30 := Aside0.mk A300
        clear A300
        by_cases c31 : t293 = t302
        ·rw [if_pos c31] at H
         have c31b0 : (t293 == t302) = true := beq_iff_eq.mpr c31
         have c31b1 : (t293 != t302) = false := bne_eq_false_iff_eq.mpr c31
         clear c31
         replace H := Option.bind_eq_some_iff.mp H
         obtain ⟨t303, A320, H⟩ := H; (try dsimp only at H)
         have A32 := Aside0.mk A320
         clear A320
         by_cases c33 : t303 = true
         ·subst c33
          have H1 : ((acmelaw12_known.f).bind fun t304 => (some t304)) = some r := by rw [if_pos rfl] at H; exact H
          clear H
          have H := H1
          clear H1
          replace H := Option.bind_eq_some_iff.mp H
          obtain ⟨t304, A340, H⟩ := H; (try dsimp only at H)
          have A34 := Aside0.mk A340
          clear A340
          obtain rfl := Option.some.inj H
          go_wp2_with (first | ((with_reducible refine gate_dst (N := 53) rfl ?_); refine Kd.R_lit k79 _ 79 ?hg (N := 53) ?hd (xs := ([] : List (S79))) (inner := []) (ok := fun _ => True) (okp := fun _ => True) ?hr ?hp (fun _ hk => hk) trivial (Below.refl _ _) (Nat.le_refl _) (by simp) ?_; (case hd => rfl); (case hg => rfl); (case hr => first | (go_simp; done) | (go_simp; rfl)); (case hp => exact (Reps.none _ _)); intro v297 w35 ho36 hb hg_ hnew_; clear hg_ hnew_; (first | rw [← Ny296.out] at ho36 | (simp only [Int.reduceToNat] at ho36; rw [← Ny296.out] at ho36)); have HO298 := Aside0.mk (Kd.R_lower (Kd.R_new' ho36 (Kd.R_lt (by (with_reducible repeat (first | apply Kd.R_alloc | apply Kd.R_drewN | apply Kd.R_drew)); exact HO_7.out))) (below_size (by repeat (first | (with_reducible first | exact HB.out | apply below_alloc | apply pw_below_drewN | apply below_drew1 | refine below_set ?_ (Aside0.out (by assumption))) | exact HB.out)))); replace HO_7 := Aside0.mk (Kd.R_elder' (by (with_reducible repeat (first | apply Kd.R_alloc | apply Kd.R_drewN | apply Kd.R_drew)); exact HO_7.out) (Kd.R_base ho36) hb); replace BK283 := Aside0.mk (blk_below (g := gb283) (o := .cells #[.int .i64 a1_0, .int .i64 a1_1, .int .i64 a1_2] 58 (0, 0)) (by repeat (first | (with_reducible first | exact BK283.out | refine blk_drewN ?_ _ | refine blk_drew ?_ | refine blk_alloc ?_ _) | exact BK283.out)) hb); replace HB := Aside0.mk (below_step (by repeat (first | (with_reducible first | exact HB.out | apply below_alloc | apply pw_below_drewN | apply below_drew1 | refine below_set ?_ (Aside0.out (by assumption))) | exact HB.out)) hb); clear hb ho36; obtain ⟨hcz37_0, hcz37_1, hcz37_2⟩ := bc3 BK283.out; obtain ⟨hfz37_0, hfz37_1, hfz37_2⟩ := bf3 BK283.out) | ((with_reducible refine gate_callee (f := 36) rfl ?_); refine goesL_ (some 59) rfl rfl Try.func36 (by kernel_rfl) rfl #[.slice A0 l0.length c0, .agg #[.int .i64 a1_0, .int .i64 a1_1, .int .i64 a1_2]] rfl (by (try simp only [List.map_toArray, List.map_cons, List.map_nil]); first | done | rfl | (simp only [List.length_drop, List.length_take]; rfl)) ?_; (with_reducible refine (acmeref12_Causes.calls kj18 _ _ l0 a1_0 a1_1 a1_2 t299 t302 _ ?side1 ?side2 A30.out).mono ?_); (case side1 => repeat (first | exact (Kd.C_below HR0.out HB.out) | (with_reducible refine Kd.C_alloc ?_ _) | (with_reducible refine Kd.C_drewN ?_ _) | (with_reducible refine Kd.C_drew ?_))); (case side2 => exact HC0.out); rintro e w38 ⟨v300, rfl, ho0, hb⟩; refine ⟨_, rfl, ?_⟩; have HO301 := Aside0.mk (Kd.R_lower (Kd.R_new' (Kd.R_new' ho0 (Kd.R_lt (by (with_reducible repeat (first | apply Kd.R_alloc | apply Kd.R_drewN | apply Kd.R_drew)); exact HO_7.out))) (Kd.R_lt (by (with_reducible repeat (first | apply Kd.R_alloc | apply Kd.R_drewN | apply Kd.R_drew)); exact HO298.out))) (below_size (by repeat (first | (with_reducible first | exact HB.out | apply below_alloc | apply pw_below_drewN | apply below_drew1 | refine below_set ?_ (Aside0.out (by assumption))) | exact HB.out)))); replace HO_7 := Aside0.mk (Kd.R_elder' (by (with_reducible repeat (first | apply Kd.R_alloc | apply Kd.R_drewN | apply Kd.R_drew)); exact HO_7.out) (Kd.R_base ho0) hb); replace HO298 := Aside0.mk (Kd.R_elder' (by (with_reducible repeat (first | apply Kd.R_alloc | apply Kd.R_drewN | apply Kd.R_drew)); exact HO298.out) (Kd.R_base ho0) hb); replace BK283 := Aside0.mk (blk_below (g := gb283) (o := .cells #[.int .i64 a1_0, .int .i64 a1_1, .int .i64 a1_2] 58 (0, 0)) (by repeat (first | (with_reducible first | exact BK283.out | refine blk_drewN ?_ _ | refine blk_drew ?_ | refine blk_alloc ?_ _) | exact BK283.out)) hb); replace HB := Aside0.mk (below_step (by repeat (first | (with_reducible first | exact HB.out | apply below_alloc | apply pw_below_drewN | apply below_drew1 | refine below_set ?_ (Aside0.out (by assumption))) | exact HB.out)) hb); (try clear hb); (try clear hb2); (try clear hk); (try clear hi); (try clear ho0); obtain ⟨Ao39, co39, eo39⟩ := Kd.R_slice HO_7.out; subst eo39; obtain ⟨Ao40, co40, eo40⟩ := Kd.R_slice HO301.out; subst eo40) | (go_at_call 37; (with_reducible refine (acmeref12_Same.calls kj18 _ _ t290 _ _ t299 true _ ?side1 ?side2 ?side3 ?side4 A32.out).mono ?_); (case side1 => repeat (first | exact (Kd.R_reads' HO_7.out).2.2 | (with_reducible refine Kd.C_alloc ?_ _) | (with_reducible refine Kd.C_drewN ?_ _) | (with_reducible refine Kd.C_drew ?_))); (case side2 => exact (Kd.R_reads' HO_7.out).2.1); (case side3 => repeat (first | exact (Kd.R_reads' HO301.out).2.2 | (with_reducible refine Kd.C_alloc ?_ _) | (with_reducible refine Kd.C_drewN ?_ _) | (with_reducible refine Kd.C_drew ?_))); (case side4 => exact (Kd.R_reads' HO301.out).2.1); rintro e w' ⟨rfl, ⟨nd, rfl⟩⟩) | (go_at_call 15; (with_reducible refine (acmelaw12_known.calls  t304 _ A34.out).mono ?_); rintro e w41 ⟨rfl, hb⟩; replace HO_7 := Aside0.mk (Kd.R_below (by (with_reducible repeat (first | apply Kd.R_alloc | apply Kd.R_drewN | apply Kd.R_drew)); exact HO_7.out) hb); replace HO298 := Aside0.mk (Kd.R_below (by (with_reducible repeat (first | apply Kd.R_alloc | apply Kd.R_drewN | apply Kd.R_drew)); exact HO298.out) hb); replace HO301 := Aside0.mk (Kd.R_below (by (with_reducible repeat (first | apply Kd.R_alloc | apply Kd.R_drewN | apply Kd.R_drew)); exact HO301.out) hb); replace BK283 := Aside0.mk (blk_below (g := gb283) (o := .cells #[.int .i64 a1_0, .int .i64 a1_1, .int .i64 a1_2] 58 (0, 0)) (by repeat (first | (with_reducible first | exact BK283.out | refine blk_drewN ?_ _ | refine blk_drew ?_ | refine blk_alloc ?_ _) | exact BK283.out)) hb); replace HB := Aside0.mk (below_step (by repeat (first | (with_reducible first | exact HB.out | apply below_alloc | apply pw_below_drewN | apply below_drew1 | refine below_set ?_ (Aside0.out (by assumption))) | exact HB.out)) hb); (try clear hb); (try clear hb2); (try clear hk); (try clear hi)))
          go_ret
          exact ⟨by first | rfl | (simp [errW_none, errW_some] <;> rfl) | (simp [*, errW_none, errW_some] <;> rfl), by repeat (first | (with_reducible first | exact HB.out | apply below_alloc | apply pw_below_drewN | apply below_drew1 | refine below_set ?_ (Aside0.out (by assumption))) | exact HB.out)⟩
         ·replace c33 := Bool.eq_false_iff.mpr c33
          subst c33
          have H1 : (none) = some r := by rw [if_neg (show ¬ (false = true) by decide)] at H; exact H
          clear H
          have H := H1
          clear H1
          exact absurd H (by simp)
        ·rw [if_neg c31] at H
         exact absurd H (by simp)
       ·rw [if_neg c29] at H
        have c29b0 : (t294 == 0) = false := beq_eq_false_iff_ne.mpr c29
        have c29b1 : (t294 != 0) = true := bne_iff_ne.mpr c29
        by_cases c42 : t293 = t294
        ·rw [if_pos c42] at H
         have c42b0 : (t293 == t294) = true := beq_iff_eq.mpr c42
         have c42b1 : (t293 != t294) = false := bne_eq_false_iff_eq.mpr c42
         clear c42
         replace H := Option.bind_eq_some_iff.mp H
         obtain ⟨t305, A430, H⟩ := H; (try dsimp only at H)
         have A43 := Aside0.mk A430
         clear A430
         by_cases c44 : t305 = true
         ·subst c44
          have H1 : ((acmelaw12_known.f).bind fun t306 => (some t306)) = some r := by rw [if_pos rfl] at H; exact H
          clear H
          have H := H1
          clear H1
          replace H := Option.bind_eq_some_iff.mp H
          obtain ⟨t306, A450, H⟩ := H; (try dsimp only at H)
          have A45 := Aside0.mk A450
          clear A450
          obtain rfl := Option.some.inj H
          go_wp2_with (first | ((with_reducible refine gate_dst (N := 53) rfl ?_); refine Kd.R_lit k79 _ 79 ?hg (N := 53) ?hd (xs := ([] : List (S79))) (inner := []) (ok := fun _ => True) (okp := fun _ => True) ?hr ?hp (fun _ hk => hk) trivial (Below.refl _ _) (Nat.le_refl _) (by simp) ?_; (case hd => rfl); (case hg => rfl); (case hr => first | (go_simp; done) | (go_simp; rfl)); (case hp => exact (Reps.none _ _)); intro v297 w46 ho47 hb hg_ hnew_; clear hg_ hnew_; (first | rw [← Ny296.out] at ho47 | (simp only [Int.reduceToNat] at ho47; rw [← Ny296.out] at ho47)); have HO298 := Aside0.mk (Kd.R_lower (Kd.R_new' ho47 (Kd.R_lt (by (with_reducible repeat (first | apply Kd.R_alloc | apply Kd.R_drewN | apply Kd.R_drew)); exact HO_7.out))) (below_size (by repeat (first | (with_reducible first | exact HB.out | apply below_alloc | apply pw_below_drewN | apply below_drew1 | refine below_set ?_ (Aside0.out (by assumption))) | exact HB.out)))); replace HO_7 := Aside0.mk (Kd.R_elder' (by (with_reducible repeat (first | apply Kd.R_alloc | apply Kd.R_drewN | apply Kd.R_drew)); exact HO_7.out) (Kd.R_base ho47) hb); replace BK283 := Aside0.mk (blk_below (g := gb283) (o := .cells #[.int .i64 a1_0, .int .i64 a1_1, .int .i64 a1_2] 58 (0, 0)) (by repeat (first | (with_reducible first | exact BK283.out | refine blk_drewN ?_ _ | refine blk_drew ?_ | refine blk_alloc ?_ _) | exact BK283.out)) hb); replace HB := Aside0.mk (below_step (by repeat (first | (with_reducible first | exact HB.out | apply below_alloc | apply pw_below_drewN | apply below_drew1 | refine below_set ?_ (Aside0.out (by assumption))) | exact HB.out)) hb); clear hb ho47; obtain ⟨Ao48, co48, eo48⟩ := Kd.R_slice HO_7.out; subst eo48; obtain ⟨Ao49, co49, eo49⟩ := Kd.R_slice HO298.out; subst eo49) | (go_at_call 37; (with_reducible refine (acmeref12_Same.calls kj18 _ _ t290 _ _ y296 true _ ?side1 ?side2 ?side3 ?side4 A43.out).mono ?_); (case side1 => repeat (first | exact (Kd.R_reads' HO_7.out).2.2 | (with_reducible refine Kd.C_alloc ?_ _) | (with_reducible refine Kd.C_drewN ?_ _) | (with_reducible refine Kd.C_drew ?_))); (case side2 => exact (Kd.R_reads' HO_7.out).2.1); (case side3 => repeat (first | exact (Kd.R_reads' HO298.out).2.2 | (with_reducible refine Kd.C_alloc ?_ _) | (with_reducible refine Kd.C_drewN ?_ _) | (with_reducible refine Kd.C_drew ?_))); (case side4 => exact (Kd.R_reads' HO298.out).2.1); rintro e w' ⟨rfl, ⟨nd, rfl⟩⟩) | (go_at_call 15; (with_reducible refine (acmelaw12_known.calls  t306 _ A45.out).mono ?_); rintro e w50 ⟨rfl, hb⟩; replace HO_7 := Aside0.mk (Kd.R_below (by (with_reducible repeat (first | apply Kd.R_alloc | apply Kd.R_drewN | apply Kd.R_drew)); exact HO_7.out) hb); replace HO298 := Aside0.mk (Kd.R_below (by (with_reducible repeat (first | apply Kd.R_alloc | apply Kd.R_drewN | apply Kd.R_drew)); exact HO298.out) hb); replace BK283 := Aside0.mk (blk_below (g := gb283) (o := .cells #[.int .i64 a1_0, .int .i64 a1_1, .int .i64 a1_2] 58 (0, 0)) (by repeat (first | (with_reducible first | exact BK283.out | refine blk_drewN ?_ _ | refine blk_drew ?_ | refine blk_alloc ?_ _) | exact BK283.out)) hb); replace HB := Aside0.mk (below_step (by repeat (first | (with_reducible first | exact HB.out | apply below_alloc | apply pw_below_drewN | apply below_drew1 | refine below_set ?_ (Aside0.out (by assumption))) | exact HB.out)) hb); (try clear hb); (try clear hb2); (try clear hk); (try clear hi)))
          go_ret
          exact ⟨by first | rfl | (simp [errW_none, errW_some] <;> rfl) | (simp [*, errW_none, errW_some] <;> rfl), by repeat (first | (with_reducible first | exact HB.out | apply below_alloc | apply pw_below_drewN | apply below_drew1 | refine below_set ?_ (Aside0.out (by assumption))) | exact HB.out)⟩
         ·replace c44 := Bool.eq_false_iff.mpr c44
          subst c44
          have H1 : (none) = some r := by rw [if_neg (show ¬ (false = true) by decide)] at H; exact H
          clear H
          have H := H1
          clear H1
          exact absurd H (by simp)
        ·rw [if_neg c42] at H
         exact absurd H (by simp)

end Go.Proofs.Ytiaiecfnpompcaa.T
