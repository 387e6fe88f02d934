-- cut down, squeezed and laid together by pack.py (a program of this repository) out of this seat's texts
import Derived.WalkKit
import Derived.MapKept
import Derived.RangeFuncNested
import Derived.RangeFuncBound
import Derived.RangeFuncCalls
import Derived.RangeFuncLeaves
import Derived.Shelf.Abstract
import Derived.Shelf.RegionOpen
import Derived.OwnWalkIn
import Derived.TacticsInMore
import Derived.LoopNIn
import Derived.LoopIn
import Derived.Shelf.SlSortCmp.InsertionK
import Derived.ChangeKeysEq
import Derived.Laws.StructEq
import Derived.KernelRfl
import Derived.Test.YtiaiecfnpompcaaZL13
import Derived.Test.YtiaiecfnpompcaaZL14
import Derived.Test.YtiaiecfnpompcaaZL12
import Derived.Test.YtiaiecfnpompcaaZL2
import Derived.Test.YtiaiecfnpompcaaZL5
import Derived.Test.YtiaiecfnpompcaaZL11
import Derived.Test.YtiaiecfnpompcaaZL3
import Derived.Test.YtiaiecfnpompcaaZL4
import Derived.Test.YtiaiecfnpompcaaZL1
import Derived.Test.YtiaiecfnpompcaaZL7
import Derived.Test.YtiaiecfnpompcaaZL8
import Derived.Test.YtiaiecfnpompcaaZL6
import Derived.Test.YtiaiecfnpompcaaZL10
import Derived.Test.YtiaiecfnpompcaaZL9
namespace Go.Proofs.Ytiaiecfnpompcaa.T
open Go Go.RowKit Go.Shelf Go.Sort Go.Proofs.Ytiaiecfnpompcaa.Ab Go.Proofs.YtiaiecfnpompcaaW.PrintWords
set_option linter.unusedVariables false
set_option linter.unusedSimpArgs false

def dec79 : Nat → List Value → Option (List S79 × List Value)
 | 0, l => some ([], l)
 | n + 1, .int .i64 a :: .int .i64 b :: .int .i64 c :: l => match dec79 n l with
  | some (xs, r) => some (⟨a, b, c⟩ :: xs, r)
  | none => none
 | _, _ => none
theorem dec79_some : ∀ {n : Nat} {l : List Value} {xs : List S79} {r : List Value}, dec79 n l = some (xs, r) → l = xs.flatMap enc79 ++ r ∧ xs.length = n
 | 0, l, xs, r, h => by
  simp only [dec79, Option.some.injEq, Prod.mk.injEq] at h
  obtain ⟨rfl, rfl⟩ := h
  exact ⟨rfl, rfl⟩
 | n + 1, l, xs, r, h => by
  unfold dec79 at h
  split at h
  ·simp at *
  ·rename_i n' a b c l' heq
   obtain rfl := Nat.succ.inj heq
   split at h
   ·rename_i ys r' h2
    simp only [Option.some.injEq, Prod.mk.injEq] at h
    obtain ⟨rfl, rfl⟩ := h
    obtain ⟨h3, h4⟩ := dec79_some h2
    exact ⟨by rw [h3]; rfl, by simp [h4]⟩
   ·simp at h
  ·simp at h
def ins79 (x : S79) : List S79 → List S79
 | [] => [x]
 | y :: l => match lt79 y x with
  | true => y :: ins79 x l
  | false => x :: y :: l
def isort79 : List S79 → List S79
 | [] => []
 | x :: l => ins79 x (isort79 l)
theorem ins79_perm (x : S79) : ∀ l, (ins79 x l).Perm (x :: l)
 | [] => List.Perm.refl _
 | y :: l => by
  unfold ins79
  split
  ·exact ((ins79_perm x l).cons y).trans (List.Perm.swap x y l)
  ·exact List.Perm.refl _
theorem isort79_perm : ∀ l, (isort79 l).Perm l
 | [] => List.Perm.refl _
 | x :: l => (ins79_perm x _).trans ((isort79_perm l).cons x)
theorem lt79_iff (x y : S79) : lt79 x y = true ↔ (x.f0 < y.f0 ∨ x.f0 = y.f0 ∧ (x.f1 < y.f1 ∨ x.f1 = y.f1 ∧ x.f2 < y.f2)) := by simp only [lt79, decide_eq_true_eq]
theorem not_lt79_iff (x y : S79) : (!lt79 x y) = true ↔ ¬ (x.f0 < y.f0 ∨ x.f0 = y.f0 ∧ (x.f1 < y.f1 ∨ x.f1 = y.f1 ∧ x.f2 < y.f2)) := by rw [← lt79_iff]; simp
theorem le79_trans (a b c : S79) (h1 : (!lt79 b a) = true) (h2 : (!lt79 c b) = true) : (!lt79 c a) = true := by
 rw [not_lt79_iff] at *; omega
theorem le79_total (a b : S79) : ((!lt79 b a) || (!lt79 a b)) = true := by
 rw [Bool.or_eq_true, not_lt79_iff, not_lt79_iff]; omega
theorem ins79_sorted (x : S79) : ∀ l, l.Pairwise (fun x y => (!lt79 y x) = true) → (ins79 x l).Pairwise (fun x y => (!lt79 y x) = true)
 | [], _ => by simp [ins79]
 | y :: l, h => by
  unfold ins79
  have h' := List.pairwise_cons.1 h
  split
  ·rename_i q
   refine List.pairwise_cons.2 ⟨fun z hz => ?_, ins79_sorted x l h'.2⟩
   rcases List.mem_cons.1 ((ins79_perm x l).mem_iff.1 hz) with rfl | hz
   ·rw [not_lt79_iff]; rw [lt79_iff] at q; omega
   ·exact h'.1 z hz
  ·rename_i q
   have q' : (!lt79 y x) = true := by rw [q]; rfl
   refine List.pairwise_cons.2 ⟨fun z hz => ?_, h⟩
   rcases List.mem_cons.1 hz with rfl | hz
   ·exact q'
   ·exact le79_trans x y z q' (h'.1 z hz)
theorem isort79_sorted : ∀ l, (isort79 l).Pairwise (fun x y => (!lt79 y x) = true)
 | [] => List.Pairwise.nil
 | x :: l => ins79_sorted x _ (isort79_sorted l)
theorem isort79_eq (l : List S79) : isort79 l = l.mergeSort fun x y => !lt79 y x := by
 refine List.Perm.eq_of_pairwise (le := fun x y => (!lt79 y x) = true) (fun a b _ _ h1 h2 => ?_) (isort79_sorted l) (List.pairwise_mergeSort (fun a b c h1 h2 => le79_trans a b c h1 h2) (fun a b => le79_total a b) _) ((isort79_perm l).trans (List.mergeSort_perm _ _).symm)
 simp only [Bool.not_eq_true'] at h1 h2
 exact total79 a b (by rw [ltOf79]; exact h2) (by rw [ltOf79]; exact h1)

theorem flat_get (xs : List S79) (t : Nat) (h : t < xs.length * 3) : (xs.flatMap enc79)[t]? = some (flatK enc79 3 xs.toArray)[t]! := by
 rw [get_flatK enc79 3 xs.toArray t (by simpa using h)]
 induction xs generalizing t with
 | nil => simp at h
 | cons x xs ih =>
  simp only [List.flatMap_cons]
  by_cases ht : t < 3
  ·rw [List.getElem?_append_left (by simp [enc79]; omega)]
   have h0 : t / 3 = 0 := by omega
   have h1 : t % 3 = t := by omega
   rw [h0, h1]
   simp only [enc79]
   obtain rfl | rfl | rfl : t = 0 ∨ t = 1 ∨ t = 2 := by omega
   all_goals rfl
  ·rw [List.getElem?_append_right (by simp [enc79]; omega)]
   simp only [enc79, List.length_cons, List.length_nil]
   have := ih (t - 3) (by simp at h; omega)
   simp only [enc79] at this
   rw [this]
   have h0 : t / 3 = (t - 3) / 3 + 1 := by omega
   have h1 : t % 3 = (t - 3) % 3 := by omega
   rw [h0, h1]
   have hl : (t - 3) / 3 < xs.length := by simp at h; omega
   congr 2
   simp [hl]
theorem flat_len (xs : List S79) : (xs.flatMap enc79).length = xs.length * 3 := by
 induction xs with
 | nil => rfl
 | cons x xs ih => simp [List.flatMap_cons, ih, enc79]; omega
theorem flat_int (xs : List S79) (t : Nat) (h : t < xs.length * 3) : ∃ n, (flatK enc79 3 xs.toArray)[t]! = .int .i64 n := by
 have h1 := flat_get xs t h
 have : (flatK enc79 3 xs.toArray)[t]! ∈ xs.flatMap enc79 := List.mem_of_getElem? h1
 obtain ⟨x, _, hx⟩ := List.mem_flatMap.1 this
 simp only [enc79, List.mem_cons, List.not_mem_nil, or_false] at hx
 rcases hx with h | h | h <;> exact ⟨_, h⟩

def or92 (ro : Nat) (args : List Value) (st : St) : Ans :=
 match args with
 | [.slice (some ⟨b, 0, none⟩) n 3, .func (.func 93) ⟨[]⟩ ⟨[]⟩] => match Nat.ble ro b, lookB st.mem b, Nat.ble n 1000000 with
  | true, some (.c cs), true => match dec79 n cs with
   | some (xs, r) => some (.tuple ⟨[]⟩, ⟨st.next, put st.mem b (.c ((isort79 xs).flatMap enc79 ++ r))⟩)
   | none => none
  | _, _, _ => none
 | [.slice none 0 0, .func (.func 93) ⟨[]⟩ ⟨[]⟩] => some (.tuple ⟨[]⟩, st)
 | _ => none
def orcSort (f : FuncId) : Option (Nat → List Value → St → Ans) := match Nat.beq f 92 with
 | true => some or92
 | false => none
theorem VR.fn_inv {U : Nat → Prop} {ρ : Nat → Pl} {f : FuncId} {v : Value} (h : VR U ρ (.func (.func f) ⟨[]⟩ ⟨[]⟩) v) : v = .func (.func f) #[] #[] := by
 cases h with
 | fn _ _ _ xs' ys' h1 h2 => cases h1; cases h2; rfl

set_option maxHeartbeats 1000000 in
theorem or92_ok {ro : Nat} {args : List Value} {st : St} {v : Value} {st' : St} (h : or92 ro args st = some (v, st')) {B : Nat} {U : Nat → Prop} {ρ : Nat → Pl} {w : World} {args' : List Value} (hr : HR B ro U ρ st.next st.mem w) (hl : VL U ρ args args') :
  Calls Try.prog 92 ⟨args'⟩ w fun e w' => ∃ v', e = .returned v' ∧ Post B ro U ρ st.next w v st' v' w' := by
 unfold or92 at h
 split at h
 ·rename_i b n
  split at h
  ·rename_i cs hro hb hn
   split at h
   ·rename_i xs r hd
    simp only [Option.some.injEq, Prod.mk.injEq] at h
    obtain ⟨rfl, rfl⟩ := h
    obtain ⟨hcs, hlen⟩ := dec79_some hd
    have hro := Nat.le_of_ble_eq_true hro
    have hn := Nat.le_of_ble_eq_true hn
    obtain ⟨hU, cs', t, hg, hsz, hcells⟩ := hr.blk b _ hb
    cases hl with
    | cons _ v1 _ l1 q1 q2 => cases q2 with
     | cons _ v2 _ l2 q3 q4 =>
      cases q4
      obtain rfl := VR.fn_inv q3
      cases q1 with
      | sl _ _ _ _ c _ hnc hfit =>
       have hcell : ∀ i, i < n * 3 → cs'[(ρ b).off + i]? = some (flatK enc79 3 xs.toArray)[i]! := by
        intro i hi
        have h1 := flat_get xs i (by omega)
        have h2 : cs[i]? = some (flatK enc79 3 xs.toArray)[i]! := by
         rw [hcs, List.getElem?_append_left (by rw [flat_len]; omega)]; exact h1
        obtain ⟨y, hy, hv⟩ := hcells i _ h2
        obtain ⟨m, hm⟩ := flat_int xs i (by omega)
        rw [hm] at hv ⊢
        cases hv
        exact hy
       have hH : HoldsK enc79 3 w (ρ b).g ((ρ b).off + 0) xs.toArray := by
        intro j hj
        have hj : j < n * 3 := by simpa [hlen] using hj
        refine ⟨?_, blk_frozen hg _⟩
        exact (blk_cell hg _).trans (by simpa using hcell j hj)
       have hlt := (Array.getElem?_eq_some_iff.1 hg).1
       have hmain := sort92.row (ρ b).g ((ρ b).off + 0) c xs w hH hlt (by omega)
       rw [hlen] at hmain
       refine hmain.mono ?_
       rintro e w' ⟨rfl, m, os, rfl⟩
       refine ⟨_, rfl, ?_⟩
       rw [← isort79_eq]
       have hil : (isort79 xs).length = n := by rw [(isort79_perm xs).length_eq, hlen]
       generalize isort79 xs = ys at hil
       unfold sortWorldK
       have e1 : (putRowK enc79 3 (Sort.ahead w m) (ρ b).g ((ρ b).off + 0) ys.toArray).heap = w.heap.modify (ρ b).g (onCells (putCells id ((ρ b).off + 0) (flatK enc79 3 ys.toArray))) := rfl
       have hr1 : HR B ro U ρ st.next (put st.mem b (.c (ys.flatMap enc79 ++ r))) (putRowK enc79 3 (Sort.ahead w m) (ρ b).g ((ρ b).off + 0) ys.toArray) := by
        refine hr.putAt hb ⟨hU, putCells id ((ρ b).off + 0) (flatK enc79 3 ys.toArray) cs', t, ?_, ?_, ?_⟩ ?_ ?_
        ·rw [e1, Array.getElem?_modify, if_pos rfl, hg]; rfl
        ·simp [putCells, hsz]
        ·intro i x hx
         have hcl : cs.length = n * 3 + r.length := by rw [hcs, List.length_append, flat_len, hlen]
         by_cases hi : i < n * 3
         ·rw [List.getElem?_append_left (by rw [flat_len]; omega), flat_get ys i (by omega)] at hx
          obtain rfl := Option.some.inj hx
          refine ⟨(flatK enc79 3 ys.toArray)[i]!, ?_, ?_⟩
          ·simp only [putCells, Array.getElem?_mapIdx, hcell i hi, Option.map_some]
           rw [if_pos (by simp; omega)]
           simp
          ·obtain ⟨k, hk⟩ := flat_int ys i (by omega)
           rw [hk]; exact .int _ _
         ·rw [List.getElem?_append_right (by rw [flat_len]; omega), flat_len, hil] at hx
          have : cs[i]? = some x := by
           rw [hcs, List.getElem?_append_right (by rw [flat_len]; omega), flat_len, hlen]; exact hx
          obtain ⟨y, hy, hv⟩ := hcells i x this
          refine ⟨y, ?_, hv⟩
          simp only [putCells, Array.getElem?_mapIdx, hy, Option.map_some]
          rw [if_neg (by simp; omega)]
        ·intro j hj
         rw [e1, Array.getElem?_modify, if_neg (fun q => hj q.symm)]
        ·rw [e1]; simp
       have hb2 : Below (putRowK enc79 3 (Sort.ahead w m) (ρ b).g ((ρ b).off + 0) ys.toArray).heap.size (putRowK enc79 3 (Sort.ahead w m) (ρ b).g ((ρ b).off + 0) ys.toArray) (Sort.grow (putRowK enc79 3 (Sort.ahead w m) (ρ b).g ((ρ b).off + 0) ys.toArray) os) :=
        ⟨rfl, rfl, rfl, by simp [Sort.grow], fun k hk => by simp only [Sort.grow]; rw [Array.getElem?_append_left hk]⟩
       refine ⟨U, ρ, Ext.refl _ _ _, hr1.still hb2, .tup _ _ .nil, Below.trans (b := putRowK enc79 3 (Sort.ahead w m) (ρ b).g ((ρ b).off + 0) ys.toArray) ⟨rfl, rfl, rfl, by rw [e1]; simp, fun k hk => ?_⟩ (hb2.mono (by rw [e1]; simpa using hr.base))⟩
       rw [e1, Array.getElem?_modify, if_neg ?_]
       have := hr.own _ _ hb hro
       omega
   ·simp at h
  ·simp at h
 ·simp only [Option.some.injEq, Prod.mk.injEq] at h
  obtain ⟨rfl, rfl⟩ := h
  cases hl with
  | cons _ v1 _ l1 q1 q2 => cases q2 with
   | cons _ v2 _ l2 q3 q4 =>
    cases q4
    obtain rfl := VR.fn_inv q3
    cases q1
    refine (AnyF.slices_SortFunc_none sort92_lays none 0 _ w).mono ?_
    rintro e w' ⟨rfl, rfl⟩
    exact ⟨_, rfl, U, ρ, Ext.refl _ _ _, hr, .tup _ _ .nil, Below.refl _ _⟩
 ·simp at h
theorem orcSort_ok : OrcOK Try.prog orcSort := by
 intro f g hf ro args st v st' h
 unfold orcSort at hf
 split at hf
 ·rename_i q
  obtain rfl := Nat.eq_of_beq_eq_true q
  obtain rfl := Option.some.inj hf
  exact ⟨⟨_, Try.func92, rfl⟩, fun B U ρ w args' hr hl => or92_ok h hr hl⟩
 ·simp at hf
end Go.Proofs.Ytiaiecfnpompcaa.T
namespace Go.Proofs.Ytiaiecfnpompcaa.T
open Go Go.RowKit Go.Proofs.Ytiaiecfnpompcaa.Ab
set_option linter.unusedVariables false
set_option linter.unusedSimpArgs false
def wr12 (f : FuncId) : Bool := Nat.beq f 65 || Nat.beq f 92 || Nat.beq f 58 || Nat.beq f 105 || Nat.beq f 111
def eqS (s t : St) : Bool := Nat.beq s.next t.next && eqL (fun p q => Nat.beq p.1 q.1 && eqB p.2 q.2) s.mem t.mem
theorem eqS_eq {s t : St} (h : eqS s t = true) : s = t := by
  obtain ⟨n, m⟩ := s
  obtain ⟨n', m'⟩ := t
  simp only [eqS, Bool.and_eq_true] at h
  rw [Nat.eq_of_beq_eq_true h.1, eqL_eq (fun x y q => ?_) h.2]
  simp only [Bool.and_eq_true] at q
  obtain ⟨b, k⟩ := x
  obtain ⟨b', k'⟩ := y
  simp only at q
  rw [Nat.eq_of_beq_eq_true q.1, eqB_eq q.2]
def hit (r0 : Nat) (a0 : List Value) (s0 : St) (r : Value × St) (ro : Nat) (args : List Value) (st : St) : Ans :=
  match Nat.beq ro r0, eqL (eqV 8) args a0, eqS st s0 with
  | true, true, true => some r
  | _, _, _ => none
theorem noNum (f : Nat) (fn : Func) (h : Try.prog.funcs[f]? = some fn) : (fn.name == "runtime.NumGoroutine") = false := by
  have hall : Try.prog.funcs.toList.all (fun fn => !(fn.name == "runtime.NumGoroutine")) = true := by kernel_rfl
  rw [List.all_eq_true] at hall
  have := hall fn (by simpa using Array.mem_of_getElem? h)
  simpa using this
def yes : Option (Value × St) → Bool
  | some (.bool b, _) => b
  | _ => false
theorem yes_some {x : Option (Value × St)} (h : yes x = true) : ∃ st, x = some (.bool true, st) := by
  unfold yes at h
  split at h
  · exact ⟨_, by rw [h]⟩
  · simp at h
theorem hit_ok {f : FuncId} {r0 : Nat} {a0 : List Value} {s0 : St} {r : Value × St} (h : aCall Try.prog orcSort wr12 1000 60 r0 (.fn f) a0 s0 = some r) {ro : Nat} {args : List Value} {st : St} {v : Value} {st' : St} (hh : hit r0 a0 s0 r ro args st = some (v, st')) :
    (∃ fn, Try.prog.funcs[f]? = some fn ∧ fn.body.isSome = true) ∧
    ∀ B U ρ w args', HR B ro U ρ st.next st.mem w → VL U ρ args args' → Calls Try.prog f ⟨args'⟩ w fun e w' => ∃ v', e = .returned v' ∧ Post B ro U ρ st.next w v st' v' w' := by
  unfold hit at hh
  split at hh
  · rename_i h1 h2 h3
    obtain rfl := Nat.eq_of_beq_eq_true h1
    obtain rfl := eqL_eq (eqV_eq 8) h2
    obtain rfl := eqS_eq h3
    obtain rfl := Option.some.inj hh
    obtain ⟨⟨fn, g1, g2, g3⟩, g4⟩ := aCall_ok (wr := wr12) (by kernel_rfl) noNum orcSort_ok 1000 60 ro (.fn f) args st v st' h
    exact ⟨⟨fn, g1, g3⟩, g4⟩
  · simp at hh
end Go.Proofs.Ytiaiecfnpompcaa.T
namespace Go.Proofs.Ytiaiecfnpompcaa.T
open Go Go.RowKit Go.Proofs.Ytiaiecfnpompcaa.Ab
def m17.o : Nat := 0
def m17.a : List Value := [Value.agg { toList := [Value.slice (some { block := 0, off := 0 }) 5 1, Value.int IntKind.i64 300, Value.int IntKind.i64 500] }, Value.int IntKind.i64 1000, Value.int IntKind.i64 600]
def m17.s : St := { next := 2, mem := [(1, Blk.c [Value.slice (some { block := 0, off := 0 }) 5 1, Value.int IntKind.i64 300, Value.int IntKind.i64 500]), (0, Blk.c [Value.int IntKind.i64 900, Value.int IntKind.i64 800, Value.int IntKind.i64 700, Value.int IntKind.i64 600, Value.int IntKind.i64 500])] }
def m17.r : Value × St := (Value.tuple { toList := [Value.slice (some { block := 399, off := 0 }) 4 2, Value.int IntKind.i64 0] }, { next := 403, mem := [(399, Blk.c [Value.int IntKind.i64 900, Value.bool false, Value.int IntKind.i64 800, Value.bool false, Value.int IntKind.i64 700, Value.bool true, Value.int IntKind.i64 600, Value.bool false]), (1, Blk.c [Value.slice (some { block := 0, off := 0 }) 5 1, Value.int IntKind.i64 300, Value.int IntKind.i64 500]), (0, Blk.c [Value.int IntKind.i64 900, Value.int IntKind.i64 800, Value.int IntKind.i64 700, Value.int IntKind.i64 600, Value.int IntKind.i64 500])] })
set_option maxRecDepth 1000000 in
theorem m17.ok : aCall Try.prog orcSort wr12 1000 60 m17.o (.fn 17) m17.a m17.s = some m17.r := by kernel_rfl
end Go.Proofs.Ytiaiecfnpompcaa.T
namespace Go.Proofs.Ytiaiecfnpompcaa.T
open Go Go.RowKit Go.Proofs.Ytiaiecfnpompcaa.Ab
def m28.o : Nat := 0
def m28.a : List Value := [Value.slice (some { block := 456, off := 0 }) 3 1, Value.slice (some { block := 457, off := 0 }) 4 1]
def m28.s : St := { next := 458, mem := [(457, Blk.c [Value.int IntKind.i64 40, Value.int IntKind.i64 30, Value.int IntKind.i64 50, Value.int IntKind.i64 30]), (456, Blk.c [Value.int IntKind.i64 100, Value.int IntKind.i64 60, Value.int IntKind.i64 50]), (455, Blk.c [Value.int IntKind.i64 (-730), Value.int IntKind.i64 106000]), (426, Blk.c [Value.int IntKind.i64 458, Value.int IntKind.i64 471]), (403, Blk.c [Value.int IntKind.i64 130, Value.int IntKind.i64 60, Value.int IntKind.i64 80, Value.int IntKind.i64 300]), (399, Blk.c [Value.int IntKind.i64 900, Value.bool false, Value.int IntKind.i64 800, Value.bool false, Value.int IntKind.i64 700, Value.bool true, Value.int IntKind.i64 600, Value.bool false]), (1, Blk.c [Value.slice (some { block := 0, off := 0 }) 5 1, Value.int IntKind.i64 300, Value.int IntKind.i64 500]), (0, Blk.c [Value.int IntKind.i64 900, Value.int IntKind.i64 800, Value.int IntKind.i64 700, Value.int IntKind.i64 600, Value.int IntKind.i64 500])] }
def m28.r : Value × St := (Value.tuple { toList := [Value.slice (some { block := 479, off := 0 }) 4 1, Value.int IntKind.i64 0] }, { next := 511, mem := [(479, Blk.c [Value.int IntKind.i64 0, Value.int IntKind.i64 0, Value.int IntKind.i64 1, Value.int IntKind.i64 0]), (457, Blk.c [Value.int IntKind.i64 40, Value.int IntKind.i64 30, Value.int IntKind.i64 50, Value.int IntKind.i64 30]), (456, Blk.c [Value.int IntKind.i64 100, Value.int IntKind.i64 60, Value.int IntKind.i64 50]), (455, Blk.c [Value.int IntKind.i64 (-730), Value.int IntKind.i64 106000]), (426, Blk.c [Value.int IntKind.i64 458, Value.int IntKind.i64 471]), (403, Blk.c [Value.int IntKind.i64 130, Value.int IntKind.i64 60, Value.int IntKind.i64 80, Value.int IntKind.i64 300]), (399, Blk.c [Value.int IntKind.i64 900, Value.bool false, Value.int IntKind.i64 800, Value.bool false, Value.int IntKind.i64 700, Value.bool true, Value.int IntKind.i64 600, Value.bool false]), (1, Blk.c [Value.slice (some { block := 0, off := 0 }) 5 1, Value.int IntKind.i64 300, Value.int IntKind.i64 500]), (0, Blk.c [Value.int IntKind.i64 900, Value.int IntKind.i64 800, Value.int IntKind.i64 700, Value.int IntKind.i64 600, Value.int IntKind.i64 500])] })
set_option maxRecDepth 1000000 in
theorem m28.ok : aCall Try.prog orcSort wr12 1000 60 m28.o (.fn 28) m28.a m28.s = some m28.r := by kernel_rfl
end Go.Proofs.Ytiaiecfnpompcaa.T
namespace Go.Proofs.Ytiaiecfnpompcaa.T
open Go Go.RowKit Go.Proofs.Ytiaiecfnpompcaa.Ab
def m33.o : Nat := 513
def m33.a : List Value := [Value.slice (some { block := 512, off := 0 }) 3 5, Value.agg { toList := [Value.int IntKind.i64 1, Value.int IntKind.i64 9, Value.int IntKind.i64 10] }]
def m33.s : St := { next := 513, mem := [(512, Blk.c [Value.int IntKind.i64 1, Value.int IntKind.i64 0, Value.int IntKind.i64 9, Value.int IntKind.i64 5, Value.int IntKind.i64 2, Value.int IntKind.i64 1, Value.int IntKind.i64 10, Value.int IntKind.i64 19, Value.int IntKind.i64 6, Value.int IntKind.i64 2, Value.int IntKind.i64 2, Value.int IntKind.i64 0, Value.int IntKind.i64 19, Value.int IntKind.i64 6, Value.int IntKind.i64 3]), (511, Blk.c [Value.int IntKind.i64 1, Value.int IntKind.i64 9, Value.int IntKind.i64 10]), (479, Blk.c [Value.int IntKind.i64 0, Value.int IntKind.i64 0, Value.int IntKind.i64 1, Value.int IntKind.i64 0]), (457, Blk.c [Value.int IntKind.i64 40, Value.int IntKind.i64 30, Value.int IntKind.i64 50, Value.int IntKind.i64 30]), (456, Blk.c [Value.int IntKind.i64 100, Value.int IntKind.i64 60, Value.int IntKind.i64 50]), (455, Blk.c [Value.int IntKind.i64 (-730), Value.int IntKind.i64 106000]), (426, Blk.c [Value.int IntKind.i64 458, Value.int IntKind.i64 471]), (403, Blk.c [Value.int IntKind.i64 130, Value.int IntKind.i64 60, Value.int IntKind.i64 80, Value.int IntKind.i64 300]), (399, Blk.c [Value.int IntKind.i64 900, Value.bool false, Value.int IntKind.i64 800, Value.bool false, Value.int IntKind.i64 700, Value.bool true, Value.int IntKind.i64 600, Value.bool false]), (1, Blk.c [Value.slice (some { block := 0, off := 0 }) 5 1, Value.int IntKind.i64 300, Value.int IntKind.i64 500]), (0, Blk.c [Value.int IntKind.i64 900, Value.int IntKind.i64 800, Value.int IntKind.i64 700, Value.int IntKind.i64 600, Value.int IntKind.i64 500])] }
def m33.r : Value × St := (Value.tuple { toList := [Value.slice (some { block := 573, off := 0 }) 5 3, Value.int IntKind.i64 0] }, { next := 574, mem := [(573, Blk.c [Value.int IntKind.i64 1, Value.int IntKind.i64 0, Value.int IntKind.i64 5, Value.int IntKind.i64 1, Value.int IntKind.i64 0, Value.int IntKind.i64 6, Value.int IntKind.i64 2, Value.int IntKind.i64 0, Value.int IntKind.i64 2, Value.int IntKind.i64 3, Value.int IntKind.i64 1, Value.int IntKind.i64 9, Value.int IntKind.i64 3, Value.int IntKind.i64 1, Value.int IntKind.i64 10]), (512, Blk.c [Value.int IntKind.i64 1, Value.int IntKind.i64 0, Value.int IntKind.i64 9, Value.int IntKind.i64 5, Value.int IntKind.i64 2, Value.int IntKind.i64 1, Value.int IntKind.i64 10, Value.int IntKind.i64 19, Value.int IntKind.i64 6, Value.int IntKind.i64 2, Value.int IntKind.i64 2, Value.int IntKind.i64 0, Value.int IntKind.i64 19, Value.int IntKind.i64 6, Value.int IntKind.i64 3]), (511, Blk.c [Value.int IntKind.i64 1, Value.int IntKind.i64 9, Value.int IntKind.i64 10]), (479, Blk.c [Value.int IntKind.i64 0, Value.int IntKind.i64 0, Value.int IntKind.i64 1, Value.int IntKind.i64 0]), (457, Blk.c [Value.int IntKind.i64 40, Value.int IntKind.i64 30, Value.int IntKind.i64 50, Value.int IntKind.i64 30]), (456, Blk.c [Value.int IntKind.i64 100, Value.int IntKind.i64 60, Value.int IntKind.i64 50]), (455, Blk.c [Value.int IntKind.i64 (-730), Value.int IntKind.i64 106000]), (426, Blk.c [Value.int IntKind.i64 458, Value.int IntKind.i64 471]), (403, Blk.c [Value.int IntKind.i64 130, Value.int IntKind.i64 60, Value.int IntKind.i64 80, Value.int IntKind.i64 300]), (399, Blk.c [Value.int IntKind.i64 900, Value.bool false, Value.int IntKind.i64 800, Value.bool false, Value.int IntKind.i64 700, Value.bool true, Value.int IntKind.i64 600, Value.bool false]), (1, Blk.c [Value.slice (some { block := 0, off := 0 }) 5 1, Value.int IntKind.i64 300, Value.int IntKind.i64 500]), (0, Blk.c [Value.int IntKind.i64 900, Value.int IntKind.i64 800, Value.int IntKind.i64 700, Value.int IntKind.i64 600, Value.int IntKind.i64 500])] })
set_option maxRecDepth 1000000 in
theorem m33.ok : aCall Try.prog orcSort wr12 1000 60 m33.o (.fn 33) m33.a m33.s = some m33.r := by kernel_rfl
end Go.Proofs.Ytiaiecfnpompcaa.T
namespace Go.Proofs.Ytiaiecfnpompcaa.T
open Go Go.RowKit Go.Proofs.Ytiaiecfnpompcaa.Ab
def m40.o : Nat := 0
def m40.a : List Value := [Value.slice (some { block := 575, off := 0 }) 3 5, Value.slice (some { block := 577, off := 0 }) 2 3, Value.slice none 0 0]
def m40.s : St := { next := 578, mem := [(577, Blk.c [Value.int IntKind.i64 1, Value.int IntKind.i64 9, Value.int IntKind.i64 10, Value.int IntKind.i64 2, Value.int IntKind.i64 0, Value.int IntKind.i64 3]), (575, Blk.c [Value.int IntKind.i64 1, Value.int IntKind.i64 0, Value.int IntKind.i64 9, Value.int IntKind.i64 5, Value.int IntKind.i64 2, Value.int IntKind.i64 1, Value.int IntKind.i64 10, Value.int IntKind.i64 19, Value.int IntKind.i64 6, Value.int IntKind.i64 2, Value.int IntKind.i64 2, Value.int IntKind.i64 0, Value.int IntKind.i64 19, Value.int IntKind.i64 6, Value.int IntKind.i64 3]), (574, Blk.c [Value.int IntKind.i64 1, Value.int IntKind.i64 9, Value.int IntKind.i64 10, Value.int IntKind.i64 2, Value.int IntKind.i64 0, Value.int IntKind.i64 3]), (512, Blk.c [Value.int IntKind.i64 1, Value.int IntKind.i64 0, Value.int IntKind.i64 9, Value.int IntKind.i64 5, Value.int IntKind.i64 2, Value.int IntKind.i64 1, Value.int IntKind.i64 10, Value.int IntKind.i64 19, Value.int IntKind.i64 6, Value.int IntKind.i64 2, Value.int IntKind.i64 2, Value.int IntKind.i64 0, Value.int IntKind.i64 19, Value.int IntKind.i64 6, Value.int IntKind.i64 3]), (573, Blk.c [Value.int IntKind.i64 1, Value.int IntKind.i64 0, Value.int IntKind.i64 5, Value.int IntKind.i64 1, Value.int IntKind.i64 0, Value.int IntKind.i64 6, Value.int IntKind.i64 2, Value.int IntKind.i64 0, Value.int IntKind.i64 2, Value.int IntKind.i64 3, Value.int IntKind.i64 1, Value.int IntKind.i64 9, Value.int IntKind.i64 3, Value.int IntKind.i64 1, Value.int IntKind.i64 10]), (511, Blk.c [Value.int IntKind.i64 1, Value.int IntKind.i64 9, Value.int IntKind.i64 10]), (479, Blk.c [Value.int IntKind.i64 0, Value.int IntKind.i64 0, Value.int IntKind.i64 1, Value.int IntKind.i64 0]), (457, Blk.c [Value.int IntKind.i64 40, Value.int IntKind.i64 30, Value.int IntKind.i64 50, Value.int IntKind.i64 30]), (456, Blk.c [Value.int IntKind.i64 100, Value.int IntKind.i64 60, Value.int IntKind.i64 50]), (455, Blk.c [Value.int IntKind.i64 (-730), Value.int IntKind.i64 106000]), (426, Blk.c [Value.int IntKind.i64 458, Value.int IntKind.i64 471]), (403, Blk.c [Value.int IntKind.i64 130, Value.int IntKind.i64 60, Value.int IntKind.i64 80, Value.int IntKind.i64 300]), (399, Blk.c [Value.int IntKind.i64 900, Value.bool false, Value.int IntKind.i64 800, Value.bool false, Value.int IntKind.i64 700, Value.bool true, Value.int IntKind.i64 600, Value.bool false]), (1, Blk.c [Value.slice (some { block := 0, off := 0 }) 5 1, Value.int IntKind.i64 300, Value.int IntKind.i64 500]), (0, Blk.c [Value.int IntKind.i64 900, Value.int IntKind.i64 800, Value.int IntKind.i64 700, Value.int IntKind.i64 600, Value.int IntKind.i64 500])] }
def m40.r : Value × St := (Value.tuple { toList := [Value.slice (some { block := 653, off := 0 }) 1 3, Value.int IntKind.i64 0] }, { next := 654, mem := [(653, Blk.c [Value.int IntKind.i64 1, Value.int IntKind.i64 0, Value.int IntKind.i64 6]), (577, Blk.c [Value.int IntKind.i64 1, Value.int IntKind.i64 9, Value.int IntKind.i64 10, Value.int IntKind.i64 2, Value.int IntKind.i64 0, Value.int IntKind.i64 3]), (575, Blk.c [Value.int IntKind.i64 1, Value.int IntKind.i64 0, Value.int IntKind.i64 9, Value.int IntKind.i64 5, Value.int IntKind.i64 2, Value.int IntKind.i64 1, Value.int IntKind.i64 10, Value.int IntKind.i64 19, Value.int IntKind.i64 6, Value.int IntKind.i64 2, Value.int IntKind.i64 2, Value.int IntKind.i64 0, Value.int IntKind.i64 19, Value.int IntKind.i64 6, Value.int IntKind.i64 3]), (574, Blk.c [Value.int IntKind.i64 1, Value.int IntKind.i64 9, Value.int IntKind.i64 10, Value.int IntKind.i64 2, Value.int IntKind.i64 0, Value.int IntKind.i64 3]), (512, Blk.c [Value.int IntKind.i64 1, Value.int IntKind.i64 0, Value.int IntKind.i64 9, Value.int IntKind.i64 5, Value.int IntKind.i64 2, Value.int IntKind.i64 1, Value.int IntKind.i64 10, Value.int IntKind.i64 19, Value.int IntKind.i64 6, Value.int IntKind.i64 2, Value.int IntKind.i64 2, Value.int IntKind.i64 0, Value.int IntKind.i64 19, Value.int IntKind.i64 6, Value.int IntKind.i64 3]), (573, Blk.c [Value.int IntKind.i64 1, Value.int IntKind.i64 0, Value.int IntKind.i64 5, Value.int IntKind.i64 1, Value.int IntKind.i64 0, Value.int IntKind.i64 6, Value.int IntKind.i64 2, Value.int IntKind.i64 0, Value.int IntKind.i64 2, Value.int IntKind.i64 3, Value.int IntKind.i64 1, Value.int IntKind.i64 9, Value.int IntKind.i64 3, Value.int IntKind.i64 1, Value.int IntKind.i64 10]), (511, Blk.c [Value.int IntKind.i64 1, Value.int IntKind.i64 9, Value.int IntKind.i64 10]), (479, Blk.c [Value.int IntKind.i64 0, Value.int IntKind.i64 0, Value.int IntKind.i64 1, Value.int IntKind.i64 0]), (457, Blk.c [Value.int IntKind.i64 40, Value.int IntKind.i64 30, Value.int IntKind.i64 50, Value.int IntKind.i64 30]), (456, Blk.c [Value.int IntKind.i64 100, Value.int IntKind.i64 60, Value.int IntKind.i64 50]), (455, Blk.c [Value.int IntKind.i64 (-730), Value.int IntKind.i64 106000]), (426, Blk.c [Value.int IntKind.i64 458, Value.int IntKind.i64 471]), (403, Blk.c [Value.int IntKind.i64 130, Value.int IntKind.i64 60, Value.int IntKind.i64 80, Value.int IntKind.i64 300]), (399, Blk.c [Value.int IntKind.i64 900, Value.bool false, Value.int IntKind.i64 800, Value.bool false, Value.int IntKind.i64 700, Value.bool true, Value.int IntKind.i64 600, Value.bool false]), (1, Blk.c [Value.slice (some { block := 0, off := 0 }) 5 1, Value.int IntKind.i64 300, Value.int IntKind.i64 500]), (0, Blk.c [Value.int IntKind.i64 900, Value.int IntKind.i64 800, Value.int IntKind.i64 700, Value.int IntKind.i64 600, Value.int IntKind.i64 500])] })
set_option maxRecDepth 1000000 in
theorem m40.ok : aCall Try.prog orcSort wr12 1000 60 m40.o (.fn 40) m40.a m40.s = some m40.r := by kernel_rfl
end Go.Proofs.Ytiaiecfnpompcaa.T
namespace Go.Proofs.Ytiaiecfnpompcaa.T
open Go Go.RowKit Go.Proofs.Ytiaiecfnpompcaa.Ab
def m44.o : Nat := 0
def m44.a : List Value := [Value.slice (some { block := 728, off := 0 }) 3 5, Value.slice (some { block := 574, off := 0 }) 2 3, Value.slice none 0 0, Value.slice (some { block := 729, off := 0 }) 2 3]
def m44.s : St := { next := 730, mem := [(729, Blk.c [Value.int IntKind.i64 1, Value.int IntKind.i64 0, Value.int IntKind.i64 5, Value.int IntKind.i64 2, Value.int IntKind.i64 5, Value.int IntKind.i64 5]), (728, Blk.c [Value.int IntKind.i64 1, Value.int IntKind.i64 0, Value.int IntKind.i64 9, Value.int IntKind.i64 5, Value.int IntKind.i64 2, Value.int IntKind.i64 1, Value.int IntKind.i64 10, Value.int IntKind.i64 19, Value.int IntKind.i64 6, Value.int IntKind.i64 2, Value.int IntKind.i64 2, Value.int IntKind.i64 0, Value.int IntKind.i64 19, Value.int IntKind.i64 6, Value.int IntKind.i64 3]), (727, Blk.c [Value.int IntKind.i64 1]), (655, Blk.c [Value.int IntKind.i64 1, Value.int IntKind.i64 0, Value.int IntKind.i64 5, Value.int IntKind.i64 1, Value.int IntKind.i64 5, Value.int IntKind.i64 15]), (654, Blk.c [Value.int IntKind.i64 1, Value.int IntKind.i64 0, Value.int IntKind.i64 9, Value.int IntKind.i64 5, Value.int IntKind.i64 2, Value.int IntKind.i64 1, Value.int IntKind.i64 10, Value.int IntKind.i64 19, Value.int IntKind.i64 6, Value.int IntKind.i64 2, Value.int IntKind.i64 2, Value.int IntKind.i64 0, Value.int IntKind.i64 19, Value.int IntKind.i64 6, Value.int IntKind.i64 3]), (653, Blk.c [Value.int IntKind.i64 1, Value.int IntKind.i64 0, Value.int IntKind.i64 6]), (577, Blk.c [Value.int IntKind.i64 1, Value.int IntKind.i64 9, Value.int IntKind.i64 10, Value.int IntKind.i64 2, Value.int IntKind.i64 0, Value.int IntKind.i64 3]), (575, Blk.c [Value.int IntKind.i64 1, Value.int IntKind.i64 0, Value.int IntKind.i64 9, Value.int IntKind.i64 5, Value.int IntKind.i64 2, Value.int IntKind.i64 1, Value.int IntKind.i64 10, Value.int IntKind.i64 19, Value.int IntKind.i64 6, Value.int IntKind.i64 2, Value.int IntKind.i64 2, Value.int IntKind.i64 0, Value.int IntKind.i64 19, Value.int IntKind.i64 6, Value.int IntKind.i64 3]), (574, Blk.c [Value.int IntKind.i64 1, Value.int IntKind.i64 9, Value.int IntKind.i64 10, Value.int IntKind.i64 2, Value.int IntKind.i64 0, Value.int IntKind.i64 3]), (512, Blk.c [Value.int IntKind.i64 1, Value.int IntKind.i64 0, Value.int IntKind.i64 9, Value.int IntKind.i64 5, Value.int IntKind.i64 2, Value.int IntKind.i64 1, Value.int IntKind.i64 10, Value.int IntKind.i64 19, Value.int IntKind.i64 6, Value.int IntKind.i64 2, Value.int IntKind.i64 2, Value.int IntKind.i64 0, Value.int IntKind.i64 19, Value.int IntKind.i64 6, Value.int IntKind.i64 3]), (573, Blk.c [Value.int IntKind.i64 1, Value.int IntKind.i64 0, Value.int IntKind.i64 5, Value.int IntKind.i64 1, Value.int IntKind.i64 0, Value.int IntKind.i64 6, Value.int IntKind.i64 2, Value.int IntKind.i64 0, Value.int IntKind.i64 2, Value.int IntKind.i64 3, Value.int IntKind.i64 1, Value.int IntKind.i64 9, Value.int IntKind.i64 3, Value.int IntKind.i64 1, Value.int IntKind.i64 10]), (511, Blk.c [Value.int IntKind.i64 1, Value.int IntKind.i64 9, Value.int IntKind.i64 10]), (479, Blk.c [Value.int IntKind.i64 0, Value.int IntKind.i64 0, Value.int IntKind.i64 1, Value.int IntKind.i64 0]), (457, Blk.c [Value.int IntKind.i64 40, Value.int IntKind.i64 30, Value.int IntKind.i64 50, Value.int IntKind.i64 30]), (456, Blk.c [Value.int IntKind.i64 100, Value.int IntKind.i64 60, Value.int IntKind.i64 50]), (455, Blk.c [Value.int IntKind.i64 (-730), Value.int IntKind.i64 106000]), (426, Blk.c [Value.int IntKind.i64 458, Value.int IntKind.i64 471]), (403, Blk.c [Value.int IntKind.i64 130, Value.int IntKind.i64 60, Value.int IntKind.i64 80, Value.int IntKind.i64 300]), (399, Blk.c [Value.int IntKind.i64 900, Value.bool false, Value.int IntKind.i64 800, Value.bool false, Value.int IntKind.i64 700, Value.bool true, Value.int IntKind.i64 600, Value.bool false]), (1, Blk.c [Value.slice (some { block := 0, off := 0 }) 5 1, Value.int IntKind.i64 300, Value.int IntKind.i64 500]), (0, Blk.c [Value.int IntKind.i64 900, Value.int IntKind.i64 800, Value.int IntKind.i64 700, Value.int IntKind.i64 600, Value.int IntKind.i64 500])] }
def m44.r : Value × St := (Value.tuple { toList := [Value.int IntKind.i64 0, Value.int IntKind.i64 1, Value.int IntKind.i64 0] }, { next := 843, mem := [(729, Blk.c [Value.int IntKind.i64 1, Value.int IntKind.i64 0, Value.int IntKind.i64 5, Value.int IntKind.i64 2, Value.int IntKind.i64 5, Value.int IntKind.i64 5]), (728, Blk.c [Value.int IntKind.i64 1, Value.int IntKind.i64 0, Value.int IntKind.i64 9, Value.int IntKind.i64 5, Value.int IntKind.i64 2, Value.int IntKind.i64 1, Value.int IntKind.i64 10, Value.int IntKind.i64 19, Value.int IntKind.i64 6, Value.int IntKind.i64 2, Value.int IntKind.i64 2, Value.int IntKind.i64 0, Value.int IntKind.i64 19, Value.int IntKind.i64 6, Value.int IntKind.i64 3]), (727, Blk.c [Value.int IntKind.i64 1]), (655, Blk.c [Value.int IntKind.i64 1, Value.int IntKind.i64 0, Value.int IntKind.i64 5, Value.int IntKind.i64 1, Value.int IntKind.i64 5, Value.int IntKind.i64 15]), (654, Blk.c [Value.int IntKind.i64 1, Value.int IntKind.i64 0, Value.int IntKind.i64 9, Value.int IntKind.i64 5, Value.int IntKind.i64 2, Value.int IntKind.i64 1, Value.int IntKind.i64 10, Value.int IntKind.i64 19, Value.int IntKind.i64 6, Value.int IntKind.i64 2, Value.int IntKind.i64 2, Value.int IntKind.i64 0, Value.int IntKind.i64 19, Value.int IntKind.i64 6, Value.int IntKind.i64 3]), (653, Blk.c [Value.int IntKind.i64 1, Value.int IntKind.i64 0, Value.int IntKind.i64 6]), (577, Blk.c [Value.int IntKind.i64 1, Value.int IntKind.i64 9, Value.int IntKind.i64 10, Value.int IntKind.i64 2, Value.int IntKind.i64 0, Value.int IntKind.i64 3]), (575, Blk.c [Value.int IntKind.i64 1, Value.int IntKind.i64 0, Value.int IntKind.i64 9, Value.int IntKind.i64 5, Value.int IntKind.i64 2, Value.int IntKind.i64 1, Value.int IntKind.i64 10, Value.int IntKind.i64 19, Value.int IntKind.i64 6, Value.int IntKind.i64 2, Value.int IntKind.i64 2, Value.int IntKind.i64 0, Value.int IntKind.i64 19, Value.int IntKind.i64 6, Value.int IntKind.i64 3]), (574, Blk.c [Value.int IntKind.i64 1, Value.int IntKind.i64 9, Value.int IntKind.i64 10, Value.int IntKind.i64 2, Value.int IntKind.i64 0, Value.int IntKind.i64 3]), (512, Blk.c [Value.int IntKind.i64 1, Value.int IntKind.i64 0, Value.int IntKind.i64 9, Value.int IntKind.i64 5, Value.int IntKind.i64 2, Value.int IntKind.i64 1, Value.int IntKind.i64 10, Value.int IntKind.i64 19, Value.int IntKind.i64 6, Value.int IntKind.i64 2, Value.int IntKind.i64 2, Value.int IntKind.i64 0, Value.int IntKind.i64 19, Value.int IntKind.i64 6, Value.int IntKind.i64 3]), (573, Blk.c [Value.int IntKind.i64 1, Value.int IntKind.i64 0, Value.int IntKind.i64 5, Value.int IntKind.i64 1, Value.int IntKind.i64 0, Value.int IntKind.i64 6, Value.int IntKind.i64 2, Value.int IntKind.i64 0, Value.int IntKind.i64 2, Value.int IntKind.i64 3, Value.int IntKind.i64 1, Value.int IntKind.i64 9, Value.int IntKind.i64 3, Value.int IntKind.i64 1, Value.int IntKind.i64 10]), (511, Blk.c [Value.int IntKind.i64 1, Value.int IntKind.i64 9, Value.int IntKind.i64 10]), (479, Blk.c [Value.int IntKind.i64 0, Value.int IntKind.i64 0, Value.int IntKind.i64 1, Value.int IntKind.i64 0]), (457, Blk.c [Value.int IntKind.i64 40, Value.int IntKind.i64 30, Value.int IntKind.i64 50, Value.int IntKind.i64 30]), (456, Blk.c [Value.int IntKind.i64 100, Value.int IntKind.i64 60, Value.int IntKind.i64 50]), (455, Blk.c [Value.int IntKind.i64 (-730), Value.int IntKind.i64 106000]), (426, Blk.c [Value.int IntKind.i64 458, Value.int IntKind.i64 471]), (403, Blk.c [Value.int IntKind.i64 130, Value.int IntKind.i64 60, Value.int IntKind.i64 80, Value.int IntKind.i64 300]), (399, Blk.c [Value.int IntKind.i64 900, Value.bool false, Value.int IntKind.i64 800, Value.bool false, Value.int IntKind.i64 700, Value.bool true, Value.int IntKind.i64 600, Value.bool false]), (1, Blk.c [Value.slice (some { block := 0, off := 0 }) 5 1, Value.int IntKind.i64 300, Value.int IntKind.i64 500]), (0, Blk.c [Value.int IntKind.i64 900, Value.int IntKind.i64 800, Value.int IntKind.i64 700, Value.int IntKind.i64 600, Value.int IntKind.i64 500])] })
set_option maxRecDepth 1000000 in
theorem m44.ok : aCall Try.prog orcSort wr12 1000 60 m44.o (.fn 44) m44.a m44.s = some m44.r := by kernel_rfl
end Go.Proofs.Ytiaiecfnpompcaa.T
namespace Go.Proofs.Ytiaiecfnpompcaa.T
open Go Go.RowKit Go.Proofs.Ytiaiecfnpompcaa.Ab
set_option linter.unusedVariables false
def orc12 (f : FuncId) : Option (Nat → List Value → St → Ans) :=
 match Nat.beq f 17 with
 | true => some (hit m17.o m17.a m17.s m17.r)
 | false =>
  match Nat.beq f 28 with
  | true => some (hit m28.o m28.a m28.s m28.r)
  | false =>
   match Nat.beq f 33 with
   | true => some (hit m33.o m33.a m33.s m33.r)
   | false =>
    match Nat.beq f 40 with
    | true => some (hit m40.o m40.a m40.s m40.r)
    | false =>
     match Nat.beq f 44 with
     | true => some (hit m44.o m44.a m44.s m44.r)
     | false =>
      orcSort f
theorem orc12_ok : OrcOK Try.prog orc12 := by
 intro f g hf ro args st v st' h
 unfold orc12 at hf
 split at hf
 ·rename_i q
  obtain rfl := Nat.eq_of_beq_eq_true q
  obtain rfl := Option.some.inj hf
  exact hit_ok m17.ok h
 split at hf
 ·rename_i q
  obtain rfl := Nat.eq_of_beq_eq_true q
  obtain rfl := Option.some.inj hf
  exact hit_ok m28.ok h
 split at hf
 ·rename_i q
  obtain rfl := Nat.eq_of_beq_eq_true q
  obtain rfl := Option.some.inj hf
  exact hit_ok m33.ok h
 split at hf
 ·rename_i q
  obtain rfl := Nat.eq_of_beq_eq_true q
  obtain rfl := Option.some.inj hf
  exact hit_ok m40.ok h
 split at hf
 ·rename_i q
  obtain rfl := Nat.eq_of_beq_eq_true q
  obtain rfl := Option.some.inj hf
  exact hit_ok m44.ok h
 exact orcSort_ok f g hf ro args st v st' h
set_option maxRecDepth 1000000 in
theorem known_run : yes (aCall Try.prog orc12 wr12 1000 60 0 (.fn 15) [] ⟨0, []⟩) = true := by kernel_rfl
def acmelaw12_known.f : Option Bool := some true
theorem acmelaw12_known.calls (r : Bool) (w : World) (h : acmelaw12_known.f = some r) : Calls Try.prog 15 #[] w fun e w' => e = .returned (.bool r) ∧ Below w.heap.size w w' := by
 obtain rfl : true = r := Option.some.inj h
 obtain ⟨st, hs⟩ := yes_some known_run
 exact run_calls (by kernel_rfl) noNum orc12_ok rfl rfl hs w
end Go.Proofs.Ytiaiecfnpompcaa.T
namespace Go.Proofs.Ytiaiecfnpompcaa.T
open Go.RowKit Go.Proofs.YtiaiecfnpompcaaW.PrintWords Go.Proofs.YtiaiecfnpompcaaW.PrintLast Go.Proofs.YtiaiecfnpompcaaW.PrintMore
set_option linter.unusedVariables false
set_option linter.unusedSimpArgs false
structure LC (w0 W : World) (ga gb : Nat) (va vb : Value) (a b : List Int) : Prop where
  below : Below w0.heap.size w0 W
  A : W.heap[ga]? = some (.cells #[va] 22 (0, 0))
  B : W.heap[gb]? = some (.cells #[vb] 22 (0, 0))
  ne : ga ≠ gb
  gA : w0.heap.size ≤ ga
  gB : w0.heap.size ≤ gb
  RA : Kd.R (Kd.int .i64) 3 W w0.heap.size (fun k => some k ≠ vb.ownBlock) va a
  RB : Kd.R (Kd.int .i64) 3 W w0.heap.size (fun k => some k ≠ va.ownBlock) vb b
section
variable {w0 W W' : World} {ga gb : Nat} {va vb v1 : Value} {a b : List Int} {x : Int}
theorem LC.step (h : LC w0 W ga gb va vb a b) (hb : Below W.heap.size W W') : LC w0 W' ga gb va vb a b :=
  ⟨below_step h.below hb, blk_below h.A hb, blk_below h.B hb, h.ne, h.gA, h.gB, Kd.R_below h.RA hb, Kd.R_below h.RB hb⟩
theorem LC.appA (h : LC w0 W ga gb va vb a b) (ho : Kd.R (Kd.int .i64) 3 W' w0.heap.size (fun k => some k ≠ vb.ownBlock) v1 (a ++ [x])) (hb : Below w0.heap.size w0 W')
    (hg : W.grownBy W' va.ownBlock) (hat : v1.ownBlock = va.ownBlock ∨ ∃ b, v1.ownBlock = some b ∧ W.heap.size ≤ b) : LC w0 (W'.setCell ⟨ga, 0, none⟩ v1) ga gb v1 vb (a ++ [x]) b := by
  have hA := blk_grown h.A hg (Kd.R_ne h.RA h.A (by decide))
  have hB := blk_grown h.B hg (Kd.R_ne h.RA h.B (by decide))
  have hR := Kd.R_after (ok := fun _ => True) (Kd.R_mono h.RB (fun _ hk => ⟨trivial, hk⟩)) hg hat
  exact ⟨below_set hb h.gA, bto (bput hA 0 v1) rfl, blk_far hB (p := ⟨ga, 0, none⟩) (fun e => h.ne e.symm) v1, h.ne, h.gA, h.gB, Kd.R_set ho hA (by simp [Kd.int, Kd.scalar]) 0 v1, Kd.R_mono (Kd.R_set hR hA (by simp [Kd.int, Kd.scalar]) 0 v1) (fun _ hk => hk.2)⟩
theorem LC.appB (h : LC w0 W ga gb va vb a b) (ho : Kd.R (Kd.int .i64) 3 W' w0.heap.size (fun k => some k ≠ va.ownBlock) v1 (b ++ [x])) (hb : Below w0.heap.size w0 W')
    (hg : W.grownBy W' vb.ownBlock) (hat : v1.ownBlock = vb.ownBlock ∨ ∃ b, v1.ownBlock = some b ∧ W.heap.size ≤ b) : LC w0 (W'.setCell ⟨gb, 0, none⟩ v1) ga gb va v1 a (b ++ [x]) := by
  have hA := blk_grown h.A hg (Kd.R_ne h.RB h.A (by decide))
  have hB := blk_grown h.B hg (Kd.R_ne h.RB h.B (by decide))
  have hR := Kd.R_after (ok := fun _ => True) (Kd.R_mono h.RA (fun _ hk => ⟨trivial, hk⟩)) hg hat
  exact ⟨below_set hb h.gB, blk_far hA (p := ⟨gb, 0, none⟩) (fun e => h.ne e) v1, bto (bput hB 0 v1) rfl, h.ne, h.gA, h.gB, Kd.R_mono (Kd.R_set hR hB (by simp [Kd.int, Kd.scalar]) 0 v1) (fun _ hk => hk.2), Kd.R_set ho hB (by simp [Kd.int, Kd.scalar]) 0 v1⟩
end
structure LW (w0 W : World) (ga gb : Nat) (va vb vw vr : Value) (a b way r : List Int) : Prop where
  lc : LC w0 W ga gb va vb a b
  wa : ∀ k, va.ownBlock = some k → some k ≠ vw.ownBlock
  wb : ∀ k, vb.ownBlock = some k → some k ≠ vw.ownBlock
  wr : ∀ k, vr.ownBlock = some k → some k ≠ vw.ownBlock
  RW : Kd.R (Kd.int .i64) 3 W w0.heap.size (fun _ => True) vw way
  RR : Kd.R (Kd.int .i64) 3 W w0.heap.size (fun _ => True) vr r
theorem R_own_ok {W : World} {base : Nat} {ok ok' : Nat → Prop} {v : Value} {xs : List Int} (h : Kd.R (Kd.int .i64) 3 W base ok v xs) (hk : ∀ k, v.ownBlock = some k → ok' k) : Kd.R (Kd.int .i64) 3 W base ok' v xs := Kd.R_of_own (Kd.own_of_R h) hk
theorem own_apart {W : World} {base : Nat} {ok : Nat → Prop} {v vw v1 : Value} {xs : List Int} (h : Kd.R (Kd.int .i64) 3 W base ok v xs) (hn : ∀ k, v.ownBlock = some k → some k ≠ vw.ownBlock)
    (hat : v1.ownBlock = vw.ownBlock ∨ ∃ b, v1.ownBlock = some b ∧ W.heap.size ≤ b) : ∀ k, v.ownBlock = some k → some k ≠ v1.ownBlock := by
  intro k hk
  rcases hat with e | ⟨q, e, hq⟩
  · rw [e]; exact hn k hk
  · rw [e]; intro e2; injection e2 with e2; have := Kd.R_lt h k hk; omega
theorem LW.app {w0 W W' : World} {ga gb : Nat} {va vb vw vr v1 : Value} {a b way r : List Int} {x : Int} (h : LW w0 W ga gb va vb vw vr a b way r) (ho : Kd.R (Kd.int .i64) 3 W' w0.heap.size (fun _ => True) v1 (way ++ [x])) (hb : Below w0.heap.size w0 W')
    (hg : W.grownBy W' vw.ownBlock) (hat : v1.ownBlock = vw.ownBlock ∨ ∃ b, v1.ownBlock = some b ∧ W.heap.size ≤ b) : LW w0 W' ga gb va vb v1 vr a b (way ++ [x]) r := by
  have hA := blk_grown h.lc.A hg (Kd.R_ne h.RW h.lc.A (by decide))
  have hB := blk_grown h.lc.B hg (Kd.R_ne h.RW h.lc.B (by decide))
  have rA : Kd.R (Kd.int .i64) 3 W' w0.heap.size (fun k => some k ≠ vw.ownBlock) va a := Kd.R_grown (R_own_ok h.lc.RA h.wa) hg (fun _ hk => hk)
  have rB : Kd.R (Kd.int .i64) 3 W' w0.heap.size (fun k => some k ≠ vw.ownBlock) vb b := Kd.R_grown (R_own_ok h.lc.RB h.wb) hg (fun _ hk => hk)
  have rR : Kd.R (Kd.int .i64) 3 W' w0.heap.size (fun k => some k ≠ vw.ownBlock) vr r := Kd.R_grown (R_own_ok h.RR h.wr) hg (fun _ hk => hk)
  exact ⟨⟨hb, hA, hB, h.lc.ne, h.lc.gA, h.lc.gB, R_own_ok rA h.lc.RA.1, R_own_ok rB h.lc.RB.1⟩, own_apart h.lc.RA h.wa hat, own_apart h.lc.RB h.wb hat, own_apart h.RR h.wr hat, ho, R_own_ok rR (fun _ _ => trivial)⟩
theorem share_some2 (a b : List Int) : ∃ r1 r2, mill_Share.f a b = some (r1, r2) := by
  unfold mill_Share.f
  split
  · exact ⟨_, _, rfl⟩
  split
  · exact ⟨_, _, rfl⟩
  split
  · exact ⟨_, _, rfl⟩
  split
  · exact ⟨_, _, rfl⟩
  split
  · exact ⟨_, _, rfl⟩
  · exact ⟨_, _, rfl⟩
theorem snoc_b {a : List Int} {x : Int} (h : ∀ y ∈ a, 1 ≤ y ∧ y ≤ 10000000) (hx : 1 ≤ x ∧ x ≤ 10000000) : ∀ y ∈ a ++ [x], 1 ≤ y ∧ y ≤ 10000000 := by
  intro y hy
  rcases List.mem_append.1 hy with q | q
  · exact h y q
  · rw [List.mem_singleton] at q; subst q; exact hx
theorem at_u8 {w : World} {A : Option Addr} {l : List Int} (h : Kd.C (Kd.int .u8) w A l.length l) {i : Nat} (hi : i < l.length) : ∃ ad, A = some ad ∧ w.cell? (ad.add i) = some (.int .u8 (l.getD i 0)) := by
  obtain ⟨ad, e, hc⟩ := Kd.at_int h (i : Int) (by omega) (by omega)
  exact ⟨ad, e, hc⟩
set_option maxHeartbeats 40000000 in
set_option maxRecDepth 100000 in
theorem coils_walk (A0 : Option Addr) (c0 : Nat) (l0 : List Int) (A1 : Option Addr) (c1 : Nat) (l1 : List Int) (A2 : Option Addr) (c2 : Nat) (l2 : List Int) (w : World) (hr0 : Kd.C (Kd.int .u8) w A0 l0.length l0) (hc0 : l0.length ≤ c0) (hr1 : Kd.C (Kd.int .u8) w A1 l1.length l1) (hc1 : l1.length ≤ c1) (hr2 : Kd.C (Kd.int .u8) w A2 l2.length l2) (hc2 : l2.length ≤ c2)
    (w0 : ∀ x ∈ l0, 0 ≤ x ∧ x ≤ 255) (w1 : ∀ x ∈ l1, 0 ≤ x ∧ x ≤ 255) (w2 : ∀ x ∈ l2, 0 ≤ x ∧ x ≤ 255)
    (law : ∀ (a b way r1 : List Int) (r2 : Int), a.length ≤ 6 → b.length ≤ 7 → (∀ y ∈ a, 1 ≤ y ∧ y ≤ 10000000) → (∀ y ∈ b, 1 ≤ y ∧ y ≤ 10000000) → mill_Share.f a b = some (r1, r2) →
      (r2 = 7 ∧ r1 = [] ∧ usedF a b way < 0) ∨ (r2 = 0 ∧ 0 ≤ usedF a b r1 ∧ (usedF a b way < 0 ∨ usedF a b r1 ≤ usedF a b way))) :
    Calls Try.prog 11 #[.slice A0 l0.length c0, .slice A1 l1.length c1, .slice A2 l2.length c2] w fun e w' => e = .returned (.bool true) ∧ Below w.heap.size w w' := by
  go_enter Try.func11, Try.ntmps11
  go_wp2_with (first
    | ((with_reducible refine gate_dst (N := 19) rfl ?_); refine Kd.R_lit (Kd.int .i64) _ 3 ?hg (N := 19) ?hd (xs := ([] : List Int)) (inner := []) (ok := fun _ => True) (okp := fun _ => True) ?hr ?hp (fun _ hk => hk) trivial (Below.refl _ _) (Nat.le_refl _) (by simp) ?_; (case hd => rfl); (case hg => rfl); (case hr => first | (go_simp; done) | (go_simp; rfl)); (case hp => exact (Reps.none _ _)); intro vA w3 hoA hbA hgA_ hnA_; obtain ⟨AA, cA, rfl⟩ := Kd.R_slice hoA)
    | ((with_reducible refine gate_dst (N := 20) rfl ?_); refine Kd.R_lit (Kd.int .i64) _ 3 ?hg (N := 20) ?hd (xs := ([] : List Int)) (inner := []) (ok := fun _ => True) (okp := fun _ => True) ?hr ?hp (fun _ hk => hk) trivial (Below.refl _ _) (Nat.le_refl _) (by simp) ?_; (case hd => rfl); (case hg => rfl); (case hr => first | (go_simp; done) | (go_simp; rfl)); (case hp => exact (Reps.none _ _)); intro vB w4 hoB hbB hgB_ hnB_; obtain ⟨AB, cB, rfl⟩ := Kd.R_slice hoB)
    | ((with_reducible refine gate_dst (N := 7) rfl ?_); refine box_event ?hg (N := 7) ?hd (cs := #[.slice none 0 0]) (t := 22) ?hr ?_; (case hd => rfl); (case hg => rfl); (case hr => first | (go_simp; done) | (go_simp; rfl)); intro ga hga w5 hbxA hb5; have hgeA : w.heap.size ≤ ga := (by rw [hga]; exact below_size (below_step hbA hbB)); clear hga)
    | ((with_reducible refine gate_dst (N := 8) rfl ?_); refine box_event ?hg (N := 8) ?hd (cs := #[.slice none 0 0]) (t := 22) ?hr ?_; (case hd => rfl); (case hg => rfl); (case hr => first | (go_simp; done) | (go_simp; rfl)); intro gb hgb w6 hbxB hb6; have hgeB : w.heap.size ≤ gb := (by rw [hgb]; exact below_size (below_step (below_step hbA hbB) hb5)); have hne : ga ≠ gb := (by rw [hgb]; exact Nat.ne_of_lt (blk_lt hbxA)); have hne' : gb ≠ ga := hne.symm; clear hgb; have hza := (blk_cell (blk_below hbxA hb6) 0).trans rfl; have hfa := blk_frozen (blk_below hbxA hb6) 0; have hzb := (blk_cell hbxB 0).trans rfl; have hfb := blk_frozen hbxB 0)
    )
  have RA4 := Kd.R_elder' hoA (Kd.R_base hoB) hbB
  have RB4 := Kd.R_lower (Kd.R_new' hoB (Kd.R_lt hoA)) (below_size hbA)
  have hbw6 := below_step (below_step (below_step (below_step (Below.refl w.heap.size w) hbA) hbB) hb5) hb6
  have hA6 := blk_below hbxA hb6
  have hA7 : (w6.setCell ⟨ga, 0, none⟩ (.slice AA 0 cA)).heap[ga]? = some (.cells #[.slice AA 0 cA] 22 (0, 0)) := bto (bput hA6 0 (.slice AA 0 cA)) rfl
  have hB7 : (w6.setCell ⟨ga, 0, none⟩ (.slice AA 0 cA)).heap[gb]? = some (.cells #[.slice none 0 0] 22 (0, 0)) := blk_far hbxB (p := ⟨ga, 0, none⟩) hne' _
  have hlc : LC w ((w6.setCell ⟨ga, 0, none⟩ (.slice AA 0 cA)).setCell ⟨gb, 0, none⟩ (.slice AB 0 cB)) ga gb (.slice AA 0 cA) (.slice AB 0 cB) [] [] :=
    ⟨below_set (below_set hbw6 hgeA) hgeB, blk_far hA7 (p := ⟨gb, 0, none⟩) hne _, bto (bput hB7 0 (.slice AB 0 cB)) rfl, hne, hgeA, hgeB,
     Kd.R_mono (Kd.R_set (Kd.R_set (Kd.R_below (Kd.R_below RA4 hb5) hb6) hA6 (by simp [Kd.int, Kd.scalar]) 0 _) hB7 (by simp [Kd.int, Kd.scalar]) 0 _) (fun _ hk => hk.2),
     Kd.R_mono (Kd.R_set (Kd.R_set (Kd.R_below (Kd.R_below RB4 hb5) hb6) hA6 (by simp [Kd.int, Kd.scalar]) 0 _) hB7 (by simp [Kd.int, Kd.scalar]) 0 _) (fun _ hk => hk.2)⟩
  clear hza hfa hzb hfb RA4 RB4 hbw6 hA6 hA7 hB7 hbxA hbxB hb5 hb6 hoA hoB hbA hbB hgA_ hnA_ hgB_ hnB_ hgeA hgeB hne hne'
  generalize (w6.setCell ⟨ga, 0, none⟩ (.slice AA 0 cA)).setCell ⟨gb, 0, none⟩ (.slice AB 0 cB) = w7 at hlc ⊢
  go_loopw [9] (fun v9 wr => ∃ (i : Nat) (va : Value) (a : List Int), i ≤ l0.length ∧ i ≤ 6 ∧ v9 = .int .i64 i ∧ a.length = i ∧ (∀ y ∈ a, 1 ≤ y ∧ y ≤ 10000000) ∧ LC w wr ga gb va (.slice AB 0 cB) a [])
    (fun v9 _ => 6 - (intOf v9).toNat)
  case atStart => exact ⟨0, .slice AA 0 cA, [], by omega, by omega, rfl, rfl, (fun y hy => absurd hy (by simp)), hlc⟩
  case round => as_aux_lemma =>
    clear hlc
    obtain ⟨i, va, a', hi0, hi6, rfl, hal, hab, hlc⟩ := hrel
    go_upto_region 3 with (fail)
    go_cut [28] (fun v28 wc => v28 = .bool (decide (i < l0.length ∧ i < 6)) ∧ wc = wr)
    case first =>
      by_cases h1 : i < l0.length
      · have h1b := decide_eq_true h1
        by_cases h2 : i < 6
        · have h2b := decide_eq_true h2
          have h2c : decide ((i : Int) < 6) = true := decide_eq_true (by omega)
          have h3 : decide (i < l0.length ∧ i < 6) = true := decide_eq_true ⟨h1, h2⟩
          go_wp2
          go_meet
          case rel => exact ⟨by rw [h3], rfl⟩
        · have h2b := decide_eq_false h2
          have h2c : decide ((i : Int) < 6) = false := decide_eq_false (by omega)
          have h3 : decide (i < l0.length ∧ i < 6) = false := decide_eq_false (fun q => h2 q.2)
          go_wp2
          go_meet
          case rel => exact ⟨by rw [h3], rfl⟩
      · have h1b := decide_eq_false h1
        have h3 : decide (i < l0.length ∧ i < 6) = false := decide_eq_false (fun q => h1 q.1)
        go_wp2
        go_meet
        case rel => exact ⟨by rw [h3], rfl⟩
    case rest => as_aux_lemma =>
      obtain ⟨rfl, rfl⟩ := hcut
      obtain ⟨A3, c3, rfl⟩ := Kd.R_slice hlc.RA
      by_cases h3 : i < l0.length ∧ i < 6
      · have h3b : decide (i < l0.length ∧ i < 6) = true := decide_eq_true h3
        rw [h3b]
        obtain ⟨h1, h2⟩ := h3
        have hxb := w0 _ (getD_mem h1)
        obtain ⟨ad0, e1, hx0⟩ := at_u8 hr0 h1
        cases e1
        have p1t := eq_true h1
        have p1b := decide_eq_true h1
        generalize l0.getD i 0 = x at hxb hx0
        have hwx : wrap64 (1 + wrap64 x) = 1 + x := by unfold wrap64; omega
        replace hx0 := Aside0.mk hx0
        replace hwx := Aside0.mk hwx
        replace hal := Aside0.mk hal
        replace h1 := Aside0.mk h1
        replace h2 := Aside0.mk h2
        go_wp2
        replace hlc := hlc.step (below_drew (Below.refl _ wc))
        refine start_ (n := 10) (S := fun w' => w'.cell? ⟨ga, 0, none⟩ = some (.slice A3 a'.length c3) ∧ w'.cell? (ad0.add i) = some (.int .u8 x)) (ds := [9]) #[false, false, false, false, false, false, false, false, false, false] (by kernel_rfl) rfl rfl ⟨(blk_cell hlc.A 0).trans rfl, (hlc.below.cell (World.block_lt_of_cell? w _ hx0.out)).trans hx0.out⟩ (fun hHeld => ?_)
        generalize wc.drew = wd at hlc hHeld ⊢
        refine take_ (i := 0) (N := (some 31)) (v := ?_) (a' := ?_) #[true, false, false, false, false, false, false, false, false, false] rfl rfl (by kernel_rfl) (fun _ _ _ h => h) (Or.inl ⟨by rfl, ?_⟩) hHeld ?_ ?_
        rotate_left
        · rintro w' ⟨h1, h2⟩
          go_simp
          with_reducible rfl
        rotate_left
        · simp only [Act.put, List.setIfInBounds_toArray, List.set_cons_zero, List.set_cons_succ, i64_w, i32_w]
          rfl
        refine pure_ (i := 1) (N := (some 32)) (v := ?_) (a' := ?_) #[true, true, false, false, false, false, false, false, false, false] rfl rfl (by kernel_rfl) (fun _ _ _ h => h) (Or.inl ⟨by rfl, ?_⟩) ?_ ?_
        rotate_left
        · intro w'
          go_simp
          with_reducible rfl
        rotate_left
        · simp only [Act.put, List.setIfInBounds_toArray, List.set_cons_zero, List.set_cons_succ, i64_w, i32_w]
          rfl
        refine pure_ (i := 2) (N := (some 33)) (v := ?_) (a' := ?_) #[true, true, true, false, false, false, false, false, false, false] rfl rfl (by kernel_rfl) (fun _ _ _ h => h) (Or.inl ⟨by rfl, ?_⟩) ?_ ?_
        rotate_left
        · intro w'
          go_simp
          with_reducible rfl
        rotate_left
        · simp only [Act.put, List.setIfInBounds_toArray, List.set_cons_zero, List.set_cons_succ, i64_w, i32_w]
          rfl
        refine pure_ (i := 3) (N := (some 34)) (v := ?_) (a' := ?_) #[true, true, true, true, false, false, false, false, false, false] rfl rfl (by kernel_rfl) (fun _ _ _ h => h) (Or.inl ⟨by rfl, ?_⟩) ?_ ?_
        rotate_left
        · intro w'
          go_simp
          with_reducible rfl
        rotate_left
        · simp only [Act.put, List.setIfInBounds_toArray, List.set_cons_zero, List.set_cons_succ, i64_w, i32_w]
          rfl
        refine take_ (i := 4) (N := (some 35)) (v := ?_) (a' := ?_) #[true, true, true, true, true, false, false, false, false, false] rfl rfl (by kernel_rfl) (fun _ _ _ h => h) (Or.inl ⟨by rfl, ?_⟩) hHeld ?_ ?_
        rotate_left
        · rintro w' ⟨h1, h2⟩
          go_simp
          with_reducible rfl
        rotate_left
        · simp only [Act.put, List.setIfInBounds_toArray, List.set_cons_zero, List.set_cons_succ, i64_w, i32_w]
          rfl
        refine pure_ (i := 5) (N := (some 36)) (v := ?_) (a' := ?_) #[true, true, true, true, true, true, false, false, false, false] rfl rfl (by kernel_rfl) (fun _ _ _ h => h) (Or.inl ⟨by rfl, ?_⟩) ?_ ?_
        rotate_left
        · intro w'
          go_simp
          with_reducible rfl
        rotate_left
        · simp only [Act.put, List.setIfInBounds_toArray, List.set_cons_zero, List.set_cons_succ, i64_w, i32_w]
          rfl
        refine pure_ (i := 6) (N := (some 37)) (v := ?_) (a' := ?_) #[true, true, true, true, true, true, true, false, false, false] rfl rfl (by kernel_rfl) (fun _ _ _ h => h) (Or.inl ⟨by rfl, ?_⟩) ?_ ?_
        rotate_left
        · intro w'
          go_simp
          with_reducible rfl
        rotate_left
        · simp only [Act.put, List.setIfInBounds_toArray, List.set_cons_zero, List.set_cons_succ, i64_w, i32_w]
          rfl
        refine one_ (i := 7) (N := (some 38)) #[true, true, true, true, true, true, true, true, false, false] rfl rfl (by kernel_rfl) (by decide) (fun K hK => ?_)
        refine value_ (w1 := ?_) (v := ?_) (by rfl) rfl ?_ ?_
        rotate_left 2
        · go_simp
          constructor
          · rfl
          · rfl
        refine hK.out _ _ ⟨(blk_cell (blk_alloc hlc.A _) 0).trans rfl, ((below_alloc hlc.below _).cell (World.block_lt_of_cell? w _ hx0.out)).trans hx0.out⟩ (fun hHeld => ?_)
        clear hK K
        refine norm_ (a' := ?_) ?_ ?_
        rotate_left
        · show Act.put _ (some 38) _ = _
          simp only [Act.put, List.setIfInBounds_toArray, List.set_cons_zero, List.set_cons_succ, i64_w, i32_w]
          rfl
        refine one_ (i := 8) (N := (some 39)) #[true, true, true, true, true, true, true, true, true, false] rfl rfl (by kernel_rfl) (by decide) (fun K hK => ?_)
        refine Kd.R_append_step (Kd.int .i64) (w0 := w) w.heap.size (by rfl) (.tmp 31) (.tmp 38) 22 3 (.int .i64 0) 8 rfl Try.underlying22 info3 rfl (by decide) (by omega) (.slice A3 a'.length c3) a' (wrap64 (1 + wrap64 x)) [.int .i64 (wrap64 (1 + wrap64 x))] (fun j => some j ≠ (.slice AB 0 cB : Value).ownBlock) (fun _ => False) rfl rfl ?aP (fun _ hk => hk.elim) ?aF ?aO ?aB ?aS ?aL ?_
        case aP => rfl
        case aF => exact Kd.fresh' (Kd.R_lt hlc.RB)
        case aO => exact hlc.RA
        case aB => exact hlc.below
        case aS => exact below_size hlc.below
        case aL => have := hal.out; omega
        intro v1 w9 ho hb hg hat
        obtain ⟨A4, c4, rfl⟩ := Kd.R_slice ho
        generalize (a' ++ [wrap64 (1 + wrap64 x)]).length = n4 at ho hat ⊢
        have hA9 := blk_grown hlc.A hg (Kd.R_ne hlc.RA hlc.A (by decide))
        refine hK.out _ _ ⟨(blk_cell hA9 0).trans rfl, (hb.cell (World.block_lt_of_cell? w _ hx0.out)).trans hx0.out⟩ (fun hHeld => ?_)
        clear hK K
        refine norm_ (a' := ?_) ?_ ?_
        rotate_left
        · show Act.put _ (some 39) _ = _
          simp only [Act.put, List.setIfInBounds_toArray, List.set_cons_zero, List.set_cons_succ, i64_w, i32_w]
          rfl
        refine last_ (i := 9) (N := none) #[true, true, true, true, true, true, true, true, true, true] rfl rfl (by kernel_rfl) (by decide) (fun K hK => ?_)
        have hzA := (blk_cell hA9 0).trans rfl
        have hfA := blk_frozen hA9 0
        refine skip_ (w1 := ?_) (by rfl) rfl ?_ ?_
        rotate_left
        · go_simp
          rfl
        refine hK.out _ _ ?_
        clear hK K
        refine done_ (by kernel_rfl) ?_
        have hlc9 := hlc.appA ho hb hg hat
        clear ho hb hg hat hzA hfA hA9 hlc hHeld
        generalize w9.setCell ⟨ga, 0, none⟩ (.slice A4 n4 c4) = w10 at hlc9 ⊢
        rw [hwx.out] at hlc9
        go_wp2
        go_roundw
        case rel => exact ⟨i + 1, _, a' ++ [1 + x], by have := h1.out; omega, by have := h2.out; omega, by go_num, by rw [List.length_append, hal.out]; rfl, snoc_b hab (by omega), hlc9⟩
        case measure => have := h2.out; simp [intOf]; omega
      have h3b : decide (i < l0.length ∧ i < 6) = false := decide_eq_false h3
      rw [h3b]
      have hal6 : a'.length ≤ 6 := by omega
      clear h3 hal hi0 hi6
      generalize a' = a at hab hlc hal6 ⊢
      go_wp2
      go_loopw [10] (fun v10 wr => ∃ (i : Nat) (vb : Value) (b : List Int), i ≤ l1.length ∧ i ≤ 7 ∧ v10 = .int .i64 i ∧ b.length = i ∧ (∀ y ∈ b, 1 ≤ y ∧ y ≤ 10000000) ∧ LC w wr ga gb (.slice A3 a.length c3) vb a b)
        (fun v10 _ => 7 - (intOf v10).toNat)
      case atStart => exact ⟨0, .slice AB 0 cB, [], by omega, by omega, rfl, rfl, (fun y hy => absurd hy (by simp)), hlc⟩
      case round => as_aux_lemma =>
        clear hlc
        obtain ⟨i, vb, a', hi0, hi6, rfl, hal, hbb, hlc⟩ := hrel
        go_upto_region 7 with (fail)
        go_cut [47] (fun v28 wc => v28 = .bool (decide (i < l1.length ∧ i < 7)) ∧ wc = wr)
        case first =>
          by_cases h1 : i < l1.length
          · have h1b := decide_eq_true h1
            by_cases h2 : i < 7
            · have h2b := decide_eq_true h2
              have h2c : decide ((i : Int) < 7) = true := decide_eq_true (by omega)
              have h3 : decide (i < l1.length ∧ i < 7) = true := decide_eq_true ⟨h1, h2⟩
              go_wp2
              go_meet
              case rel => exact ⟨by rw [h3], rfl⟩
            · have h2b := decide_eq_false h2
              have h2c : decide ((i : Int) < 7) = false := decide_eq_false (by omega)
              have h3 : decide (i < l1.length ∧ i < 7) = false := decide_eq_false (fun q => h2 q.2)
              go_wp2
              go_meet
              case rel => exact ⟨by rw [h3], rfl⟩
          · have h1b := decide_eq_false h1
            have h3 : decide (i < l1.length ∧ i < 7) = false := decide_eq_false (fun q => h1 q.1)
            go_wp2
            go_meet
            case rel => exact ⟨by rw [h3], rfl⟩
        case rest => as_aux_lemma =>
          obtain ⟨rfl, rfl⟩ := hcut
          obtain ⟨A5, c5, rfl⟩ := Kd.R_slice hlc.RB
          by_cases h3 : i < l1.length ∧ i < 7
          · have h3b : decide (i < l1.length ∧ i < 7) = true := decide_eq_true h3
            rw [h3b]
            obtain ⟨h1, h2⟩ := h3
            have hxb := w1 _ (getD_mem h1)
            obtain ⟨ad0, e1, hx0⟩ := at_u8 hr1 h1
            cases e1
            have p1t := eq_true h1
            have p1b := decide_eq_true h1
            generalize l1.getD i 0 = x at hxb hx0
            have hdx : 0 ≤ Int.tdiv x 2 ∧ Int.tdiv x 2 ≤ 255 := by rw [Int.tdiv_eq_ediv_of_nonneg hxb.1]; omega
            have hw0 : wrap64 x = x := by unfold wrap64; omega
            have hwx : wrap64 (1 + wrap64 (Int.tdiv (wrap64 x) 2)) = 1 + Int.tdiv x 2 := by rw [hw0]; generalize Int.tdiv x 2 = q at hdx ⊢; unfold wrap64; omega
            clear hw0
            replace hx0 := Aside0.mk hx0
            replace hwx := Aside0.mk hwx
            replace hal := Aside0.mk hal
            replace h1 := Aside0.mk h1
            replace h2 := Aside0.mk h2
            go_wp2
            replace hlc := hlc.step (below_drew (Below.refl _ wc))
            refine start_ (n := 11) (S := fun w' => w'.cell? ⟨gb, 0, none⟩ = some (.slice A5 a'.length c5) ∧ w'.cell? (ad0.add i) = some (.int .u8 x)) (ds := [10]) #[false, false, false, false, false, false, false, false, false, false, false] (by kernel_rfl) rfl rfl ⟨(blk_cell hlc.B 0).trans rfl, (hlc.below.cell (World.block_lt_of_cell? w _ hx0.out)).trans hx0.out⟩ (fun hHeld => ?_)
            generalize wc.drew = wd at hlc hHeld ⊢
            refine take_ (i := 0) (N := (some 50)) (v := ?_) (a' := ?_) #[true, false, false, false, false, false, false, false, false, false, false] rfl rfl (by kernel_rfl) (fun _ _ _ h => h) (Or.inl ⟨by rfl, ?_⟩) hHeld ?_ ?_
            rotate_left
            · rintro w' ⟨h1, h2⟩
              go_simp
              with_reducible rfl
            rotate_left
            · simp only [Act.put, List.setIfInBounds_toArray, List.set_cons_zero, List.set_cons_succ, i64_w, i32_w]
              rfl
            refine pure_ (i := 1) (N := (some 51)) (v := ?_) (a' := ?_) #[true, true, false, false, false, false, false, false, false, false, false] rfl rfl (by kernel_rfl) (fun _ _ _ h => h) (Or.inl ⟨by rfl, ?_⟩) ?_ ?_
            rotate_left
            · intro w'
              go_simp
              with_reducible rfl
            rotate_left
            · simp only [Act.put, List.setIfInBounds_toArray, List.set_cons_zero, List.set_cons_succ, i64_w, i32_w]
              rfl
            refine pure_ (i := 2) (N := (some 52)) (v := ?_) (a' := ?_) #[true, true, true, false, false, false, false, false, false, false, false] rfl rfl (by kernel_rfl) (fun _ _ _ h => h) (Or.inl ⟨by rfl, ?_⟩) ?_ ?_
            rotate_left
            · intro w'
              go_simp
              with_reducible rfl
            rotate_left
            · simp only [Act.put, List.setIfInBounds_toArray, List.set_cons_zero, List.set_cons_succ, i64_w, i32_w]
              rfl
            refine pure_ (i := 3) (N := (some 53)) (v := ?_) (a' := ?_) #[true, true, true, true, false, false, false, false, false, false, false] rfl rfl (by kernel_rfl) (fun _ _ _ h => h) (Or.inl ⟨by rfl, ?_⟩) ?_ ?_
            rotate_left
            · intro w'
              go_simp
              with_reducible rfl
            rotate_left
            · simp only [Act.put, List.setIfInBounds_toArray, List.set_cons_zero, List.set_cons_succ, i64_w, i32_w]
              rfl
            refine take_ (i := 4) (N := (some 54)) (v := ?_) (a' := ?_) #[true, true, true, true, true, false, false, false, false, false, false] rfl rfl (by kernel_rfl) (fun _ _ _ h => h) (Or.inl ⟨by rfl, ?_⟩) hHeld ?_ ?_
            rotate_left
            · rintro w' ⟨h1, h2⟩
              go_simp
              with_reducible rfl
            rotate_left
            · simp only [Act.put, List.setIfInBounds_toArray, List.set_cons_zero, List.set_cons_succ, i64_w, i32_w]
              rfl
            refine pure_ (i := 5) (N := (some 55)) (v := ?_) (a' := ?_) #[true, true, true, true, true, true, false, false, false, false, false] rfl rfl (by kernel_rfl) (fun _ _ _ h => h) (Or.inl ⟨by rfl, ?_⟩) ?_ ?_
            rotate_left
            · intro w'
              go_simp
              with_reducible rfl
            rotate_left
            · simp only [Act.put, List.setIfInBounds_toArray, List.set_cons_zero, List.set_cons_succ, i64_w, i32_w]
              rfl
            refine pure_ (i := 6) (N := (some 56)) (v := ?_) (a' := ?_) #[true, true, true, true, true, true, true, false, false, false, false] rfl rfl (by kernel_rfl) (fun _ _ _ h => h) (Or.inl ⟨by rfl, ?_⟩) ?_ ?_
            rotate_left
            · intro w'
              go_simp
              with_reducible rfl
            rotate_left
            · simp only [Act.put, List.setIfInBounds_toArray, List.set_cons_zero, List.set_cons_succ, i64_w, i32_w]
              rfl
            refine pure_ (i := 7) (N := (some 57)) (v := ?_) (a' := ?_) #[true, true, true, true, true, true, true, true, false, false, false] rfl rfl (by kernel_rfl) (fun _ _ _ h => h) (Or.inl ⟨by rfl, ?_⟩) ?_ ?_
            rotate_left
            · intro w'
              go_simp
              with_reducible rfl
            rotate_left
            · simp only [Act.put, List.setIfInBounds_toArray, List.set_cons_zero, List.set_cons_succ, i64_w, i32_w]
              rfl
            refine one_ (i := 8) (N := (some 58)) #[true, true, true, true, true, true, true, true, true, false, false] rfl rfl (by kernel_rfl) (by decide) (fun K hK => ?_)
            refine value_ (w1 := ?_) (v := ?_) (by rfl) rfl ?_ ?_
            rotate_left 2
            · go_simp
              constructor
              · rfl
              · rfl
            refine hK.out _ _ ⟨(blk_cell (blk_alloc hlc.B _) 0).trans rfl, ((below_alloc hlc.below _).cell (World.block_lt_of_cell? w _ hx0.out)).trans hx0.out⟩ (fun hHeld => ?_)
            clear hK K
            refine norm_ (a' := ?_) ?_ ?_
            rotate_left
            · show Act.put _ (some 58) _ = _
              simp only [Act.put, List.setIfInBounds_toArray, List.set_cons_zero, List.set_cons_succ, i64_w, i32_w]
              rfl
            refine one_ (i := 9) (N := (some 59)) #[true, true, true, true, true, true, true, true, true, true, false] rfl rfl (by kernel_rfl) (by decide) (fun K hK => ?_)
            refine Kd.R_append_step (Kd.int .i64) (w0 := w) w.heap.size (by rfl) (.tmp 50) (.tmp 58) 22 3 (.int .i64 0) 8 rfl Try.underlying22 info3 rfl (by decide) (by omega) (.slice A5 a'.length c5) a' (wrap64 (1 + wrap64 (Int.tdiv (wrap64 x) 2))) [.int .i64 (wrap64 (1 + wrap64 (Int.tdiv (wrap64 x) 2)))] (fun j => some j ≠ (.slice A3 a.length c3 : Value).ownBlock) (fun _ => False) rfl rfl ?aP (fun _ hk => hk.elim) ?aF ?aO ?aB ?aS ?aL ?_
            case aP => rfl
            case aF => exact Kd.fresh' (Kd.R_lt hlc.RA)
            case aO => exact hlc.RB
            case aB => exact hlc.below
            case aS => exact below_size hlc.below
            case aL => have := hal.out; omega
            intro v1 w9 ho hb hg hat
            obtain ⟨A4, c4, rfl⟩ := Kd.R_slice ho
            generalize (a' ++ [wrap64 (1 + wrap64 (Int.tdiv (wrap64 x) 2))]).length = n4 at ho hat ⊢
            have hA9 := blk_grown hlc.B hg (Kd.R_ne hlc.RB hlc.B (by decide))
            refine hK.out _ _ ⟨(blk_cell hA9 0).trans rfl, (hb.cell (World.block_lt_of_cell? w _ hx0.out)).trans hx0.out⟩ (fun hHeld => ?_)
            clear hK K
            refine norm_ (a' := ?_) ?_ ?_
            rotate_left
            · show Act.put _ (some 59) _ = _
              simp only [Act.put, List.setIfInBounds_toArray, List.set_cons_zero, List.set_cons_succ, i64_w, i32_w]
              rfl
            refine last_ (i := 10) (N := none) #[true, true, true, true, true, true, true, true, true, true, true] rfl rfl (by kernel_rfl) (by decide) (fun K hK => ?_)
            have hzA := (blk_cell hA9 0).trans rfl
            have hfA := blk_frozen hA9 0
            refine skip_ (w1 := ?_) (by rfl) rfl ?_ ?_
            rotate_left
            · go_simp
              rfl
            refine hK.out _ _ ?_
            clear hK K
            refine done_ (by kernel_rfl) ?_
            have hlc9 := hlc.appB ho hb hg hat
            clear ho hb hg hat hzA hfA hA9 hlc hHeld
            generalize w9.setCell ⟨gb, 0, none⟩ (.slice A4 n4 c4) = w10 at hlc9 ⊢
            rw [hwx.out] at hlc9
            go_wp2
            go_roundw
            case rel => exact ⟨i + 1, _, a' ++ [1 + Int.tdiv x 2], by have := h1.out; omega, by have := h2.out; omega, by go_num, by rw [List.length_append, hal.out]; rfl, snoc_b hbb (by omega), hlc9⟩
            case measure => have := h2.out; simp [intOf]; omega
          have h3b : decide (i < l1.length ∧ i < 7) = false := decide_eq_false h3
          rw [h3b]
          have hbl7 : a'.length ≤ 7 := by omega
          clear h3 hal hi0 hi6
          generalize a' = b at hbb hlc hbl7 ⊢
          obtain ⟨r1, r2, hr⟩ := share_some2 a b
          replace hr := Aside0.mk hr
          go_wp2
          replace hlc := hlc.step (below_drew (Below.refl _ wc))
          refine start_ (n := 10) (S := fun w' => w'.cell? ⟨ga, 0, none⟩ = some (.slice A3 a.length c3) ∧ w'.cell? ⟨gb, 0, none⟩ = some (.slice A5 b.length c5)) (ds := []) #[false, false, false, false, false, false, false, false, false, false] (by kernel_rfl) rfl rfl ⟨(blk_cell hlc.A 0).trans rfl, (blk_cell hlc.B 0).trans rfl⟩ (fun hHeld => ?_)
          generalize wc.drew = wd at hlc hHeld ⊢
          refine take_ (i := 0) (N := (some 61)) (v := ?_) (a' := ?_) #[true, false, false, false, false, false, false, false, false, false] rfl rfl (by kernel_rfl) (fun _ _ _ h => h) (Or.inl ⟨by rfl, ?_⟩) hHeld ?_ ?_
          rotate_left
          · rintro w' ⟨h1, h2⟩
            go_simp
            with_reducible rfl
          rotate_left
          · simp only [Act.put, List.setIfInBounds_toArray, List.set_cons_zero, List.set_cons_succ, i64_w, i32_w]
            rfl
          refine take_ (i := 2) (N := (some 63)) (v := ?_) (a' := ?_) #[true, false, true, false, false, false, false, false, false, false] rfl rfl (by kernel_rfl) (fun _ _ _ h => h) (Or.inl ⟨by rfl, ?_⟩) hHeld ?_ ?_
          rotate_left
          · rintro w' ⟨h1, h2⟩
            go_simp
            with_reducible rfl
          rotate_left
          · simp only [Act.put, List.setIfInBounds_toArray, List.set_cons_zero, List.set_cons_succ, i64_w, i32_w]
            rfl
          refine one_ (i := 1) (N := (some 62)) #[true, true, true, false, false, false, false, false, false, false] rfl rfl (by kernel_rfl) (by decide) (fun K hK => ?_)
          refine goes_ Try.func16 (by kernel_rfl) rfl #[.slice A3 a.length c3] (by rfl) rfl rfl (by (try simp only [List.map_toArray, List.map_cons, List.map_nil]); first | done | rfl | (simp only [List.length_drop, List.length_take]; rfl)) ?_
          with_reducible refine (acmelaw12_ints.calls _ _ a a _ (Kd.R_reads' hlc.RA).2.2 (Kd.R_reads' hlc.RA).2.1 (ints_some a (by omega))).mono ?_
          rintro e w3 ⟨v62, rfl, hR62, hb⟩
          obtain ⟨A62, c62, rfl⟩ := Kd.R_slice hR62
          refine ⟨_, rfl, ?_⟩
          replace hlc := hlc.step hb
          clear hb
          refine hK.out _ _ ⟨(blk_cell hlc.A 0).trans rfl, (blk_cell hlc.B 0).trans rfl⟩ (fun hHeld => ?_)
          clear hK K
          refine norm_ (a' := ?_) ?_ ?_
          rotate_left
          · show Act.put _ (some 62) _ = _
            simp only [Act.put, List.setIfInBounds_toArray, List.set_cons_zero, List.set_cons_succ, i64_w, i32_w]
            rfl
          refine one_ (i := 3) (N := (some 64)) #[true, true, true, true, false, false, false, false, false, false] rfl rfl (by kernel_rfl) (by decide) (fun K hK => ?_)
          refine goes_ Try.func16 (by kernel_rfl) rfl #[.slice A5 b.length c5] (by rfl) rfl rfl (by (try simp only [List.map_toArray, List.map_cons, List.map_nil]); first | done | rfl | (simp only [List.length_drop, List.length_take]; rfl)) ?_
          with_reducible refine (acmelaw12_ints.calls _ _ b b _ (Kd.R_reads' hlc.RB).2.2 (Kd.R_reads' hlc.RB).2.1 (ints_some b (by omega))).mono ?_
          rintro e w4 ⟨v64, rfl, hR64, hb⟩
          obtain ⟨A64, c64, rfl⟩ := Kd.R_slice hR64
          refine ⟨_, rfl, ?_⟩
          replace hlc := hlc.step hb
          replace hR62 := Kd.R_below hR62 hb
          clear hb
          refine hK.out _ _ ⟨(blk_cell hlc.A 0).trans rfl, (blk_cell hlc.B 0).trans rfl⟩ (fun hHeld => ?_)
          clear hK K
          refine norm_ (a' := ?_) ?_ ?_
          rotate_left
          · show Act.put _ (some 64) _ = _
            simp only [Act.put, List.setIfInBounds_toArray, List.set_cons_zero, List.set_cons_succ, i64_w, i32_w]
            rfl
          refine one_ (i := 4) (N := (some 65)) #[true, true, true, true, true, false, false, false, false, false] rfl rfl (by kernel_rfl) (by decide) (fun K hK => ?_)
          refine goes_ Try.func28 (by kernel_rfl) rfl #[.slice A62 a.length c62, .slice A64 b.length c64] (by rfl) rfl rfl (by (try simp only [List.map_toArray, List.map_cons, List.map_nil]); first | done | rfl | (simp only [List.length_drop, List.length_take]; rfl)) ?_
          with_reducible refine (mill_Share.calls _ _ a _ _ b r1 r2 _ (Kd.R_reads' hR62).2.2 (Kd.R_reads' hR62).2.1 (Kd.R_reads' hR64).2.2 (Kd.R_reads' hR64).2.1 hr.out).mono ?_
          rintro e w5 ⟨v65, rfl, hR65, hb⟩
          obtain ⟨A65, c65, rfl⟩ := Kd.R_slice hR65
          refine ⟨_, rfl, ?_⟩
          have hS5 := below_size hlc.below
          replace hlc := hlc.step hb
          clear hb hR62 hR64
          refine hK.out _ _ ⟨(blk_cell hlc.A 0).trans rfl, (blk_cell hlc.B 0).trans rfl⟩ (fun hHeld => ?_)
          clear hK K
          refine norm_ (a' := ?_) ?_ ?_
          rotate_left
          · show Act.put _ (some 65) _ = _
            simp only [Act.put, List.setIfInBounds_toArray, List.set_cons_zero, List.set_cons_succ, i64_w, i32_w]
            rfl
          refine pure_ (i := 5) (N := (some 60)) (v := ?_) (a' := ?_) #[true, true, true, true, true, true, false, false, false, false] rfl rfl (by kernel_rfl) (fun _ _ _ h => h) (Or.inl ⟨by rfl, ?_⟩) ?_ ?_
          rotate_left
          · intro w'
            go_simp
            with_reducible rfl
          rotate_left
          · simp only [Act.put, List.setIfInBounds_toArray, List.set_cons_zero, List.set_cons_succ, i64_w, i32_w]
            rfl
          refine pure_ (i := 6) (N := (some 66)) (v := ?_) (a' := ?_) #[true, true, true, true, true, true, true, false, false, false] rfl rfl (by kernel_rfl) (fun _ _ _ h => h) (Or.inl ⟨by rfl, ?_⟩) ?_ ?_
          rotate_left
          · intro w'
            go_simp
            with_reducible rfl
          rotate_left
          · simp only [Act.put, List.setIfInBounds_toArray, List.set_cons_zero, List.set_cons_succ, i64_w, i32_w]
            rfl
          refine pure_ (i := 7) (N := (some 67)) (v := ?_) (a' := ?_) #[true, true, true, true, true, true, true, true, false, false] rfl rfl (by kernel_rfl) (fun _ _ _ h => h) (Or.inl ⟨by rfl, ?_⟩) ?_ ?_
          rotate_left
          · intro w'
            go_simp
            with_reducible rfl
          rotate_left
          · simp only [Act.put, List.setIfInBounds_toArray, List.set_cons_zero, List.set_cons_succ, i64_w, i32_w]
            rfl
          refine pure_ (i := 8) (N := (some 11)) (v := ?_) (a' := ?_) #[true, true, true, true, true, true, true, true, true, false] rfl rfl (by kernel_rfl) (fun _ _ _ h => h) (Or.inl ⟨by rfl, ?_⟩) ?_ ?_
          rotate_left
          · intro w'
            go_simp
            with_reducible rfl
          rotate_left
          · simp only [Act.put, List.setIfInBounds_toArray, List.set_cons_zero, List.set_cons_succ, i64_w, i32_w]
            rfl
          refine pure_ (i := 9) (N := (some 12)) (v := ?_) (a' := ?_) #[true, true, true, true, true, true, true, true, true, true] rfl rfl (by kernel_rfl) (fun _ _ _ h => h) (Or.inl ⟨by rfl, ?_⟩) ?_ ?_
          rotate_left
          · intro w'
            go_simp
            with_reducible rfl
          rotate_left
          · simp only [Act.put, List.setIfInBounds_toArray, List.set_cons_zero, List.set_cons_succ, i64_w, i32_w]
            rfl
          refine done_ (by kernel_rfl) ?_
          clear hHeld
          replace hR65 := Kd.R_lower hR65 hS5
          clear hS5
          go_wp2_with ((with_reducible refine gate_dst (N := 69) rfl ?_); refine Kd.R_lit (Kd.int .i64) _ 3 ?hg (N := 69) ?hd (xs := ([] : List Int)) (inner := []) (ok := fun _ => True) (okp := fun _ => True) ?hr ?hp (fun _ hk => hk) trivial (Below.refl _ _) (Nat.le_refl _) (by simp) ?_; (case hd => rfl); (case hg => rfl); (case hr => first | (go_simp; done) | (go_simp; rfl)); (case hp => exact (Reps.none _ _)); intro vW w6 hoW hbW hgW_ hnW_; obtain ⟨AW, cW, rfl⟩ := Kd.R_slice hoW)
          have hlw : LW w w6 ga gb (.slice A3 a.length c3) (.slice A5 b.length c5) (.slice AW 0 cW) (.slice A65 r1.length c65) a b [] r1 :=
            ⟨hlc.step hbW, fun k hk e => by have := Kd.R_lt hlc.RA k hk; have := Kd.R_base hoW k e.symm; omega, fun k hk e => by have := Kd.R_lt hlc.RB k hk; have := Kd.R_base hoW k e.symm; omega,
             fun k hk e => by have := Kd.R_lt hR65 k hk; have := Kd.R_base hoW k e.symm; omega, Kd.R_lower hoW (below_size hlc.below), Kd.R_below hR65 hbW⟩
          clear hlc hR65 hoW hbW hgW_ hnW_
          go_loopw [14, 15] (fun v14 v15 wr => ∃ (i : Nat) (way : List Int), i ≤ b.length ∧ v15 = .int .i64 i ∧ way.length = i ∧ LW w wr ga gb (.slice A3 a.length c3) (.slice A5 b.length c5) v14 (.slice A65 r1.length c65) a b way r1)
            (fun _ v15 _ => b.length - (intOf v15).toNat)
          case atStart => exact ⟨0, [], by omega, rfl, rfl, hlw⟩
          case round => as_aux_lemma =>
            clear hlw
            obtain ⟨i, way, hi, rfl, hwl, hlw⟩ := hrel
            obtain ⟨A7, c7, rfl⟩ := Kd.R_slice hlw.RW
            have hza : wr.cell? ⟨ga, 0, none⟩ = some (.slice A3 a.length c3) := (blk_cell hlw.lc.A 0).trans rfl
            have hzb : wr.cell? ⟨gb, 0, none⟩ = some (.slice A5 b.length c5) := (blk_cell hlw.lc.B 0).trans rfl
            replace hwl := Aside0.mk hwl
            go_upto_region 14 with (fail)
            go_cut [78] (fun v28 wc => v28 = .bool (decide (i < b.length ∧ 0 < a.length)) ∧ wc = wr)
            case first =>
              by_cases h1 : i < b.length
              · have h1b := decide_eq_true h1
                by_cases h2 : 0 < a.length
                · have h2b := decide_eq_true h2
                  have h2c : decide ((0 : Int) < (a.length : Int)) = true := decide_eq_true (by omega)
                  have h3 : decide (i < b.length ∧ 0 < a.length) = true := decide_eq_true ⟨h1, h2⟩
                  go_wp2
                  go_meet
                  case rel => exact ⟨by rw [h3], rfl⟩
                · have h2b := decide_eq_false h2
                  have h2c : decide ((0 : Int) < (a.length : Int)) = false := decide_eq_false (by omega)
                  have h3 : decide (i < b.length ∧ 0 < a.length) = false := decide_eq_false (fun q => h2 q.2)
                  go_wp2
                  go_meet
                  case rel => exact ⟨by rw [h3], rfl⟩
              · have h1b := decide_eq_false h1
                have h3 : decide (i < b.length ∧ 0 < a.length) = false := decide_eq_false (fun q => h1 q.1)
                go_wp2
                go_meet
                case rel => exact ⟨by rw [h3], rfl⟩
            case rest => as_aux_lemma =>
              obtain ⟨rfl, rfl⟩ := hcut
              by_cases h3 : i < b.length ∧ 0 < a.length
              · have h3b : decide (i < b.length ∧ 0 < a.length) = true := decide_eq_true h3
                rw [h3b]
                obtain ⟨h1, h2⟩ := h3
                have z1 : ((a.length : Int) == 0) = false := beq_eq_false_iff_ne.mpr (by omega)
                have z1p : ((a.length : Int) = 0) = False := eq_false (by omega)
                have z1n : (a.length = 0) = False := eq_false (by omega)
                replace h1 := Aside0.mk h1
                replace h2 := Aside0.mk h2
                by_cases h4 : 0 < l2.length
                · have h4b := decide_eq_true h4
                  have h4c : decide ((0 : Int) < (l2.length : Int)) = true := decide_eq_true (by omega)
                  have z2 : ((l2.length : Int) == 0) = false := beq_eq_false_iff_ne.mpr (by omega)
                  have z2p : ((l2.length : Int) = 0) = False := eq_false (by omega)
                  have z2n : (l2.length = 0) = False := eq_false (by omega)
                  have hm : i % l2.length < l2.length := Nat.mod_lt _ h4
                  obtain ⟨ad2, e2, hx2⟩ := at_u8 (Kd.C_below hr2 hlw.lc.below) hm
                  cases e2
                  have hmt := eq_true hm
                  have hm0 : (0 ≤ (i : Int) % (l2.length : Int)) = True := eq_true (Int.emod_nonneg _ (by omega))
                  have hm1 : ((i : Int) % (l2.length : Int) < (l2.length : Int)) = True := eq_true (Int.emod_lt_of_pos _ (by omega))
                  have hxb := w2 _ (getD_mem hm)
                  generalize l2.getD (i % l2.length) 0 = x at hx2 hxb
                  replace hm := Aside0.mk hm
                  replace h4 := Aside0.mk h4
                  go_wp2_with ((with_reducible refine gate_builtin (b := .append) (xs := #[.tmp 92, .tmp 97]) rfl ?_); at_builtin; refine Kd.R_append (Kd.int .i64) (w0 := w) w.heap.size rfl (.tmp 92) (.tmp 97) 22 3 (.int .i64 0) 8 rfl Try.underlying22 info3 rfl (by decide) (by omega) (.slice A7 way.length c7) way (x % (a.length : Int)) [.int .i64 (x % (a.length : Int))] (fun _ => True) (fun _ => False) rfl (by first | (go_simp; done) | (go_simp; rfl)) ?aP (fun _ hk => hk.elim) ?aF ?aO ?aB ?aS ?aL ?_; (case aP => rfl); (case aF => exact fun _ _ => trivial); (case aO => exact hlw.RW); (case aB => exact hlw.lc.below); (case aS => exact below_size hlw.lc.below); (case aL => have := hwl.out; omega); intro v1 w9 ho hb hg hat; have hlw9 := hlw.app ho hb hg hat; clear ho hb hg hat)
                  go_roundw
                  case rel => exact ⟨i + 1, way ++ [x % (a.length : Int)], by have := h1.out; omega, by go_num, by rw [List.length_append, hwl.out]; rfl, hlw9⟩
                  case measure => have := h1.out; simp [intOf]; omega
                · have h4b := decide_eq_false h4
                  have h4c : decide ((0 : Int) < (l2.length : Int)) = false := decide_eq_false (by omega)
                  replace h4 := Aside0.mk h4
                  go_wp2_with ((with_reducible refine gate_builtin (b := .append) (xs := #[.tmp 92, .tmp 97]) rfl ?_); at_builtin; refine Kd.R_append (Kd.int .i64) (w0 := w) w.heap.size rfl (.tmp 92) (.tmp 97) 22 3 (.int .i64 0) 8 rfl Try.underlying22 info3 rfl (by decide) (by omega) (.slice A7 way.length c7) way (0) [.int .i64 (0)] (fun _ => True) (fun _ => False) rfl (by first | (go_simp; done) | (go_simp; rfl)) ?aP (fun _ hk => hk.elim) ?aF ?aO ?aB ?aS ?aL ?_; (case aP => rfl); (case aF => exact fun _ _ => trivial); (case aO => exact hlw.RW); (case aB => exact hlw.lc.below); (case aS => exact below_size hlw.lc.below); (case aL => have := hwl.out; omega); intro v1 w9 ho hb hg hat; have hlw9 := hlw.app ho hb hg hat; clear ho hb hg hat)
                  go_roundw
                  case rel => exact ⟨i + 1, way ++ [0], by have := h1.out; omega, by go_num, by rw [List.length_append, hwl.out]; rfl, hlw9⟩
                  case measure => have := h1.out; simp [intOf]; omega
              have h3b : decide (i < b.length ∧ 0 < a.length) = false := decide_eq_false h3
              rw [h3b]
              have hlaw := law a b way r1 r2 hal6 hbl7 hab hbb hr.out
              clear h3 h3b
              have hC := fun (W' : World) (hb : Below wc.heap.size wc W') => coils1_calls (way := way) (a := a) (b := b) (ga := ga) (gb := gb) W' (Kd.C_below (Kd.R_reads' hlw.RW).2.2 hb) (Kd.R_reads' hlw.RW).2.1 (blk_below hlw.lc.A hb) (blk_below hlw.lc.B hb) (Kd.C_below (Kd.R_reads' hlw.lc.RA).2.2 hb) (Kd.R_reads' hlw.lc.RA).2.1 (Kd.C_below (Kd.R_reads' hlw.lc.RB).2.2 hb) (Kd.R_reads' hlw.lc.RB).2.1 (by omega) (by omega) hab hbb
              have hC2 := fun (W' : World) (hb : Below wc.heap.size wc W') => coils1_calls (way := r1) (a := a) (b := b) (ga := ga) (gb := gb) W' (Kd.C_below (Kd.R_reads' hlw.RR).2.2 hb) (Kd.R_reads' hlw.RR).2.1 (blk_below hlw.lc.A hb) (blk_below hlw.lc.B hb) (Kd.C_below (Kd.R_reads' hlw.lc.RA).2.2 hb) (Kd.R_reads' hlw.lc.RA).2.1 (Kd.C_below (Kd.R_reads' hlw.lc.RB).2.2 hb) (Kd.R_reads' hlw.lc.RB).2.1 (by omega) (by omega) hab hbb
              have hW := hlw.lc.below
              clear hlw hza hzb
              replace hwl := hwl.out
              rcases hlaw with ⟨e7, er, hneg⟩ | ⟨e8, hpos, hcmp⟩
              · subst e7; subst er
                generalize usedF a b way = u at hneg hC
                have hnb : decide (u < 0) = true := decide_eq_true hneg
                replace hneg := Aside0.mk hneg
                replace hwl := Aside0.mk hwl
                go_wp2_with (first | (go_at_call 50; (with_reducible refine (hC wc (Below.refl _ _)).mono ?_); rintro e w8 ⟨rfl, hb8⟩) | (go_at_call 15; refine (acmelaw12_known.calls true _ rfl).mono ?_; rintro e w9 ⟨rfl, hb9⟩))
                go_ret
                exact ⟨rfl, below_step (below_step hW hb8) hb9⟩
              · subst e8
                generalize usedF a b way = u at hcmp hC
                generalize usedF a b r1 = m at hpos hcmp hC2
                have hmb : decide (0 ≤ m) = true := decide_eq_true hpos
                replace hwl := Aside0.mk hwl
                by_cases hu : u < 0
                · have hub : decide (u < 0) = true := decide_eq_true hu
                  replace hcmp := Aside0.mk hcmp
                  replace hu := Aside0.mk hu
                  replace hpos := Aside0.mk hpos
                  go_wp2_with (first | (go_at_call 50; (with_reducible refine (hC wc (Below.refl _ _)).mono ?_); rintro e w8 ⟨rfl, hb8⟩) | (go_at_call 50; (with_reducible refine (hC2 w8 hb8).mono ?_); rintro e w9 ⟨rfl, hb9⟩) | (go_at_call 15; refine (acmelaw12_known.calls true _ rfl).mono ?_; rintro e w10 ⟨rfl, hb10⟩))
                  go_ret
                  exact ⟨rfl, below_step (below_step (below_step hW hb8) hb9) hb10⟩
                · have hub : decide (u < 0) = false := decide_eq_false hu
                  have hc : m ≤ u := hcmp.resolve_left hu
                  have hcb : decide (m ≤ u) = true := decide_eq_true hc
                  replace hcmp := Aside0.mk hcmp
                  replace hu := Aside0.mk hu
                  replace hpos := Aside0.mk hpos
                  replace hc := Aside0.mk hc
                  go_wp2_with (first | (go_at_call 50; (with_reducible refine (hC wc (Below.refl _ _)).mono ?_); rintro e w8 ⟨rfl, hb8⟩) | (go_at_call 50; (with_reducible refine (hC2 w8 hb8).mono ?_); rintro e w9 ⟨rfl, hb9⟩) | (go_at_call 15; refine (acmelaw12_known.calls true _ rfl).mono ?_; rintro e w10 ⟨rfl, hb10⟩))
                  go_ret
                  exact ⟨rfl, below_step (below_step (below_step hW hb8) hb9) hb10⟩
end Go.Proofs.Ytiaiecfnpompcaa.T
namespace Go.Proofs.Ytiaiecfnpompcaa.T
open Go.RowKit Go.Proofs.YtiaiecfnpompcaaW.PrintWords
set_option linter.unusedVariables false
set_option linter.unusedSimpArgs false
def okP (p : S46) : Prop := (1 ≤ p.f0 ∧ p.f0 ≤ 100000) ∧ 1 ≤ p.f1 ∧ p.f1 ≤ 10000000
instance (p : S46) : Decidable (okP p) := by unfold okP; infer_instance
end Go.Proofs.Ytiaiecfnpompcaa.T
namespace Go.Proofs.Ytiaiecfnpompcaa.T
open Go.RowKit Go.Proofs.YtiaiecfnpompcaaW.PrintWords
set_option linter.unusedVariables false
set_option linter.unusedSimpArgs false
def DI (l : List Int) : Int := ((distinctI l).length : Int)
theorem mem_addI (acc : List Int) (x y : Int) : y ∈ addI acc x ↔ y ∈ acc ∨ y = x := by
  unfold addI
  split
  · rename_i h
    obtain ⟨z, hz, e⟩ := List.any_eq_true.1 h
    have : z = x := by simpa using e
    subst this
    exact ⟨.inl, fun h => h.elim id (fun e => e ▸ hz)⟩
  · simp
theorem nodup_addI {acc : List Int} (h : acc.Nodup) (x : Int) : (addI acc x).Nodup := by
  unfold addI
  split
  · exact h
  · rename_i hn
    rw [List.nodup_append]
    refine ⟨h, by simp, ?_⟩
    intro a ha b hb e
    rw [List.mem_singleton] at hb
    subst hb; subst e
    exact hn (List.any_eq_true.2 ⟨a, ha, by simp⟩)
theorem fold_addI : ∀ (l acc : List Int), acc.Nodup → (l.foldl addI acc).Nodup ∧ ∀ y, y ∈ l.foldl addI acc ↔ y ∈ acc ∨ y ∈ l
  | [], acc, h => ⟨h, by simp⟩
  | x :: l, acc, h => by
    obtain ⟨h1, h2⟩ := fold_addI l (addI acc x) (nodup_addI h x)
    refine ⟨h1, fun y => ?_⟩
    rw [List.foldl_cons, h2, mem_addI, List.mem_cons]
    constructor
    · rintro ((h | h) | h)
      · exact .inl h
      · exact .inr (.inl h)
      · exact .inr (.inr h)
    · rintro (h | h | h)
      · exact .inl (.inl h)
      · exact .inl (.inr h)
      · exact .inr h
theorem distinctI_spec (l : List Int) : (distinctI l).Nodup ∧ ∀ y, y ∈ distinctI l ↔ y ∈ l := by
  obtain ⟨h1, h2⟩ := fold_addI l [] (by simp)
  exact ⟨h1, fun y => by unfold distinctI; rw [h2]; simp⟩
theorem length_addI (acc : List Int) (x : Int) : acc.length ≤ (addI acc x).length := by
  unfold addI
  split
  · exact Nat.le_refl _
  · simp
theorem DI_append (l : List Int) : ∀ (r : List Int), DI l ≤ DI (l ++ r) := by
  intro r
  have go : ∀ (r acc : List Int), acc.length ≤ (r.foldl addI acc).length := by
    intro r
    induction r with
    | nil => intro acc; exact Nat.le_refl _
    | cons x r ih => intro acc; exact Nat.le_trans (length_addI acc x) (ih _)
  unfold DI distinctI
  rw [List.foldl_append]
  have := go r (l.foldl addI [])
  omega
def comps (n m : Nat) (needs : List Int) : Nat → List Int → List Int → List (List Int)
  | 0, _, _ => []
  | d + 1, left, now => if now.length = n then [now] else
    (List.range m).flatMap fun c => if left.getD c 0 < needs.getD now.length 0 then [] else comps n m needs d (left.set c (left.getD c 0 - needs.getD now.length 0)) (now ++ [(c : Int)])
def upd (st : List Int × Int) (x : List Int) : List Int × Int := if DI x < st.2 then (x, DI x) else st
theorem comps_ext (n m : Nat) (needs : List Int) : ∀ (d : Nat) (left now x : List Int), x ∈ comps n m needs d left now → ∃ r, x = now ++ r
  | 0, _, _, _, h => by simp [comps] at h
  | d + 1, left, now, x, h => by
    rw [comps] at h
    split at h
    · rw [List.mem_singleton] at h; exact ⟨[], by simp [h]⟩
    · obtain ⟨c, _, hc⟩ := List.mem_flatMap.1 h
      split at hc
      · simp at hc
      · obtain ⟨r, hr⟩ := comps_ext n m needs d _ _ _ hc
        exact ⟨(c : Int) :: r, by rw [hr]; simp⟩
theorem fold_upd_stay : ∀ (l : List (List Int)) (st : List Int × Int), (∀ x ∈ l, st.2 ≤ DI x) → l.foldl upd st = st
  | [], _, _ => rfl
  | x :: l, st, h => by
    have e : upd st x = st := by unfold upd; rw [if_neg (by have := h x (by simp); omega)]
    rw [List.foldl_cons, e]
    exact fold_upd_stay l st (fun y hy => h y (by simp [hy]))
theorem fold_flat {α β γ : Type} (f : γ → β → γ) (g : α → List β) : ∀ (l : List α) (st : γ), (l.flatMap g).foldl f st = l.foldl (fun st a => (g a).foldl f st) st
  | [], _ => rfl
  | a :: l, st => by
    rw [List.flatMap_cons, List.foldl_append, List.foldl_cons]
    exact fold_flat f g l _
theorem shareF_eq (needs : List Int) : ∀ (d : Nat) (left now : List Int) (st : List Int × Int), now.length + d = needs.length + 1 → now.length ≤ needs.length →
    shareF needs d left now st = (comps needs.length left.length needs d left now).foldl upd st
  | 0, left, now, st, h, h2 => by omega
  | d + 1, left, now, st, h, h2 => by
    rw [shareF]
    by_cases h1 : ((distinctI now).length : Int) ≥ st.2
    · rw [if_pos h1]
      symm
      apply fold_upd_stay
      intro x hx
      obtain ⟨r, rfl⟩ := comps_ext _ _ _ _ _ _ _ hx
      exact Int.le_trans h1 (DI_append now r)
    · rw [if_neg h1, comps]
      by_cases h3 : now.length = needs.length
      · rw [if_pos h3, if_pos h3]
        show _ = upd st now
        unfold upd DI
        rw [if_pos (by omega)]
      · rw [if_neg h3, if_neg h3, fold_flat]
        congr 1
        funext st' c
        by_cases h4 : left.getD c 0 < needs.getD now.length 0
        · rw [if_pos h4, if_pos h4]; rfl
        · rw [if_neg h4, if_neg h4]
          have := shareF_eq needs d (left.set c (left.getD c 0 - needs.getD now.length 0)) (now ++ [(c : Int)]) st' (by simp; omega) (by simp; omega)
          rw [List.length_set] at this
          exact this
def pick (acc : Option (List Int)) (x : List Int) : Option (List Int) := match acc with
  | none => some x
  | some b => if DI x < DI b then some x else some b
def best (l : List (List Int)) : Option (List Int) := l.foldl pick none
theorem pick_lt {b x : List Int} (h : DI x < DI b) : pick (some b) x = some x := by unfold pick; exact if_pos h
theorem pick_ge {b x : List Int} (h : ¬ DI x < DI b) : pick (some b) x = some b := by unfold pick; exact if_neg h
theorem upd_lt {b x : List Int} (h : DI x < DI b) : upd (b, DI b) x = (x, DI x) := by unfold upd; exact if_pos h
theorem upd_ge {b x : List Int} (h : ¬ DI x < DI b) : upd (b, DI b) x = (b, DI b) := by unfold upd; exact if_neg h
theorem fold_pick_isSome : ∀ (l : List (List Int)) (b : List Int), ∃ x, l.foldl pick (some b) = some x ∧ (x = b ∨ x ∈ l)
  | [], b => ⟨b, rfl, .inl rfl⟩
  | y :: l, b => by
    rw [List.foldl_cons]
    by_cases h : DI y < DI b
    · rw [pick_lt h]
      obtain ⟨x, hx, hm⟩ := fold_pick_isSome l y
      exact ⟨x, hx, .inr (by rcases hm with rfl | hm <;> simp_all)⟩
    · rw [pick_ge h]
      obtain ⟨x, hx, hm⟩ := fold_pick_isSome l b
      exact ⟨x, hx, by rcases hm with rfl | hm; exact .inl rfl; exact .inr (by simp [hm])⟩
theorem fold_upd_some : ∀ (l : List (List Int)) (b : List Int), l.foldl upd (b, DI b) = match l.foldl pick (some b) with | none => (b, DI b) | some x => (x, DI x)
  | [], b => rfl
  | x :: l, b => by
    rw [List.foldl_cons, List.foldl_cons]
    by_cases h : DI x < DI b
    · rw [upd_lt h, pick_lt h, fold_upd_some l x]
      obtain ⟨z, hz, _⟩ := fold_pick_isSome l x
      rw [hz]
    · rw [upd_ge h, pick_ge h]; exact fold_upd_some l b
theorem fold_upd_top {m : Nat} : ∀ (l : List (List Int)), (∀ x ∈ l, DI x ≤ m) → l.foldl upd ([], (m : Int) + 1) = match best l with | none => ([], (m : Int) + 1) | some x => (x, DI x)
  | [], _ => rfl
  | x :: l, h => by
    have hx := h x (by simp)
    have e : upd ([], (m : Int) + 1) x = (x, DI x) := by unfold upd; rw [if_pos (by show DI x < (m : Int) + 1; omega)]
    unfold best
    rw [List.foldl_cons, e, fold_upd_some, List.foldl_cons]
    obtain ⟨y, hy, _⟩ := fold_pick_isSome l x
    show _ = match l.foldl pick (some x) with | none => ([], (m : Int) + 1) | some x => (x, DI x)
    rw [hy]
end Go.Proofs.Ytiaiecfnpompcaa.T
namespace Go.Proofs.Ytiaiecfnpompcaa.T
open Go.RowKit Go.Proofs.YtiaiecfnpompcaaW.PrintWords
set_option linter.unusedVariables false
set_option linter.unusedSimpArgs false
def cntN (l : List Int) : Nat → Nat → Int
  | 0, _ => 0
  | n + 1, i => (if (i : Int) ∈ l then 1 else 0) + cntN l n (i + 1)
theorem cntN_bound (l : List Int) : ∀ n i, 0 ≤ cntN l n i ∧ cntN l n i ≤ n
  | 0, _ => by simp [cntN]
  | n + 1, i => by
    have := cntN_bound l n (i + 1)
    rw [cntN]
    split <;> omega
theorem cntN_range (l : List Int) : ∀ n i, cntN l n i = (((List.range' i n).filter fun c : Nat => decide ((c : Int) ∈ l)).length : Int)
  | 0, _ => rfl
  | n + 1, i => by
    rw [cntN, cntN_range l n (i + 1), List.range'_succ, List.filter_cons]
    by_cases h : (i : Int) ∈ l
    · rw [if_pos h, if_pos (decide_eq_true h), List.length_cons]; omega
    · rw [if_neg h, if_neg (by simpa using h)]; omega
def inR (m : Nat) (l : List Int) : Prop := ∀ x ∈ l, 0 ≤ x ∧ x < (m : Int)
theorem cntN_DI {l : List Int} {m : Nat} (h : inR m l) : cntN l m 0 = DI l := by
  rw [cntN_range]
  unfold DI
  congr 1
  obtain ⟨h1, h2⟩ := distinctI_spec l
  have e : (((List.range' 0 m).filter fun c : Nat => decide ((c : Int) ∈ l)).map (fun c : Nat => (c : Int))).length = (distinctI l).length := by
    apply List.Perm.length_eq
    rw [List.perm_ext_iff_of_nodup _ h1]
    · intro y
      rw [h2, List.mem_map]
      constructor
      · rintro ⟨c, hc, rfl⟩
        have := (List.mem_filter.1 hc).2
        simpa using this
      · intro hy
        obtain ⟨h3, h4⟩ := h y hy
        refine ⟨y.toNat, List.mem_filter.2 ⟨?_, ?_⟩, by omega⟩
        · rw [List.mem_range'_1]; omega
        · rw [show ((y.toNat : Nat) : Int) = y by omega]; simpa using hy
    · show List.Pairwise (fun a b : Int => a ≠ b) _
      rw [List.pairwise_map]
      have q : List.Pairwise (fun a b : Nat => a ≠ b) ((List.range' 0 m).filter fun c : Nat => decide ((c : Int) ∈ l)) := List.Pairwise.filter _ (List.nodup_range')
      exact q.imp (fun {a b} hab e => hab (by omega))
  rw [← e, List.length_map]
end Go.Proofs.Ytiaiecfnpompcaa.T
namespace Go.Proofs.Ytiaiecfnpompcaa.T
open Go.RowKit Go.Proofs.YtiaiecfnpompcaaW.PrintWords
set_option linter.unusedVariables false
set_option linter.unusedSimpArgs false
inductive Path (coils needs : List Int) : List Int → List Int → Prop
  | nil : Path coils needs [] coils
  | snoc {now left : List Int} {c : Nat} : Path coils needs now left → c < coils.length → now.length < needs.length → needs.getD now.length 0 ≤ left.getD c 0 → Path coils needs (now ++ [(c : Int)]) (left.set c (left.getD c 0 - needs.getD now.length 0))
section
variable {coils needs : List Int} (hcb : ∀ x ∈ coils, 1 ≤ x ∧ x ≤ 10000000) (hnb : ∀ x ∈ needs, 1 ≤ x ∧ x ≤ 10000000) (hcl : coils.length ≤ 8) (hnl : needs.length ≤ 8)
theorem Path.len {now left : List Int} (h : Path coils needs now left) : left.length = coils.length := by
  induction h with
  | nil => rfl
  | snoc _ _ _ _ ih => rw [List.length_set]; exact ih
include hnb in
theorem need_b {i : Nat} (h : i < needs.length) : 1 ≤ needs.getD i 0 ∧ needs.getD i 0 ≤ 10000000 := by
  have e : needs.getD i 0 = needs[i] := by simp [h]
  rw [e]; exact hnb _ (List.getElem_mem h)
theorem best_mem {l : List (List Int)} {x : List Int} (h : best l = some x) : x ∈ l := by
  cases l with
  | nil => simp [best] at h
  | cons y l =>
    obtain ⟨z, hz, hm⟩ := fold_pick_isSome l y
    have : best (y :: l) = some z := hz
    rw [this] at h
    injection h with h
    subst h
    rcases hm with rfl | hm <;> simp_all
theorem comps_mem (n m : Nat) (needs : List Int) : ∀ (d : Nat) (left now x : List Int), inR m now → x ∈ comps n m needs d left now → inR m x ∧ x.length = n
  | 0, _, _, _, _, h => by simp [comps] at h
  | d + 1, left, now, x, hn, h => by
    rw [comps] at h
    split at h
    · rename_i e
      rw [List.mem_singleton] at h; subst h; exact ⟨hn, e⟩
    · obtain ⟨c, hcr, hc⟩ := List.mem_flatMap.1 h
      split at hc
      · simp at hc
      · refine comps_mem n m needs d _ _ _ ?_ hc
        intro y hy
        rcases List.mem_append.1 hy with q | q
        · exact hn y q
        · rw [List.mem_singleton] at q; subst q
          have := List.mem_range.1 hcr
          omega
end
end Go.Proofs.Ytiaiecfnpompcaa.T
namespace Go.Proofs.Ytiaiecfnpompcaa.T
open Go.RowKit Go.Proofs.YtiaiecfnpompcaaW.PrintWords
set_option linter.unusedVariables false
set_option linter.unusedSimpArgs false
def goP (m : Nat) (needs : List Int) : Nat → List Int → List Int → Bool
  | _, _, [] => true
  | i, left, c :: r => if c < 0 then false else if c ≥ (m : Int) then false else if left.getD c.toNat 0 < needs.getD i 0 then false else
    goP m needs (i + 1) (left.set c.toNat (left.getD c.toNat 0 - needs.getD i 0)) r
theorem goP_comps (n m : Nat) (needs : List Int) : ∀ (d : Nat) (left now r : List Int), now.length + d = n + 1 → now.length + r.length = n → goP m needs now.length left r = true → now ++ r ∈ comps n m needs d left now
  | 0, left, now, r, h1, h2, _ => by omega
  | d + 1, left, now, r, h1, h2, hg => by
    rw [comps]
    cases r with
    | nil =>
      rw [if_pos (by simpa using h2), List.append_nil]
      exact List.mem_singleton.2 rfl
    | cons c r =>
      simp only [List.length_cons] at h2
      rw [if_neg (by omega)]
      rw [goP] at hg
      by_cases c1 : c < 0
      · rw [if_pos c1] at hg; exact absurd hg (by decide)
      rw [if_neg c1] at hg
      by_cases c2 : c ≥ (m : Int)
      · rw [if_pos c2] at hg; exact absurd hg (by decide)
      rw [if_neg c2] at hg
      by_cases c3 : left.getD c.toNat 0 < needs.getD now.length 0
      · rw [if_pos c3] at hg; exact absurd hg (by decide)
      rw [if_neg c3] at hg
      rw [List.mem_flatMap]
      refine ⟨c.toNat, List.mem_range.2 (by omega), ?_⟩
      rw [if_neg c3]
      have ec : ((c.toNat : Nat) : Int) = c := by omega
      rw [ec]
      have := goP_comps n m needs d (left.set c.toNat (left.getD c.toNat 0 - needs.getD now.length 0)) (now ++ [c]) r (by simp; omega) (by simp; omega) (by
        have e : (now ++ [c]).length = now.length + 1 := by simp
        rw [e]; exact hg)
      rwa [List.append_assoc] at this
theorem comps_goP (n m : Nat) (needs : List Int) : ∀ (d : Nat) (left now x : List Int), x ∈ comps n m needs d left now → ∃ r, x = now ++ r ∧ goP m needs now.length left r = true ∧ now.length + r.length = n
  | 0, _, _, _, h => by simp [comps] at h
  | d + 1, left, now, x, h => by
    rw [comps] at h
    split at h
    · rename_i e
      rw [List.mem_singleton] at h
      exact ⟨[], by simp [h], by rw [goP], by simp [e]⟩
    · obtain ⟨c, hcr, hc⟩ := List.mem_flatMap.1 h
      split at hc
      · simp at hc
      · rename_i hn
        obtain ⟨r, hr, hg, hl⟩ := comps_goP n m needs d _ _ _ hc
        have hm := List.mem_range.1 hcr
        have e : (now ++ [(c : Int)]).length = now.length + 1 := by simp
        rw [e] at hg hl
        refine ⟨(c : Int) :: r, by rw [hr]; simp, ?_, by simp; omega⟩
        rw [goP, if_neg (by omega), if_neg (by omega), Int.toNat_natCast, if_neg hn]
        exact hg
theorem best_least {l : List (List Int)} {x : List Int} (hx : x ∈ l) : ∃ b, best l = some b ∧ DI b ≤ DI x := by
  have go : ∀ (l : List (List Int)) (b : List Int), ∃ y, l.foldl pick (some b) = some y ∧ DI y ≤ DI b ∧ ∀ z ∈ l, DI y ≤ DI z := by
    intro l
    induction l with
    | nil => intro b; exact ⟨b, rfl, Int.le_refl _, fun z hz => by simp at hz⟩
    | cons q l ih =>
      intro b
      rw [List.foldl_cons]
      by_cases h : DI q < DI b
      · rw [pick_lt h]
        obtain ⟨y, h1, h2, h3⟩ := ih q
        refine ⟨y, h1, by omega, fun z hz => ?_⟩
        rcases List.mem_cons.1 hz with rfl | hz
        · exact h2
        · exact h3 z hz
      · rw [pick_ge h]
        obtain ⟨y, h1, h2, h3⟩ := ih b
        refine ⟨y, h1, h2, fun z hz => ?_⟩
        rcases List.mem_cons.1 hz with rfl | hz
        · omega
        · exact h3 z hz
  cases l with
  | nil => simp at hx
  | cons q l =>
    obtain ⟨y, h1, h2, h3⟩ := go l q
    refine ⟨y, h1, ?_⟩
    rcases List.mem_cons.1 hx with rfl | hx
    · exact h2
    · exact h3 x hx
theorem DI_snoc (l : List Int) (c : Int) : DI (l ++ [c]) = if c ∈ l then DI l else DI l + 1 := by
  obtain ⟨_, h2⟩ := distinctI_spec l
  unfold DI
  have e : distinctI (l ++ [c]) = addI (distinctI l) c := by unfold distinctI; rw [List.foldl_append]; rfl
  rw [e]
  unfold addI
  by_cases h : c ∈ l
  · have : (distinctI l).any (fun y => y == c) = true := List.any_eq_true.2 ⟨c, (h2 c).2 h, by simp⟩
    rw [if_pos this, if_pos h]
  · have : ¬ (distinctI l).any (fun y => y == c) = true := by
      intro q
      obtain ⟨y, hy, e⟩ := List.any_eq_true.1 q
      have : y = c := by simpa using e
      subst this
      exact h ((h2 y).1 hy)
    rw [if_neg this, if_neg h, List.length_append]
    rfl
section
variable {a b : List Int} (hab : ∀ y ∈ a, 1 ≤ y ∧ y ≤ 10000000) (hbb : ∀ y ∈ b, 1 ≤ y ∧ y ≤ 10000000)
include hbb in
theorem Path.whole {now left : List Int} (h : Path a b now left) : ∀ c, c < a.length → left.getD c 0 ≤ a.getD c 0 ∧ (left.getD c 0 = a.getD c 0 ↔ (c : Int) ∉ now) := by
  induction h with
  | nil => intro c hc; exact ⟨Int.le_refl _, by simp⟩
  | @snoc now left c0 hp hc0 hn hle ih =>
    intro c hc
    have hl := hp.len
    obtain ⟨h1, h2⟩ := ih c hc
    have hy := need_b hbb hn
    by_cases e : c0 = c
    · subst e
      have e1 : (left.set c0 (left.getD c0 0 - b.getD now.length 0)).getD c0 0 = left.getD c0 0 - b.getD now.length 0 := by simp [List.getD, hl, hc]
      rw [e1]
      refine ⟨by omega, fun q => by omega, fun q => absurd (by simp) q⟩
    · have e1 : (left.set c0 (left.getD c0 0 - b.getD now.length 0)).getD c 0 = left.getD c 0 := by simp [List.getD, List.getElem?_set, e]
      rw [e1]
      refine ⟨h1, ?_⟩
      rw [h2, List.mem_append, List.mem_singleton]
      have : ¬ (c : Int) = (c0 : Int) := by omega
      simp [this]
include hbb in
theorem uF_path : ∀ (r now left : List Int), Path a b now left → now.length + r.length = b.length → uF a b now.length left (DI now) r = if goP a.length b now.length left r = true then DI (now ++ r) else -1
  | [], now, left, hp, hl => by simp [uF, goP]
  | c :: r, now, left, hp, hl => by
    simp only [List.length_cons] at hl
    rw [uF, goP]
    by_cases c1 : c < 0
    · rw [if_pos c1, if_pos c1, if_neg (by decide)]
    rw [if_neg c1, if_neg c1]
    by_cases c2 : c ≥ (a.length : Int)
    · rw [if_pos c2, if_pos c2, if_neg (by decide)]
    rw [if_neg c2, if_neg c2]
    by_cases c3 : left.getD c.toNat 0 < b.getD now.length 0
    · rw [if_pos c3, if_pos c3, if_neg (by decide)]
    rw [if_neg c3, if_neg c3]
    have hc : c.toNat < a.length := by omega
    have ec : ((c.toNat : Nat) : Int) = c := by omega
    have hp2 := Path.snoc hp hc (show now.length < b.length by omega) (by omega)
    rw [ec] at hp2
    have hw := (hp.whole hbb c.toNat hc).2
    rw [ec] at hw
    have en : (if left.getD c.toNat 0 = a.getD c.toNat 0 then DI now + 1 else DI now) = DI (now ++ [c]) := by
      rw [DI_snoc]
      by_cases q : c ∈ now
      · rw [if_neg (fun e => hw.1 e q), if_pos q]
      · rw [if_pos (hw.2 q), if_neg q]
    rw [en]
    have ih := uF_path r (now ++ [c]) _ hp2 (by simp; omega)
    have el : (now ++ [c]).length = now.length + 1 := by simp
    rw [el] at ih
    rw [ih, List.append_assoc]
    rfl
include hab hbb in
theorem coils_law (hal : a.length ≤ 6) (hbl : b.length ≤ 7) (way r1 : List Int) (r2 : Int) (hr : mill_Share.f a b = some (r1, r2)) :
    (r2 = 7 ∧ r1 = [] ∧ usedF a b way < 0) ∨ (r2 = 0 ∧ 0 ≤ usedF a b r1 ∧ (usedF a b way < 0 ∨ usedF a b r1 ≤ usedF a b way)) := by
  have used : ∀ w : List Int, usedF a b w = if w ∈ comps b.length a.length b (b.length + 1) a [] then DI w else -1 := by
    intro w
    unfold usedF
    by_cases hl : w.length = b.length
    · rw [if_pos hl]
      have h := uF_path hbb w [] a Path.nil (by simpa using hl)
      have e : DI [] = 0 := rfl
      rw [e] at h
      have h' : uF a b 0 a 0 w = if goP a.length b 0 a w = true then DI w else -1 := h
      rw [h']
      by_cases g : goP a.length b 0 a w = true
      · have hm : w ∈ comps b.length a.length b (b.length + 1) a [] := goP_comps b.length a.length b (b.length + 1) a [] w (by simp) (by simpa using hl) g
        rw [if_pos g, if_pos hm]
      · rw [if_neg g]
        rw [if_neg]
        intro hm
        obtain ⟨r, e1, e2, _⟩ := comps_goP _ _ _ _ _ _ _ hm
        rw [List.nil_append] at e1
        subst e1
        exact g e2
    · rw [if_neg hl, if_neg]
      intro hm
      exact hl (comps_mem _ _ _ _ _ _ _ (fun y hy => by simp at hy) hm).2
  have pos : ∀ w : List Int, 0 ≤ DI w := fun w => by unfold DI; omega
  have ga : goodI a = true := by
    unfold goodI; rw [Bool.not_eq_true', List.any_eq_false]; intro x hx; have := hab x hx; simp [outside]; omega
  have gb : goodI b = true := by
    unfold goodI; rw [Bool.not_eq_true', List.any_eq_false]; intro x hx; have := hbb x hx; simp [outside]; omega
  have eqs := shareF_eq b (b.length + 1) a [] ([], (a.length : Int) + 1) (by simp) (by simp)
  have hDI : ∀ x ∈ comps b.length a.length b (b.length + 1) a [], DI x ≤ (a.length : Nat) := by
    intro x hx
    have h1 := (comps_mem _ _ _ _ _ _ _ (fun y hy => by simp at hy) hx).1
    rw [← cntN_DI h1]
    exact (cntN_bound x a.length 0).2
  rw [fold_upd_top _ hDI] at eqs
  unfold mill_Share.f at hr
  rw [if_neg (by omega), if_neg (by omega), if_neg (by rw [ga]; decide), if_neg (by rw [gb]; decide), eqs] at hr
  cases hb : best (comps b.length a.length b (b.length + 1) a []) with
  | none =>
    rw [hb] at hr
    simp only at hr
    rw [if_pos (by omega)] at hr
    injection hr with hr
    injection hr with h1 h2
    subst h1; subst h2
    refine .inl ⟨rfl, rfl, ?_⟩
    rw [used]
    by_cases hm : way ∈ comps b.length a.length b (b.length + 1) a []
    · obtain ⟨q, hq, _⟩ := best_least hm
      rw [hb] at hq
      exact absurd hq (by simp)
    · rw [if_neg hm]; decide
  | some x =>
    have hx := best_mem hb
    rw [hb] at hr
    simp only at hr
    have := hDI x hx
    rw [if_neg (by omega)] at hr
    injection hr with hr
    injection hr with h1 h2
    subst h1; subst h2
    refine .inr ⟨rfl, ?_, ?_⟩
    · rw [used, if_pos hx]; exact pos x
    · rw [used, used, if_pos hx]
      by_cases hm : way ∈ comps b.length a.length b (b.length + 1) a []
      · obtain ⟨q, hq, hle⟩ := best_least hm
        rw [hb] at hq
        injection hq with hq
        subst hq
        rw [if_pos hm]
        exact .inr hle
      · rw [if_neg hm]; exact .inl (by decide)
end
end Go.Proofs.Ytiaiecfnpompcaa.T
namespace Go.Proofs.Ytiaiecfnpompcaa.T
open Go.RowKit Go.Proofs.YtiaiecfnpompcaaW.PrintWords
set_option linter.unusedVariables false
def bytesI (l : List Int) : Bool := l.all fun x => decide (0 ≤ x ∧ x ≤ 255)
theorem bytesI_spec {l : List Int} (h : bytesI l = true) : ∀ x ∈ l, 0 ≤ x ∧ x ≤ 255 := fun x hx => of_decide_eq_true (List.all_eq_true.1 h x hx)
def acmelaw12_MillCoils.f (k : Nat) (l0 l1 l2 : List Int) : Option Bool := if bytesI l0 && bytesI l1 && bytesI l2 then some true else none
theorem acmelaw12_MillCoils.calls (k : Nat) (A0 : Option Addr) (c0 : Nat) (l0 : List Int) (A1 : Option Addr) (c1 : Nat) (l1 : List Int) (A2 : Option Addr) (c2 : Nat) (l2 : List Int) (r : Bool) (w : World) (hr0 : Kd.C (Kd.int .u8) w A0 l0.length l0) (hc0 : l0.length ≤ c0) (hr1 : Kd.C (Kd.int .u8) w A1 l1.length l1) (hc1 : l1.length ≤ c1) (hr2 : Kd.C (Kd.int .u8) w A2 l2.length l2) (hc2 : l2.length ≤ c2)
    (h : acmelaw12_MillCoils.f k l0 l1 l2 = some r) :
    Calls Try.prog 11 #[.slice A0 l0.length c0, .slice A1 l1.length c1, .slice A2 l2.length c2] w fun e w' => e = .returned (.bool r) ∧ Below w.heap.size w w' := by
  unfold acmelaw12_MillCoils.f at h
  by_cases hb : (bytesI l0 && bytesI l1 && bytesI l2) = true
  · rw [if_pos hb] at h
    obtain rfl : true = r := Option.some.inj h
    rw [Bool.and_eq_true, Bool.and_eq_true] at hb
    exact coils_walk A0 c0 l0 A1 c1 l1 A2 c2 l2 w hr0 hc0 hr1 hc1 hr2 hc2 (bytesI_spec hb.1.1) (bytesI_spec hb.1.2) (bytesI_spec hb.2)
      (fun a b way r1 r2 hal hbl hab hbb hr => coils_law hab hbb hal hbl way r1 r2 hr)
  · rw [if_neg hb] at h
    exact absurd h (by simp)
end Go.Proofs.Ytiaiecfnpompcaa.T
