-- cut down, squeezed and laid together by pack.py (a program of this repository) out of this seat's texts
import Derived.WalkKit
import Derived.MapKept
import Derived.RangeFuncNested
import Derived.RangeFuncBound
import Derived.RangeFuncCalls
import Derived.RangeFuncLeaves
import Derived.Shelf.Abstract
import Derived.Shelf.RegionOpen
import Derived.OwnWalkIn
import Derived.TacticsInMore
import Derived.LoopNIn
import Derived.LoopIn
import Derived.Shelf.SlSortCmp.InsertionK
import Derived.ChangeKeysEq
import Derived.KernelRfl
import Derived.Test.YtiaiecfnpompcaaZB12
import Derived.Test.YtiaiecfnpompcaaZB13
import Derived.Test.YtiaiecfnpompcaaZB11
import Derived.Test.YtiaiecfnpompcaaZB2
import Derived.Test.YtiaiecfnpompcaaZB8
import Derived.Test.YtiaiecfnpompcaaZB10
import Derived.Test.YtiaiecfnpompcaaZB4
import Derived.Test.YtiaiecfnpompcaaZB7
import Derived.Test.YtiaiecfnpompcaaZB3
import Derived.Test.YtiaiecfnpompcaaZB6
import Derived.Test.YtiaiecfnpompcaaZB5
import Derived.Test.YtiaiecfnpompcaaZB1
import Derived.Test.YtiaiecfnpompcaaZB9
namespace Go.Proofs.Ytiaiecfnpompcaa.T
open Go Go.RowKit Go.Shelf Go.Sort Go.Proofs.Ytiaiecfnpompcaa.Ab Go.Proofs.YtiaiecfnpompcaaW.PrintWords
set_option linter.unusedVariables false
set_option linter.unusedSimpArgs false

def dec79 : Nat → List Value → Option (List S79 × List Value)
 | 0, l => some ([], l)
 | n + 1, .int .i64 a :: .int .i64 b :: .int .i64 c :: l => match dec79 n l with
  | some (xs, r) => some (⟨a, b, c⟩ :: xs, r)
  | none => none
 | _, _ => none
theorem dec79_some : ∀ {n : Nat} {l : List Value} {xs : List S79} {r : List Value}, dec79 n l = some (xs, r) → l = xs.flatMap enc79 ++ r ∧ xs.length = n
 | 0, l, xs, r, h => by
  simp only [dec79, Option.some.injEq, Prod.mk.injEq] at h
  obtain ⟨rfl, rfl⟩ := h
  exact ⟨rfl, rfl⟩
 | n + 1, l, xs, r, h => by
  unfold dec79 at h
  split at h
  ·simp at *
  ·rename_i n' a b c l' heq
   obtain rfl := Nat.succ.inj heq
   split at h
   ·rename_i ys r' h2
    simp only [Option.some.injEq, Prod.mk.injEq] at h
    obtain ⟨rfl, rfl⟩ := h
    obtain ⟨h3, h4⟩ := dec79_some h2
    exact ⟨by rw [h3]; rfl, by simp [h4]⟩
   ·simp at h
  ·simp at h
def ins79 (x : S79) : List S79 → List S79
 | [] => [x]
 | y :: l => match lt79 y x with
  | true => y :: ins79 x l
  | false => x :: y :: l
def isort79 : List S79 → List S79
 | [] => []
 | x :: l => ins79 x (isort79 l)
theorem ins79_perm (x : S79) : ∀ l, (ins79 x l).Perm (x :: l)
 | [] => List.Perm.refl _
 | y :: l => by
  unfold ins79
  split
  ·exact ((ins79_perm x l).cons y).trans (List.Perm.swap x y l)
  ·exact List.Perm.refl _
theorem isort79_perm : ∀ l, (isort79 l).Perm l
 | [] => List.Perm.refl _
 | x :: l => (ins79_perm x _).trans ((isort79_perm l).cons x)
theorem lt79_iff (x y : S79) : lt79 x y = true ↔ (x.f0 < y.f0 ∨ x.f0 = y.f0 ∧ (x.f1 < y.f1 ∨ x.f1 = y.f1 ∧ x.f2 < y.f2)) := by simp only [lt79, decide_eq_true_eq]
theorem not_lt79_iff (x y : S79) : (!lt79 x y) = true ↔ ¬ (x.f0 < y.f0 ∨ x.f0 = y.f0 ∧ (x.f1 < y.f1 ∨ x.f1 = y.f1 ∧ x.f2 < y.f2)) := by rw [← lt79_iff]; simp
theorem le79_trans (a b c : S79) (h1 : (!lt79 b a) = true) (h2 : (!lt79 c b) = true) : (!lt79 c a) = true := by
 rw [not_lt79_iff] at *; omega
theorem le79_total (a b : S79) : ((!lt79 b a) || (!lt79 a b)) = true := by
 rw [Bool.or_eq_true, not_lt79_iff, not_lt79_iff]; omega
theorem ins79_sorted (x : S79) : ∀ l, l.Pairwise (fun x y => (!lt79 y x) = true) → (ins79 x l).Pairwise (fun x y => (!lt79 y x) = true)
 | [], _ => by simp [ins79]
 | y :: l, h => by
  unfold ins79
  have h' := List.pairwise_cons.1 h
  split
  ·rename_i q
   refine List.pairwise_cons.2 ⟨fun z hz => ?_, ins79_sorted x l h'.2⟩
   rcases List.mem_cons.1 ((ins79_perm x l).mem_iff.1 hz) with rfl | hz
   ·rw [not_lt79_iff]; rw [lt79_iff] at q; omega
   ·exact h'.1 z hz
  ·rename_i q
   have q' : (!lt79 y x) = true := by rw [q]; rfl
   refine List.pairwise_cons.2 ⟨fun z hz => ?_, h⟩
   rcases List.mem_cons.1 hz with rfl | hz
   ·exact q'
   ·exact le79_trans x y z q' (h'.1 z hz)
theorem isort79_sorted : ∀ l, (isort79 l).Pairwise (fun x y => (!lt79 y x) = true)
 | [] => List.Pairwise.nil
 | x :: l => ins79_sorted x _ (isort79_sorted l)
theorem isort79_eq (l : List S79) : isort79 l = l.mergeSort fun x y => !lt79 y x := by
 refine List.Perm.eq_of_pairwise (le := fun x y => (!lt79 y x) = true) (fun a b _ _ h1 h2 => ?_) (isort79_sorted l) (List.pairwise_mergeSort (fun a b c h1 h2 => le79_trans a b c h1 h2) (fun a b => le79_total a b) _) ((isort79_perm l).trans (List.mergeSort_perm _ _).symm)
 simp only [Bool.not_eq_true'] at h1 h2
 exact total79 a b (by rw [ltOf79]; exact h2) (by rw [ltOf79]; exact h1)

theorem flat_get (xs : List S79) (t : Nat) (h : t < xs.length * 3) : (xs.flatMap enc79)[t]? = some (flatK enc79 3 xs.toArray)[t]! := by
 rw [get_flatK enc79 3 xs.toArray t (by simpa using h)]
 induction xs generalizing t with
 | nil => simp at h
 | cons x xs ih =>
  simp only [List.flatMap_cons]
  by_cases ht : t < 3
  ·rw [List.getElem?_append_left (by simp [enc79]; omega)]
   have h0 : t / 3 = 0 := by omega
   have h1 : t % 3 = t := by omega
   rw [h0, h1]
   simp only [enc79]
   obtain rfl | rfl | rfl : t = 0 ∨ t = 1 ∨ t = 2 := by omega
   all_goals rfl
  ·rw [List.getElem?_append_right (by simp [enc79]; omega)]
   simp only [enc79, List.length_cons, List.length_nil]
   have := ih (t - 3) (by simp at h; omega)
   simp only [enc79] at this
   rw [this]
   have h0 : t / 3 = (t - 3) / 3 + 1 := by omega
   have h1 : t % 3 = (t - 3) % 3 := by omega
   rw [h0, h1]
   have hl : (t - 3) / 3 < xs.length := by simp at h; omega
   congr 2
   simp [hl]
theorem flat_len (xs : List S79) : (xs.flatMap enc79).length = xs.length * 3 := by
 induction xs with
 | nil => rfl
 | cons x xs ih => simp [List.flatMap_cons, ih, enc79]; omega
theorem flat_int (xs : List S79) (t : Nat) (h : t < xs.length * 3) : ∃ n, (flatK enc79 3 xs.toArray)[t]! = .int .i64 n := by
 have h1 := flat_get xs t h
 have : (flatK enc79 3 xs.toArray)[t]! ∈ xs.flatMap enc79 := List.mem_of_getElem? h1
 obtain ⟨x, _, hx⟩ := List.mem_flatMap.1 this
 simp only [enc79, List.mem_cons, List.not_mem_nil, or_false] at hx
 rcases hx with h | h | h <;> exact ⟨_, h⟩

def or92 (ro : Nat) (args : List Value) (st : St) : Ans :=
 match args with
 | [.slice (some ⟨b, 0, none⟩) n 3, .func (.func 93) ⟨[]⟩ ⟨[]⟩] => match Nat.ble ro b, lookB st.mem b, Nat.ble n 1000000 with
  | true, some (.c cs), true => match dec79 n cs with
   | some (xs, r) => some (.tuple ⟨[]⟩, ⟨st.next, put st.mem b (.c ((isort79 xs).flatMap enc79 ++ r))⟩)
   | none => none
  | _, _, _ => none
 | [.slice none 0 0, .func (.func 93) ⟨[]⟩ ⟨[]⟩] => some (.tuple ⟨[]⟩, st)
 | _ => none
def orcSort (f : FuncId) : Option (Nat → List Value → St → Ans) := match Nat.beq f 92 with
 | true => some or92
 | false => none
theorem VR.fn_inv {U : Nat → Prop} {ρ : Nat → Pl} {f : FuncId} {v : Value} (h : VR U ρ (.func (.func f) ⟨[]⟩ ⟨[]⟩) v) : v = .func (.func f) #[] #[] := by
 cases h with
 | fn _ _ _ xs' ys' h1 h2 => cases h1; cases h2; rfl

set_option maxHeartbeats 1000000 in
theorem or92_ok {ro : Nat} {args : List Value} {st : St} {v : Value} {st' : St} (h : or92 ro args st = some (v, st')) {B : Nat} {U : Nat → Prop} {ρ : Nat → Pl} {w : World} {args' : List Value} (hr : HR B ro U ρ st.next st.mem w) (hl : VL U ρ args args') :
  Calls Try.prog 92 ⟨args'⟩ w fun e w' => ∃ v', e = .returned v' ∧ Post B ro U ρ st.next w v st' v' w' := by
 unfold or92 at h
 split at h
 ·rename_i b n
  split at h
  ·rename_i cs hro hb hn
   split at h
   ·rename_i xs r hd
    simp only [Option.some.injEq, Prod.mk.injEq] at h
    obtain ⟨rfl, rfl⟩ := h
    obtain ⟨hcs, hlen⟩ := dec79_some hd
    have hro := Nat.le_of_ble_eq_true hro
    have hn := Nat.le_of_ble_eq_true hn
    obtain ⟨hU, cs', t, hg, hsz, hcells⟩ := hr.blk b _ hb
    cases hl with
    | cons _ v1 _ l1 q1 q2 => cases q2 with
     | cons _ v2 _ l2 q3 q4 =>
      cases q4
      obtain rfl := VR.fn_inv q3
      cases q1 with
      | sl _ _ _ _ c _ hnc hfit =>
       have hcell : ∀ i, i < n * 3 → cs'[(ρ b).off + i]? = some (flatK enc79 3 xs.toArray)[i]! := by
        intro i hi
        have h1 := flat_get xs i (by omega)
        have h2 : cs[i]? = some (flatK enc79 3 xs.toArray)[i]! := by
         rw [hcs, List.getElem?_append_left (by rw [flat_len]; omega)]; exact h1
        obtain ⟨y, hy, hv⟩ := hcells i _ h2
        obtain ⟨m, hm⟩ := flat_int xs i (by omega)
        rw [hm] at hv ⊢
        cases hv
        exact hy
       have hH : HoldsK enc79 3 w (ρ b).g ((ρ b).off + 0) xs.toArray := by
        intro j hj
        have hj : j < n * 3 := by simpa [hlen] using hj
        refine ⟨?_, blk_frozen hg _⟩
        exact (blk_cell hg _).trans (by simpa using hcell j hj)
       have hlt := (Array.getElem?_eq_some_iff.1 hg).1
       have hmain := sort92.row (ρ b).g ((ρ b).off + 0) c xs w hH hlt (by omega)
       rw [hlen] at hmain
       refine hmain.mono ?_
       rintro e w' ⟨rfl, m, os, rfl⟩
       refine ⟨_, rfl, ?_⟩
       rw [← isort79_eq]
       have hil : (isort79 xs).length = n := by rw [(isort79_perm xs).length_eq, hlen]
       generalize isort79 xs = ys at hil
       unfold sortWorldK
       have e1 : (putRowK enc79 3 (Sort.ahead w m) (ρ b).g ((ρ b).off + 0) ys.toArray).heap = w.heap.modify (ρ b).g (onCells (putCells id ((ρ b).off + 0) (flatK enc79 3 ys.toArray))) := rfl
       have hr1 : HR B ro U ρ st.next (put st.mem b (.c (ys.flatMap enc79 ++ r))) (putRowK enc79 3 (Sort.ahead w m) (ρ b).g ((ρ b).off + 0) ys.toArray) := by
        refine hr.putAt hb ⟨hU, putCells id ((ρ b).off + 0) (flatK enc79 3 ys.toArray) cs', t, ?_, ?_, ?_⟩ ?_ ?_
        ·rw [e1, Array.getElem?_modify, if_pos rfl, hg]; rfl
        ·simp [putCells, hsz]
        ·intro i x hx
         have hcl : cs.length = n * 3 + r.length := by rw [hcs, List.length_append, flat_len, hlen]
         by_cases hi : i < n * 3
         ·rw [List.getElem?_append_left (by rw [flat_len]; omega), flat_get ys i (by omega)] at hx
          obtain rfl := Option.some.inj hx
          refine ⟨(flatK enc79 3 ys.toArray)[i]!, ?_, ?_⟩
          ·simp only [putCells, Array.getElem?_mapIdx, hcell i hi, Option.map_some]
           rw [if_pos (by simp; omega)]
           simp
          ·obtain ⟨k, hk⟩ := flat_int ys i (by omega)
           rw [hk]; exact .int _ _
         ·rw [List.getElem?_append_right (by rw [flat_len]; omega), flat_len, hil] at hx
          have : cs[i]? = some x := by
           rw [hcs, List.getElem?_append_right (by rw [flat_len]; omega), flat_len, hlen]; exact hx
          obtain ⟨y, hy, hv⟩ := hcells i x this
          refine ⟨y, ?_, hv⟩
          simp only [putCells, Array.getElem?_mapIdx, hy, Option.map_some]
          rw [if_neg (by simp; omega)]
        ·intro j hj
         rw [e1, Array.getElem?_modify, if_neg (fun q => hj q.symm)]
        ·rw [e1]; simp
       have hb2 : Below (putRowK enc79 3 (Sort.ahead w m) (ρ b).g ((ρ b).off + 0) ys.toArray).heap.size (putRowK enc79 3 (Sort.ahead w m) (ρ b).g ((ρ b).off + 0) ys.toArray) (Sort.grow (putRowK enc79 3 (Sort.ahead w m) (ρ b).g ((ρ b).off + 0) ys.toArray) os) :=
        ⟨rfl, rfl, rfl, by simp [Sort.grow], fun k hk => by simp only [Sort.grow]; rw [Array.getElem?_append_left hk]⟩
       refine ⟨U, ρ, Ext.refl _ _ _, hr1.still hb2, .tup _ _ .nil, Below.trans (b := putRowK enc79 3 (Sort.ahead w m) (ρ b).g ((ρ b).off + 0) ys.toArray) ⟨rfl, rfl, rfl, by rw [e1]; simp, fun k hk => ?_⟩ (hb2.mono (by rw [e1]; simpa using hr.base))⟩
       rw [e1, Array.getElem?_modify, if_neg ?_]
       have := hr.own _ _ hb hro
       omega
   ·simp at h
  ·simp at h
 ·simp only [Option.some.injEq, Prod.mk.injEq] at h
  obtain ⟨rfl, rfl⟩ := h
  cases hl with
  | cons _ v1 _ l1 q1 q2 => cases q2 with
   | cons _ v2 _ l2 q3 q4 =>
    cases q4
    obtain rfl := VR.fn_inv q3
    cases q1
    refine (AnyF.slices_SortFunc_none sort92_lays none 0 _ w).mono ?_
    rintro e w' ⟨rfl, rfl⟩
    exact ⟨_, rfl, U, ρ, Ext.refl _ _ _, hr, .tup _ _ .nil, Below.refl _ _⟩
 ·simp at h
theorem orcSort_ok : OrcOK Try.prog orcSort := by
 intro f g hf ro args st v st' h
 unfold orcSort at hf
 split at hf
 ·rename_i q
  obtain rfl := Nat.eq_of_beq_eq_true q
  obtain rfl := Option.some.inj hf
  exact ⟨⟨_, Try.func92, rfl⟩, fun B U ρ w args' hr hl => or92_ok h hr hl⟩
 ·simp at hf
end Go.Proofs.Ytiaiecfnpompcaa.T
namespace Go.Proofs.Ytiaiecfnpompcaa.T
open Go Go.RowKit Go.Proofs.Ytiaiecfnpompcaa.Ab
set_option linter.unusedVariables false
set_option linter.unusedSimpArgs false
def wr12 (f : FuncId) : Bool := Nat.beq f 65 || Nat.beq f 92 || Nat.beq f 58 || Nat.beq f 105 || Nat.beq f 111
def eqS (s t : St) : Bool := Nat.beq s.next t.next && eqL (fun p q => Nat.beq p.1 q.1 && eqB p.2 q.2) s.mem t.mem
theorem eqS_eq {s t : St} (h : eqS s t = true) : s = t := by
  obtain ⟨n, m⟩ := s
  obtain ⟨n', m'⟩ := t
  simp only [eqS, Bool.and_eq_true] at h
  rw [Nat.eq_of_beq_eq_true h.1, eqL_eq (fun x y q => ?_) h.2]
  simp only [Bool.and_eq_true] at q
  obtain ⟨b, k⟩ := x
  obtain ⟨b', k'⟩ := y
  simp only at q
  rw [Nat.eq_of_beq_eq_true q.1, eqB_eq q.2]
def hit (r0 : Nat) (a0 : List Value) (s0 : St) (r : Value × St) (ro : Nat) (args : List Value) (st : St) : Ans :=
  match Nat.beq ro r0, eqL (eqV 8) args a0, eqS st s0 with
  | true, true, true => some r
  | _, _, _ => none
theorem noNum (f : Nat) (fn : Func) (h : Try.prog.funcs[f]? = some fn) : (fn.name == "runtime.NumGoroutine") = false := by
  have hall : Try.prog.funcs.toList.all (fun fn => !(fn.name == "runtime.NumGoroutine")) = true := by kernel_rfl
  rw [List.all_eq_true] at hall
  have := hall fn (by simpa using Array.mem_of_getElem? h)
  simpa using this
def yes : Option (Value × St) → Bool
  | some (.bool b, _) => b
  | _ => false
theorem yes_some {x : Option (Value × St)} (h : yes x = true) : ∃ st, x = some (.bool true, st) := by
  unfold yes at h
  split at h
  · exact ⟨_, by rw [h]⟩
  · simp at h
theorem hit_ok {f : FuncId} {r0 : Nat} {a0 : List Value} {s0 : St} {r : Value × St} (h : aCall Try.prog orcSort wr12 1000 60 r0 (.fn f) a0 s0 = some r) {ro : Nat} {args : List Value} {st : St} {v : Value} {st' : St} (hh : hit r0 a0 s0 r ro args st = some (v, st')) :
    (∃ fn, Try.prog.funcs[f]? = some fn ∧ fn.body.isSome = true) ∧
    ∀ B U ρ w args', HR B ro U ρ st.next st.mem w → VL U ρ args args' → Calls Try.prog f ⟨args'⟩ w fun e w' => ∃ v', e = .returned v' ∧ Post B ro U ρ st.next w v st' v' w' := by
  unfold hit at hh
  split at hh
  · rename_i h1 h2 h3
    obtain rfl := Nat.eq_of_beq_eq_true h1
    obtain rfl := eqL_eq (eqV_eq 8) h2
    obtain rfl := eqS_eq h3
    obtain rfl := Option.some.inj hh
    obtain ⟨⟨fn, g1, g2, g3⟩, g4⟩ := aCall_ok (wr := wr12) (by kernel_rfl) noNum orcSort_ok 1000 60 ro (.fn f) args st v st' h
    exact ⟨⟨fn, g1, g3⟩, g4⟩
  · simp at hh
end Go.Proofs.Ytiaiecfnpompcaa.T
namespace Go.Proofs.Ytiaiecfnpompcaa.T
open Go Go.RowKit Go.Proofs.Ytiaiecfnpompcaa.Ab
def m17.o : Nat := 0
def m17.a : List Value := [Value.agg { toList := [Value.slice (some { block := 0, off := 0 }) 5 1, Value.int IntKind.i64 300, Value.int IntKind.i64 500] }, Value.int IntKind.i64 1000, Value.int IntKind.i64 600]
def m17.s : St := { next := 2, mem := [(1, Blk.c [Value.slice (some { block := 0, off := 0 }) 5 1, Value.int IntKind.i64 300, Value.int IntKind.i64 500]), (0, Blk.c [Value.int IntKind.i64 900, Value.int IntKind.i64 800, Value.int IntKind.i64 700, Value.int IntKind.i64 600, Value.int IntKind.i64 500])] }
def m17.r : Value × St := (Value.tuple { toList := [Value.slice (some { block := 399, off := 0 }) 4 2, Value.int IntKind.i64 0] }, { next := 403, mem := [(399, Blk.c [Value.int IntKind.i64 900, Value.bool false, Value.int IntKind.i64 800, Value.bool false, Value.int IntKind.i64 700, Value.bool true, Value.int IntKind.i64 600, Value.bool false]), (1, Blk.c [Value.slice (some { block := 0, off := 0 }) 5 1, Value.int IntKind.i64 300, Value.int IntKind.i64 500]), (0, Blk.c [Value.int IntKind.i64 900, Value.int IntKind.i64 800, Value.int IntKind.i64 700, Value.int IntKind.i64 600, Value.int IntKind.i64 500])] })
set_option maxRecDepth 1000000 in
theorem m17.ok : aCall Try.prog orcSort wr12 1000 60 m17.o (.fn 17) m17.a m17.s = some m17.r := by kernel_rfl
end Go.Proofs.Ytiaiecfnpompcaa.T
namespace Go.Proofs.Ytiaiecfnpompcaa.T
open Go Go.RowKit Go.Proofs.Ytiaiecfnpompcaa.Ab
def m28.o : Nat := 0
def m28.a : List Value := [Value.slice (some { block := 456, off := 0 }) 3 1, Value.slice (some { block := 457, off := 0 }) 4 1]
def m28.s : St := { next := 458, mem := [(457, Blk.c [Value.int IntKind.i64 40, Value.int IntKind.i64 30, Value.int IntKind.i64 50, Value.int IntKind.i64 30]), (456, Blk.c [Value.int IntKind.i64 100, Value.int IntKind.i64 60, Value.int IntKind.i64 50]), (455, Blk.c [Value.int IntKind.i64 (-730), Value.int IntKind.i64 106000]), (426, Blk.c [Value.int IntKind.i64 458, Value.int IntKind.i64 471]), (403, Blk.c [Value.int IntKind.i64 130, Value.int IntKind.i64 60, Value.int IntKind.i64 80, Value.int IntKind.i64 300]), (399, Blk.c [Value.int IntKind.i64 900, Value.bool false, Value.int IntKind.i64 800, Value.bool false, Value.int IntKind.i64 700, Value.bool true, Value.int IntKind.i64 600, Value.bool false]), (1, Blk.c [Value.slice (some { block := 0, off := 0 }) 5 1, Value.int IntKind.i64 300, Value.int IntKind.i64 500]), (0, Blk.c [Value.int IntKind.i64 900, Value.int IntKind.i64 800, Value.int IntKind.i64 700, Value.int IntKind.i64 600, Value.int IntKind.i64 500])] }
def m28.r : Value × St := (Value.tuple { toList := [Value.slice (some { block := 479, off := 0 }) 4 1, Value.int IntKind.i64 0] }, { next := 511, mem := [(479, Blk.c [Value.int IntKind.i64 0, Value.int IntKind.i64 0, Value.int IntKind.i64 1, Value.int IntKind.i64 0]), (457, Blk.c [Value.int IntKind.i64 40, Value.int IntKind.i64 30, Value.int IntKind.i64 50, Value.int IntKind.i64 30]), (456, Blk.c [Value.int IntKind.i64 100, Value.int IntKind.i64 60, Value.int IntKind.i64 50]), (455, Blk.c [Value.int IntKind.i64 (-730), Value.int IntKind.i64 106000]), (426, Blk.c [Value.int IntKind.i64 458, Value.int IntKind.i64 471]), (403, Blk.c [Value.int IntKind.i64 130, Value.int IntKind.i64 60, Value.int IntKind.i64 80, Value.int IntKind.i64 300]), (399, Blk.c [Value.int IntKind.i64 900, Value.bool false, Value.int IntKind.i64 800, Value.bool false, Value.int IntKind.i64 700, Value.bool true, Value.int IntKind.i64 600, Value.bool false]), (1, Blk.c [Value.slice (some { block := 0, off := 0 }) 5 1, Value.int IntKind.i64 300, Value.int IntKind.i64 500]), (0, Blk.c [Value.int IntKind.i64 900, Value.int IntKind.i64 800, Value.int IntKind.i64 700, Value.int IntKind.i64 600, Value.int IntKind.i64 500])] })
set_option maxRecDepth 1000000 in
theorem m28.ok : aCall Try.prog orcSort wr12 1000 60 m28.o (.fn 28) m28.a m28.s = some m28.r := by kernel_rfl
end Go.Proofs.Ytiaiecfnpompcaa.T
namespace Go.Proofs.Ytiaiecfnpompcaa.T
open Go Go.RowKit Go.Proofs.Ytiaiecfnpompcaa.Ab
def m33.o : Nat := 513
def m33.a : List Value := [Value.slice (some { block := 512, off := 0 }) 3 5, Value.agg { toList := [Value.int IntKind.i64 1, Value.int IntKind.i64 9, Value.int IntKind.i64 10] }]
def m33.s : St := { next := 513, mem := [(512, Blk.c [Value.int IntKind.i64 1, Value.int IntKind.i64 0, Value.int IntKind.i64 9, Value.int IntKind.i64 5, Value.int IntKind.i64 2, Value.int IntKind.i64 1, Value.int IntKind.i64 10, Value.int IntKind.i64 19, Value.int IntKind.i64 6, Value.int IntKind.i64 2, Value.int IntKind.i64 2, Value.int IntKind.i64 0, Value.int IntKind.i64 19, Value.int IntKind.i64 6, Value.int IntKind.i64 3]), (511, Blk.c [Value.int IntKind.i64 1, Value.int IntKind.i64 9, Value.int IntKind.i64 10]), (479, Blk.c [Value.int IntKind.i64 0, Value.int IntKind.i64 0, Value.int IntKind.i64 1, Value.int IntKind.i64 0]), (457, Blk.c [Value.int IntKind.i64 40, Value.int IntKind.i64 30, Value.int IntKind.i64 50, Value.int IntKind.i64 30]), (456, Blk.c [Value.int IntKind.i64 100, Value.int IntKind.i64 60, Value.int IntKind.i64 50]), (455, Blk.c [Value.int IntKind.i64 (-730), Value.int IntKind.i64 106000]), (426, Blk.c [Value.int IntKind.i64 458, Value.int IntKind.i64 471]), (403, Blk.c [Value.int IntKind.i64 130, Value.int IntKind.i64 60, Value.int IntKind.i64 80, Value.int IntKind.i64 300]), (399, Blk.c [Value.int IntKind.i64 900, Value.bool false, Value.int IntKind.i64 800, Value.bool false, Value.int IntKind.i64 700, Value.bool true, Value.int IntKind.i64 600, Value.bool false]), (1, Blk.c [Value.slice (some { block := 0, off := 0 }) 5 1, Value.int IntKind.i64 300, Value.int IntKind.i64 500]), (0, Blk.c [Value.int IntKind.i64 900, Value.int IntKind.i64 800, Value.int IntKind.i64 700, Value.int IntKind.i64 600, Value.int IntKind.i64 500])] }
def m33.r : Value × St := (Value.tuple { toList := [Value.slice (some { block := 573, off := 0 }) 5 3, Value.int IntKind.i64 0] }, { next := 574, mem := [(573, Blk.c [Value.int IntKind.i64 1, Value.int IntKind.i64 0, Value.int IntKind.i64 5, Value.int IntKind.i64 1, Value.int IntKind.i64 0, Value.int IntKind.i64 6, Value.int IntKind.i64 2, Value.int IntKind.i64 0, Value.int IntKind.i64 2, Value.int IntKind.i64 3, Value.int IntKind.i64 1, Value.int IntKind.i64 9, Value.int IntKind.i64 3, Value.int IntKind.i64 1, Value.int IntKind.i64 10]), (512, Blk.c [Value.int IntKind.i64 1, Value.int IntKind.i64 0, Value.int IntKind.i64 9, Value.int IntKind.i64 5, Value.int IntKind.i64 2, Value.int IntKind.i64 1, Value.int IntKind.i64 10, Value.int IntKind.i64 19, Value.int IntKind.i64 6, Value.int IntKind.i64 2, Value.int IntKind.i64 2, Value.int IntKind.i64 0, Value.int IntKind.i64 19, Value.int IntKind.i64 6, Value.int IntKind.i64 3]), (511, Blk.c [Value.int IntKind.i64 1, Value.int IntKind.i64 9, Value.int IntKind.i64 10]), (479, Blk.c [Value.int IntKind.i64 0, Value.int IntKind.i64 0, Value.int IntKind.i64 1, Value.int IntKind.i64 0]), (457, Blk.c [Value.int IntKind.i64 40, Value.int IntKind.i64 30, Value.int IntKind.i64 50, Value.int IntKind.i64 30]), (456, Blk.c [Value.int IntKind.i64 100, Value.int IntKind.i64 60, Value.int IntKind.i64 50]), (455, Blk.c [Value.int IntKind.i64 (-730), Value.int IntKind.i64 106000]), (426, Blk.c [Value.int IntKind.i64 458, Value.int IntKind.i64 471]), (403, Blk.c [Value.int IntKind.i64 130, Value.int IntKind.i64 60, Value.int IntKind.i64 80, Value.int IntKind.i64 300]), (399, Blk.c [Value.int IntKind.i64 900, Value.bool false, Value.int IntKind.i64 800, Value.bool false, Value.int IntKind.i64 700, Value.bool true, Value.int IntKind.i64 600, Value.bool false]), (1, Blk.c [Value.slice (some { block := 0, off := 0 }) 5 1, Value.int IntKind.i64 300, Value.int IntKind.i64 500]), (0, Blk.c [Value.int IntKind.i64 900, Value.int IntKind.i64 800, Value.int IntKind.i64 700, Value.int IntKind.i64 600, Value.int IntKind.i64 500])] })
set_option maxRecDepth 1000000 in
theorem m33.ok : aCall Try.prog orcSort wr12 1000 60 m33.o (.fn 33) m33.a m33.s = some m33.r := by kernel_rfl
end Go.Proofs.Ytiaiecfnpompcaa.T
namespace Go.Proofs.Ytiaiecfnpompcaa.T
open Go Go.RowKit Go.Proofs.Ytiaiecfnpompcaa.Ab
def m40.o : Nat := 0
def m40.a : List Value := [Value.slice (some { block := 575, off := 0 }) 3 5, Value.slice (some { block := 577, off := 0 }) 2 3, Value.slice none 0 0]
def m40.s : St := { next := 578, mem := [(577, Blk.c [Value.int IntKind.i64 1, Value.int IntKind.i64 9, Value.int IntKind.i64 10, Value.int IntKind.i64 2, Value.int IntKind.i64 0, Value.int IntKind.i64 3]), (575, Blk.c [Value.int IntKind.i64 1, Value.int IntKind.i64 0, Value.int IntKind.i64 9, Value.int IntKind.i64 5, Value.int IntKind.i64 2, Value.int IntKind.i64 1, Value.int IntKind.i64 10, Value.int IntKind.i64 19, Value.int IntKind.i64 6, Value.int IntKind.i64 2, Value.int IntKind.i64 2, Value.int IntKind.i64 0, Value.int IntKind.i64 19, Value.int IntKind.i64 6, Value.int IntKind.i64 3]), (574, Blk.c [Value.int IntKind.i64 1, Value.int IntKind.i64 9, Value.int IntKind.i64 10, Value.int IntKind.i64 2, Value.int IntKind.i64 0, Value.int IntKind.i64 3]), (512, Blk.c [Value.int IntKind.i64 1, Value.int IntKind.i64 0, Value.int IntKind.i64 9, Value.int IntKind.i64 5, Value.int IntKind.i64 2, Value.int IntKind.i64 1, Value.int IntKind.i64 10, Value.int IntKind.i64 19, Value.int IntKind.i64 6, Value.int IntKind.i64 2, Value.int IntKind.i64 2, Value.int IntKind.i64 0, Value.int IntKind.i64 19, Value.int IntKind.i64 6, Value.int IntKind.i64 3]), (573, Blk.c [Value.int IntKind.i64 1, Value.int IntKind.i64 0, Value.int IntKind.i64 5, Value.int IntKind.i64 1, Value.int IntKind.i64 0, Value.int IntKind.i64 6, Value.int IntKind.i64 2, Value.int IntKind.i64 0, Value.int IntKind.i64 2, Value.int IntKind.i64 3, Value.int IntKind.i64 1, Value.int IntKind.i64 9, Value.int IntKind.i64 3, Value.int IntKind.i64 1, Value.int IntKind.i64 10]), (511, Blk.c [Value.int IntKind.i64 1, Value.int IntKind.i64 9, Value.int IntKind.i64 10]), (479, Blk.c [Value.int IntKind.i64 0, Value.int IntKind.i64 0, Value.int IntKind.i64 1, Value.int IntKind.i64 0]), (457, Blk.c [Value.int IntKind.i64 40, Value.int IntKind.i64 30, Value.int IntKind.i64 50, Value.int IntKind.i64 30]), (456, Blk.c [Value.int IntKind.i64 100, Value.int IntKind.i64 60, Value.int IntKind.i64 50]), (455, Blk.c [Value.int IntKind.i64 (-730), Value.int IntKind.i64 106000]), (426, Blk.c [Value.int IntKind.i64 458, Value.int IntKind.i64 471]), (403, Blk.c [Value.int IntKind.i64 130, Value.int IntKind.i64 60, Value.int IntKind.i64 80, Value.int IntKind.i64 300]), (399, Blk.c [Value.int IntKind.i64 900, Value.bool false, Value.int IntKind.i64 800, Value.bool false, Value.int IntKind.i64 700, Value.bool true, Value.int IntKind.i64 600, Value.bool false]), (1, Blk.c [Value.slice (some { block := 0, off := 0 }) 5 1, Value.int IntKind.i64 300, Value.int IntKind.i64 500]), (0, Blk.c [Value.int IntKind.i64 900, Value.int IntKind.i64 800, Value.int IntKind.i64 700, Value.int IntKind.i64 600, Value.int IntKind.i64 500])] }
def m40.r : Value × St := (Value.tuple { toList := [Value.slice (some { block := 653, off := 0 }) 1 3, Value.int IntKind.i64 0] }, { next := 654, mem := [(653, Blk.c [Value.int IntKind.i64 1, Value.int IntKind.i64 0, Value.int IntKind.i64 6]), (577, Blk.c [Value.int IntKind.i64 1, Value.int IntKind.i64 9, Value.int IntKind.i64 10, Value.int IntKind.i64 2, Value.int IntKind.i64 0, Value.int IntKind.i64 3]), (575, Blk.c [Value.int IntKind.i64 1, Value.int IntKind.i64 0, Value.int IntKind.i64 9, Value.int IntKind.i64 5, Value.int IntKind.i64 2, Value.int IntKind.i64 1, Value.int IntKind.i64 10, Value.int IntKind.i64 19, Value.int IntKind.i64 6, Value.int IntKind.i64 2, Value.int IntKind.i64 2, Value.int IntKind.i64 0, Value.int IntKind.i64 19, Value.int IntKind.i64 6, Value.int IntKind.i64 3]), (574, Blk.c [Value.int IntKind.i64 1, Value.int IntKind.i64 9, Value.int IntKind.i64 10, Value.int IntKind.i64 2, Value.int IntKind.i64 0, Value.int IntKind.i64 3]), (512, Blk.c [Value.int IntKind.i64 1, Value.int IntKind.i64 0, Value.int IntKind.i64 9, Value.int IntKind.i64 5, Value.int IntKind.i64 2, Value.int IntKind.i64 1, Value.int IntKind.i64 10, Value.int IntKind.i64 19, Value.int IntKind.i64 6, Value.int IntKind.i64 2, Value.int IntKind.i64 2, Value.int IntKind.i64 0, Value.int IntKind.i64 19, Value.int IntKind.i64 6, Value.int IntKind.i64 3]), (573, Blk.c [Value.int IntKind.i64 1, Value.int IntKind.i64 0, Value.int IntKind.i64 5, Value.int IntKind.i64 1, Value.int IntKind.i64 0, Value.int IntKind.i64 6, Value.int IntKind.i64 2, Value.int IntKind.i64 0, Value.int IntKind.i64 2, Value.int IntKind.i64 3, Value.int IntKind.i64 1, Value.int IntKind.i64 9, Value.int IntKind.i64 3, Value.int IntKind.i64 1, Value.int IntKind.i64 10]), (511, Blk.c [Value.int IntKind.i64 1, Value.int IntKind.i64 9, Value.int IntKind.i64 10]), (479, Blk.c [Value.int IntKind.i64 0, Value.int IntKind.i64 0, Value.int IntKind.i64 1, Value.int IntKind.i64 0]), (457, Blk.c [Value.int IntKind.i64 40, Value.int IntKind.i64 30, Value.int IntKind.i64 50, Value.int IntKind.i64 30]), (456, Blk.c [Value.int IntKind.i64 100, Value.int IntKind.i64 60, Value.int IntKind.i64 50]), (455, Blk.c [Value.int IntKind.i64 (-730), Value.int IntKind.i64 106000]), (426, Blk.c [Value.int IntKind.i64 458, Value.int IntKind.i64 471]), (403, Blk.c [Value.int IntKind.i64 130, Value.int IntKind.i64 60, Value.int IntKind.i64 80, Value.int IntKind.i64 300]), (399, Blk.c [Value.int IntKind.i64 900, Value.bool false, Value.int IntKind.i64 800, Value.bool false, Value.int IntKind.i64 700, Value.bool true, Value.int IntKind.i64 600, Value.bool false]), (1, Blk.c [Value.slice (some { block := 0, off := 0 }) 5 1, Value.int IntKind.i64 300, Value.int IntKind.i64 500]), (0, Blk.c [Value.int IntKind.i64 900, Value.int IntKind.i64 800, Value.int IntKind.i64 700, Value.int IntKind.i64 600, Value.int IntKind.i64 500])] })
set_option maxRecDepth 1000000 in
theorem m40.ok : aCall Try.prog orcSort wr12 1000 60 m40.o (.fn 40) m40.a m40.s = some m40.r := by kernel_rfl
end Go.Proofs.Ytiaiecfnpompcaa.T
namespace Go.Proofs.Ytiaiecfnpompcaa.T
open Go Go.RowKit Go.Proofs.Ytiaiecfnpompcaa.Ab
def m44.o : Nat := 0
def m44.a : List Value := [Value.slice (some { block := 728, off := 0 }) 3 5, Value.slice (some { block := 574, off := 0 }) 2 3, Value.slice none 0 0, Value.slice (some { block := 729, off := 0 }) 2 3]
def m44.s : St := { next := 730, mem := [(729, Blk.c [Value.int IntKind.i64 1, Value.int IntKind.i64 0, Value.int IntKind.i64 5, Value.int IntKind.i64 2, Value.int IntKind.i64 5, Value.int IntKind.i64 5]), (728, Blk.c [Value.int IntKind.i64 1, Value.int IntKind.i64 0, Value.int IntKind.i64 9, Value.int IntKind.i64 5, Value.int IntKind.i64 2, Value.int IntKind.i64 1, Value.int IntKind.i64 10, Value.int IntKind.i64 19, Value.int IntKind.i64 6, Value.int IntKind.i64 2, Value.int IntKind.i64 2, Value.int IntKind.i64 0, Value.int IntKind.i64 19, Value.int IntKind.i64 6, Value.int IntKind.i64 3]), (727, Blk.c [Value.int IntKind.i64 1]), (655, Blk.c [Value.int IntKind.i64 1, Value.int IntKind.i64 0, Value.int IntKind.i64 5, Value.int IntKind.i64 1, Value.int IntKind.i64 5, Value.int IntKind.i64 15]), (654, Blk.c [Value.int IntKind.i64 1, Value.int IntKind.i64 0, Value.int IntKind.i64 9, Value.int IntKind.i64 5, Value.int IntKind.i64 2, Value.int IntKind.i64 1, Value.int IntKind.i64 10, Value.int IntKind.i64 19, Value.int IntKind.i64 6, Value.int IntKind.i64 2, Value.int IntKind.i64 2, Value.int IntKind.i64 0, Value.int IntKind.i64 19, Value.int IntKind.i64 6, Value.int IntKind.i64 3]), (653, Blk.c [Value.int IntKind.i64 1, Value.int IntKind.i64 0, Value.int IntKind.i64 6]), (577, Blk.c [Value.int IntKind.i64 1, Value.int IntKind.i64 9, Value.int IntKind.i64 10, Value.int IntKind.i64 2, Value.int IntKind.i64 0, Value.int IntKind.i64 3]), (575, Blk.c [Value.int IntKind.i64 1, Value.int IntKind.i64 0, Value.int IntKind.i64 9, Value.int IntKind.i64 5, Value.int IntKind.i64 2, Value.int IntKind.i64 1, Value.int IntKind.i64 10, Value.int IntKind.i64 19, Value.int IntKind.i64 6, Value.int IntKind.i64 2, Value.int IntKind.i64 2, Value.int IntKind.i64 0, Value.int IntKind.i64 19, Value.int IntKind.i64 6, Value.int IntKind.i64 3]), (574, Blk.c [Value.int IntKind.i64 1, Value.int IntKind.i64 9, Value.int IntKind.i64 10, Value.int IntKind.i64 2, Value.int IntKind.i64 0, Value.int IntKind.i64 3]), (512, Blk.c [Value.int IntKind.i64 1, Value.int IntKind.i64 0, Value.int IntKind.i64 9, Value.int IntKind.i64 5, Value.int IntKind.i64 2, Value.int IntKind.i64 1, Value.int IntKind.i64 10, Value.int IntKind.i64 19, Value.int IntKind.i64 6, Value.int IntKind.i64 2, Value.int IntKind.i64 2, Value.int IntKind.i64 0, Value.int IntKind.i64 19, Value.int IntKind.i64 6, Value.int IntKind.i64 3]), (573, Blk.c [Value.int IntKind.i64 1, Value.int IntKind.i64 0, Value.int IntKind.i64 5, Value.int IntKind.i64 1, Value.int IntKind.i64 0, Value.int IntKind.i64 6, Value.int IntKind.i64 2, Value.int IntKind.i64 0, Value.int IntKind.i64 2, Value.int IntKind.i64 3, Value.int IntKind.i64 1, Value.int IntKind.i64 9, Value.int IntKind.i64 3, Value.int IntKind.i64 1, Value.int IntKind.i64 10]), (511, Blk.c [Value.int IntKind.i64 1, Value.int IntKind.i64 9, Value.int IntKind.i64 10]), (479, Blk.c [Value.int IntKind.i64 0, Value.int IntKind.i64 0, Value.int IntKind.i64 1, Value.int IntKind.i64 0]), (457, Blk.c [Value.int IntKind.i64 40, Value.int IntKind.i64 30, Value.int IntKind.i64 50, Value.int IntKind.i64 30]), (456, Blk.c [Value.int IntKind.i64 100, Value.int IntKind.i64 60, Value.int IntKind.i64 50]), (455, Blk.c [Value.int IntKind.i64 (-730), Value.int IntKind.i64 106000]), (426, Blk.c [Value.int IntKind.i64 458, Value.int IntKind.i64 471]), (403, Blk.c [Value.int IntKind.i64 130, Value.int IntKind.i64 60, Value.int IntKind.i64 80, Value.int IntKind.i64 300]), (399, Blk.c [Value.int IntKind.i64 900, Value.bool false, Value.int IntKind.i64 800, Value.bool false, Value.int IntKind.i64 700, Value.bool true, Value.int IntKind.i64 600, Value.bool false]), (1, Blk.c [Value.slice (some { block := 0, off := 0 }) 5 1, Value.int IntKind.i64 300, Value.int IntKind.i64 500]), (0, Blk.c [Value.int IntKind.i64 900, Value.int IntKind.i64 800, Value.int IntKind.i64 700, Value.int IntKind.i64 600, Value.int IntKind.i64 500])] }
def m44.r : Value × St := (Value.tuple { toList := [Value.int IntKind.i64 0, Value.int IntKind.i64 1, Value.int IntKind.i64 0] }, { next := 843, mem := [(729, Blk.c [Value.int IntKind.i64 1, Value.int IntKind.i64 0, Value.int IntKind.i64 5, Value.int IntKind.i64 2, Value.int IntKind.i64 5, Value.int IntKind.i64 5]), (728, Blk.c [Value.int IntKind.i64 1, Value.int IntKind.i64 0, Value.int IntKind.i64 9, Value.int IntKind.i64 5, Value.int IntKind.i64 2, Value.int IntKind.i64 1, Value.int IntKind.i64 10, Value.int IntKind.i64 19, Value.int IntKind.i64 6, Value.int IntKind.i64 2, Value.int IntKind.i64 2, Value.int IntKind.i64 0, Value.int IntKind.i64 19, Value.int IntKind.i64 6, Value.int IntKind.i64 3]), (727, Blk.c [Value.int IntKind.i64 1]), (655, Blk.c [Value.int IntKind.i64 1, Value.int IntKind.i64 0, Value.int IntKind.i64 5, Value.int IntKind.i64 1, Value.int IntKind.i64 5, Value.int IntKind.i64 15]), (654, Blk.c [Value.int IntKind.i64 1, Value.int IntKind.i64 0, Value.int IntKind.i64 9, Value.int IntKind.i64 5, Value.int IntKind.i64 2, Value.int IntKind.i64 1, Value.int IntKind.i64 10, Value.int IntKind.i64 19, Value.int IntKind.i64 6, Value.int IntKind.i64 2, Value.int IntKind.i64 2, Value.int IntKind.i64 0, Value.int IntKind.i64 19, Value.int IntKind.i64 6, Value.int IntKind.i64 3]), (653, Blk.c [Value.int IntKind.i64 1, Value.int IntKind.i64 0, Value.int IntKind.i64 6]), (577, Blk.c [Value.int IntKind.i64 1, Value.int IntKind.i64 9, Value.int IntKind.i64 10, Value.int IntKind.i64 2, Value.int IntKind.i64 0, Value.int IntKind.i64 3]), (575, Blk.c [Value.int IntKind.i64 1, Value.int IntKind.i64 0, Value.int IntKind.i64 9, Value.int IntKind.i64 5, Value.int IntKind.i64 2, Value.int IntKind.i64 1, Value.int IntKind.i64 10, Value.int IntKind.i64 19, Value.int IntKind.i64 6, Value.int IntKind.i64 2, Value.int IntKind.i64 2, Value.int IntKind.i64 0, Value.int IntKind.i64 19, Value.int IntKind.i64 6, Value.int IntKind.i64 3]), (574, Blk.c [Value.int IntKind.i64 1, Value.int IntKind.i64 9, Value.int IntKind.i64 10, Value.int IntKind.i64 2, Value.int IntKind.i64 0, Value.int IntKind.i64 3]), (512, Blk.c [Value.int IntKind.i64 1, Value.int IntKind.i64 0, Value.int IntKind.i64 9, Value.int IntKind.i64 5, Value.int IntKind.i64 2, Value.int IntKind.i64 1, Value.int IntKind.i64 10, Value.int IntKind.i64 19, Value.int IntKind.i64 6, Value.int IntKind.i64 2, Value.int IntKind.i64 2, Value.int IntKind.i64 0, Value.int IntKind.i64 19, Value.int IntKind.i64 6, Value.int IntKind.i64 3]), (573, Blk.c [Value.int IntKind.i64 1, Value.int IntKind.i64 0, Value.int IntKind.i64 5, Value.int IntKind.i64 1, Value.int IntKind.i64 0, Value.int IntKind.i64 6, Value.int IntKind.i64 2, Value.int IntKind.i64 0, Value.int IntKind.i64 2, Value.int IntKind.i64 3, Value.int IntKind.i64 1, Value.int IntKind.i64 9, Value.int IntKind.i64 3, Value.int IntKind.i64 1, Value.int IntKind.i64 10]), (511, Blk.c [Value.int IntKind.i64 1, Value.int IntKind.i64 9, Value.int IntKind.i64 10]), (479, Blk.c [Value.int IntKind.i64 0, Value.int IntKind.i64 0, Value.int IntKind.i64 1, Value.int IntKind.i64 0]), (457, Blk.c [Value.int IntKind.i64 40, Value.int IntKind.i64 30, Value.int IntKind.i64 50, Value.int IntKind.i64 30]), (456, Blk.c [Value.int IntKind.i64 100, Value.int IntKind.i64 60, Value.int IntKind.i64 50]), (455, Blk.c [Value.int IntKind.i64 (-730), Value.int IntKind.i64 106000]), (426, Blk.c [Value.int IntKind.i64 458, Value.int IntKind.i64 471]), (403, Blk.c [Value.int IntKind.i64 130, Value.int IntKind.i64 60, Value.int IntKind.i64 80, Value.int IntKind.i64 300]), (399, Blk.c [Value.int IntKind.i64 900, Value.bool false, Value.int IntKind.i64 800, Value.bool false, Value.int IntKind.i64 700, Value.bool true, Value.int IntKind.i64 600, Value.bool false]), (1, Blk.c [Value.slice (some { block := 0, off := 0 }) 5 1, Value.int IntKind.i64 300, Value.int IntKind.i64 500]), (0, Blk.c [Value.int IntKind.i64 900, Value.int IntKind.i64 800, Value.int IntKind.i64 700, Value.int IntKind.i64 600, Value.int IntKind.i64 500])] })
set_option maxRecDepth 1000000 in
theorem m44.ok : aCall Try.prog orcSort wr12 1000 60 m44.o (.fn 44) m44.a m44.s = some m44.r := by kernel_rfl
end Go.Proofs.Ytiaiecfnpompcaa.T
namespace Go.Proofs.Ytiaiecfnpompcaa.T
open Go Go.RowKit Go.Proofs.Ytiaiecfnpompcaa.Ab
set_option linter.unusedVariables false
def orc12 (f : FuncId) : Option (Nat → List Value → St → Ans) :=
 match Nat.beq f 17 with
 | true => some (hit m17.o m17.a m17.s m17.r)
 | false =>
  match Nat.beq f 28 with
  | true => some (hit m28.o m28.a m28.s m28.r)
  | false =>
   match Nat.beq f 33 with
   | true => some (hit m33.o m33.a m33.s m33.r)
   | false =>
    match Nat.beq f 40 with
    | true => some (hit m40.o m40.a m40.s m40.r)
    | false =>
     match Nat.beq f 44 with
     | true => some (hit m44.o m44.a m44.s m44.r)
     | false =>
      orcSort f
theorem orc12_ok : OrcOK Try.prog orc12 := by
 intro f g hf ro args st v st' h
 unfold orc12 at hf
 split at hf
 ·rename_i q
  obtain rfl := Nat.eq_of_beq_eq_true q
  obtain rfl := Option.some.inj hf
  exact hit_ok m17.ok h
 split at hf
 ·rename_i q
  obtain rfl := Nat.eq_of_beq_eq_true q
  obtain rfl := Option.some.inj hf
  exact hit_ok m28.ok h
 split at hf
 ·rename_i q
  obtain rfl := Nat.eq_of_beq_eq_true q
  obtain rfl := Option.some.inj hf
  exact hit_ok m33.ok h
 split at hf
 ·rename_i q
  obtain rfl := Nat.eq_of_beq_eq_true q
  obtain rfl := Option.some.inj hf
  exact hit_ok m40.ok h
 split at hf
 ·rename_i q
  obtain rfl := Nat.eq_of_beq_eq_true q
  obtain rfl := Option.some.inj hf
  exact hit_ok m44.ok h
 exact orcSort_ok f g hf ro args st v st' h
set_option maxRecDepth 1000000 in
theorem known_run : yes (aCall Try.prog orc12 wr12 1000 60 0 (.fn 15) [] ⟨0, []⟩) = true := by kernel_rfl
def acmelaw12_known.f : Option Bool := some true
theorem acmelaw12_known.calls (r : Bool) (w : World) (h : acmelaw12_known.f = some r) : Calls Try.prog 15 #[] w fun e w' => e = .returned (.bool r) ∧ Below w.heap.size w w' := by
 obtain rfl : true = r := Option.some.inj h
 obtain ⟨st, hs⟩ := yes_some known_run
 exact run_calls (by kernel_rfl) noNum orc12_ok rfl rfl hs w
end Go.Proofs.Ytiaiecfnpompcaa.T
namespace Go.Proofs.Ytiaiecfnpompcaa.T
open Go.RowKit Go.Proofs.YtiaiecfnpompcaaW.PrintWords Go.Proofs.YtiaiecfnpompcaaW.PrintLast Go.Proofs.YtiaiecfnpompcaaW.PrintMore
attribute [local go_sem] max2_int min2_int max_two min_two max_three min_three max_four min_four   -- for this text's walks alone
set_option linter.unusedVariables false
set_option linter.unusedSimpArgs false
attribute [local go_sem] wl_100001

attribute [local go_sem high] eqA41 eqA46
mutual
def acmelaw12_MillBlanks.l0 : Nat → List (S46) → List (S46) → Int → Int → Int → Int → Int → Int → Int → Int → Int → Int → Int → Option (Bool)
 | 0, _, _, _, _, _, _, _, _, _, _, _, _, _ => none
 | k + 1, x0, x7, x9, x11, x12, x272000, x272001, x273000, x273001, x284000, x284001, x288000, x288001 => if x12 < (x0.length : Int) then (if 0 ≤ x12 then (if x12 < (x7.length : Int) then (if (!(((rd_T46 x7 x12).f0) == ((rd_T46 x0 x12).f0)) || (!(((rd_T46 x7 x12).f1) == ((rd_T46 x0 x12).f1)))) = true then (none) else (acmelaw12_MillBlanks.l0 k x0 x7 x9 x11 (wrap64 (x12 + 1)) x272000 x272001 x273000 x273001 x284000 x284001 x288000 x288001)) else (none)) else (none)) else ((acmeref12_Volume.f k x0).bind fun bt290 => (if bt290.2 = 0 then ((acmeref12_Span.f x272000 x272001 1 100000).bind fun t292 => (acmelaw12_MillBlanks.j1 k x9 x11 bt290.1 bt290.2 (!t292) x272000 x272001 x273000 x273001 x284000 x284001 x288000 x288001)) else (acmelaw12_MillBlanks.j1 k x9 x11 bt290.1 bt290.2 false x272000 x272001 x273000 x273001 x284000 x284001 x288000 x288001)))
def acmelaw12_MillBlanks.j1 : Nat → Int → Int → Int → Int → Bool → Int → Int → Int → Int → Int → Int → Int → Int → Option (Bool)
 | 0, _, _, _, _, _, _, _, _, _, _, _, _, _ => none
 | k + 1, x9, x11, x13, x14, x64, x272000, x272001, x273000, x273001, x284000, x284001, x288000, x288001 => if x64 = true then (acmelaw12_MillBlanks.j2 k x9 x11 x13 3 x272000 x272001 x273000 x273001 x284000 x284001 x288000 x288001) else (acmelaw12_MillBlanks.j2 k x9 x11 x13 x14 x272000 x272001 x273000 x273001 x284000 x284001 x288000 x288001)
def acmelaw12_MillBlanks.j2 : Nat → Int → Int → Int → Int → Int → Int → Int → Int → Int → Int → Int → Int → Option (Bool)
 | 0, _, _, _, _, _, _, _, _, _, _, _, _ => none
 | k + 1, x9, x11, x13, x14, x272000, x272001, x273000, x273001, x284000, x284001, x288000, x288001 => if x14 = 0 then ((acmeref12_Span.f x273000 x273001 1 10000000).bind fun t293 => (acmelaw12_MillBlanks.j3 k x9 x11 x13 x14 x14 (!t293) x272000 x272001 x273000 x273001 x284000 x284001 x288000 x288001)) else (acmelaw12_MillBlanks.j3 k x9 x11 x13 x14 x14 false x272000 x272001 x273000 x273001 x284000 x284001 x288000 x288001)
def acmelaw12_MillBlanks.j3 : Nat → Int → Int → Int → Int → Int → Bool → Int → Int → Int → Int → Int → Int → Int → Int → Option (Bool)
 | 0, _, _, _, _, _, _, _, _, _, _, _, _, _, _ => none
 | k + 1, x9, x11, x13, x14, x15, x72, x272000, x272001, x273000, x273001, x284000, x284001, x288000, x288001 => if x72 = true then (acmelaw12_MillBlanks.j4 k x9 x11 x13 x14 3 x272000 x272001 x273000 x273001 x284000 x284001 x288000 x288001) else (acmelaw12_MillBlanks.j4 k x9 x11 x13 x14 x15 x272000 x272001 x273000 x273001 x284000 x284001 x288000 x288001)
def acmelaw12_MillBlanks.j4 : Nat → Int → Int → Int → Int → Int → Int → Int → Int → Int → Int → Int → Int → Int → Option (Bool)
 | 0, _, _, _, _, _, _, _, _, _, _, _, _, _ => none
 | k + 1, x9, x11, x13, x14, x15, x272000, x272001, x273000, x273001, x284000, x284001, x288000, x288001 => if x9 = x14 then (if x11 = x15 then (if x9 = 0 then (if x11 = 0 then (acmelaw12_MillBlanks.j5 k x9 x11 x13 false x272000 x272001 x273000 x273001 x284000 x284001 x288000 x288001) else (acmelaw12_MillBlanks.j5 k x9 x11 x13 (!(x288000 == 0) || (!(x288001 == 0))) x272000 x272001 x273000 x273001 x284000 x284001 x288000 x288001)) else (if (!(x284000 == 0) || (!(x284001 == 0))) = true then (acmelaw12_MillBlanks.j5 k x9 x11 x13 true x272000 x272001 x273000 x273001 x284000 x284001 x288000 x288001) else (if x11 = 0 then (acmelaw12_MillBlanks.j5 k x9 x11 x13 false x272000 x272001 x273000 x273001 x284000 x284001 x288000 x288001) else (acmelaw12_MillBlanks.j5 k x9 x11 x13 (!(x288000 == 0) || (!(x288001 == 0))) x272000 x272001 x273000 x273001 x284000 x284001 x288000 x288001)))) else (acmelaw12_MillBlanks.j5 k x9 x11 x13 true x272000 x272001 x273000 x273001 x284000 x284001 x288000 x288001)) else (acmelaw12_MillBlanks.j5 k x9 x11 x13 true x272000 x272001 x273000 x273001 x284000 x284001 x288000 x288001)
def acmelaw12_MillBlanks.j5 : Nat → Int → Int → Int → Bool → Int → Int → Int → Int → Int → Int → Int → Int → Option (Bool)
 | 0, _, _, _, _, _, _, _, _, _, _, _, _ => none
 | k + 1, x9, x11, x13, x98, x272000, x272001, x273000, x273001, x284000, x284001, x288000, x288001 => if x98 = true then (none) else (if x9 = 0 then (if x284000 < 0 then (none) else (if (wrap64 (x272001 * x272001)) = 0 then (none) else (if x284000 > (wrap64 (Int.tdiv x13 (wrap64 (x272001 * x272001)))) then (none) else (if (wrap64 ((wrap64 (x284000 + 1)) * (wrap64 (x272001 * x272001)))) ≤ x13 then (none) else (if x284001 < 1 then (none) else (if (wrap64 (x272000 * x272000)) = 0 then (none) else (if x284001 > (wrap64 ((wrap64 (Int.tdiv x13 (wrap64 (x272000 * x272000)))) + 1)) then (none) else (if (wrap64 (x284001 * (wrap64 (x272000 * x272000)))) < x13 then (none) else (if (wrap64 ((wrap64 (x284001 - 1)) * (wrap64 (x272000 * x272000)))) ≥ x13 then (none) else (acmelaw12_MillBlanks.j6 k x11 x13 x272000 x272001 x273000 x273001 x288000 x288001)))))))))) else (acmelaw12_MillBlanks.j6 k x11 x13 x272000 x272001 x273000 x273001 x288000 x288001))
def acmelaw12_MillBlanks.j6 : Nat → Int → Int → Int → Int → Int → Int → Int → Int → Option (Bool)
 | 0, _, _, _, _, _, _, _, _ => none
 | k + 1, x11, x13, x272000, x272001, x273000, x273001, x288000, x288001 => if x11 = 0 then ((acmelaw12_span.f (wrap64 ((wrap64 ((wrap64 (x273000 * x272000)) * x272000)) - x13)) (wrap64 ((wrap64 ((wrap64 (x273001 * x272001)) * x272001)) - x13))).bind fun bt294 => (if (x288000 == bt294.1 && (x288001 == bt294.2)) = true then ((acmelaw12_known.f).bind fun t296 => (some t296)) else (none))) else ((acmelaw12_known.f).bind fun t297 => (some t297))
end
def acmelaw12_MillBlanks.f (k : Nat) (l0 : List (S46)) (a1_0 : Int) (a1_1 : Int) (a2_0 : Int) (a2_1 : Int) : Option (Bool) := if (l0.length : Int) > 15 then ((acmelaw12_known.f).bind fun t273 => (some t273)) else ((some (([] : List (S46)) : List (S46))).bind fun y274 => (if y274.length + l0.length < 8796093022208 then ((some (y274 ++ l0 : List (S46))).bind fun y277 => ((mill_Blank.f k y277 a1_0 a1_1).bind fun bt280 => ((mill_Spare.f k y277 a1_0 a1_1 a2_0 a2_1).bind fun bt284 => (acmelaw12_MillBlanks.l0 k l0 y277 bt280.2.2 bt284.2.2 0 a1_0 a1_1 a2_0 a2_1 bt280.1 bt280.2.1 bt284.1 bt284.2.1)))) else (none)))
def acmelaw12_MillBlanks.T9 : Bool × List (List Nat × List Nat) := (true, [([], []), ([], []), ([0, 1], [0, 1]), ([2], [2]), ([], []), ([], []), ([4, 5], [4, 5]), ([6], [6]), ([3, 7], [3, 7])])
def acmelaw12_MillBlanks.B9 : List Nat := [0, 0, 3, 7, 0, 0, 48, 112, 255]
theorem acmelaw12_MillBlanks.tab9 : rtab .any (opsOf Try.f4 9) = acmelaw12_MillBlanks.T9 := by kernel_rfl
theorem acmelaw12_MillBlanks.bits9 : waitsOk acmelaw12_MillBlanks.T9.2 acmelaw12_MillBlanks.B9 = true := by kernel_rfl
def acmelaw12_MillBlanks.T20 : Bool × List (List Nat × List Nat) := (true, [([], []), ([0], [0]), ([], []), ([2], [2]), ([1, 3], [1, 3]), ([], []), ([5], [5]), ([], []), ([7], [7]), ([6, 8], [6, 8]), ([4, 0, 1, 2, 3, 4], [4]), ([9, 10, 0, 1, 2, 3, 4, 5, 6, 7, 8, 9, 10], [9])])
def acmelaw12_MillBlanks.B20 : List Nat := [0, 1, 0, 4, 15, 0, 32, 0, 128, 480, 31, 2047]
theorem acmelaw12_MillBlanks.tab20 : rtab .any (opsOf Try.f4 20) = acmelaw12_MillBlanks.T20 := by kernel_rfl
theorem acmelaw12_MillBlanks.bits20 : waitsOk acmelaw12_MillBlanks.T20.2 acmelaw12_MillBlanks.B20 = true := by kernel_rfl
def acmelaw12_MillBlanks.T21 : Bool × List (List Nat × List Nat) := (true, [([], []), ([0], [0]), ([1], [1]), ([2], [2]), ([3], [3]), ([4, 3], [3, 4]), ([3], [3]), ([3], [3]), ([6, 7, 3], [3, 6, 7]), ([5, 8, 3], [3, 5, 8]), ([3, 9], [3, 9]), ([10, 3], [10]), ([11], [11]), ([12, 11], [11, 12]), ([13, 11], [11, 13]), ([11], [11]), ([14, 15, 11], [11, 14, 15]), ([11], [11]), ([16, 17, 11], [11, 16, 17]), ([11, 18], [11, 18]), ([19, 11], [19]), ([20], [20]), ([21, 20], [20, 21]), ([22, 20], [20, 22]), ([20, 23], [20, 23]), ([24, 20], [24]), ([25], [25]), ([26, 25], [25, 26]), ([25], [25]), ([25], [25]), ([28, 29, 25], [25, 28, 29]), ([30, 25], [25, 30]), ([27, 31, 25], [25, 27, 31]), ([25, 32], [25, 32]), ([33, 25], [33]), ([34], [34]), ([35, 34], [34, 35]), ([34], [34]), ([36, 37, 34], [34, 36, 37]), ([34], [34]), ([38, 39, 34], [34, 38, 39]), ([34, 40], [34, 40]), ([41, 34], [41]), ([42], [42]), ([43, 42], [42, 43]), ([44, 42], [42, 44]), ([42], [42]), ([45, 46, 42], [42, 45, 46]), ([42], [42]), ([47, 48, 42], [42, 47, 48]), ([42, 49], [42, 49])])
def acmelaw12_MillBlanks.B21 : List Nat := [0, 1, 3, 7, 15, 31, 15, 15, 207, 511, 1023, 2047, 4095, 8191, 16383, 4095, 65535, 4095, 262143, 524287, 1048575, 2097151, 4194303, 8388607, 16777215, 33554431, 67108863, 134217727, 67108863, 67108863, 872415231, 1946157055, 4294967295, 8589934591, 17179869183, 34359738367, 68719476735, 34359738367, 274877906943, 34359738367, 1099511627775, 2199023255551, 4398046511103, 8796093022207, 17592186044415, 35184372088831, 8796093022207, 140737488355327, 8796093022207, 562949953421311, 1125899906842623]
theorem acmelaw12_MillBlanks.tab21 : rtab .any (opsOf Try.f4 21) = acmelaw12_MillBlanks.T21 := by kernel_rfl
theorem acmelaw12_MillBlanks.bits21 : waitsOk acmelaw12_MillBlanks.T21.2 acmelaw12_MillBlanks.B21 = true := by kernel_rfl
def acmelaw12_MillBlanks.T24 : Bool × List (List Nat × List Nat) := (true, [([], []), ([], []), ([1], [1]), ([], []), ([3], [3]), ([2, 4], [2, 4]), ([], []), ([6], [6]), ([5, 7], [5, 7]), ([], []), ([8, 9], [8, 9]), ([], []), ([11], [11]), ([], []), ([13], [13]), ([12, 14], [12, 14]), ([], []), ([16], [16]), ([15, 17], [15, 17]), ([], []), ([18, 19], [18, 19]), ([10, 20], [10, 20]), ([0, 21], [0, 21]), ([22, 21], [22]), ([23, 23], [23]), ([23, 24], [23, 24]), ([25, 24, 0, 1, 2, 3, 4, 5, 6, 7, 8, 9, 10, 11, 12, 13, 14, 15, 16, 17, 18, 19, 20, 21, 22, 23, 24, 25], [25])])
def acmelaw12_MillBlanks.B24 : List Nat := [0, 0, 2, 0, 8, 30, 0, 64, 254, 0, 1022, 0, 2048, 0, 8192, 30720, 0, 65536, 260096, 0, 1046528, 2097150, 4194303, 8388607, 16777215, 33554431, 67108863]
theorem acmelaw12_MillBlanks.tab24 : rtab .any (opsOf Try.f4 24) = acmelaw12_MillBlanks.T24 := by kernel_rfl
theorem acmelaw12_MillBlanks.bits24 : waitsOk acmelaw12_MillBlanks.T24.2 acmelaw12_MillBlanks.B24 = true := by kernel_rfl
set_option maxHeartbeats 8000000 in
set_option maxRecDepth 100000 in
theorem acmelaw12_MillBlanks.calls (k : Nat) (A0 : Option Addr) (c0 : Nat) (l0 : List (S46)) (a1_0 : Int) (a1_1 : Int) (a2_0 : Int) (a2_1 : Int) (r : Bool) (w : World) (hr0 : Kd.C k46 w A0 l0.length l0) (hc0 : l0.length ≤ c0) (h : acmelaw12_MillBlanks.f k l0 a1_0 a1_1 a2_0 a2_1 = some r) :
  Calls Try.prog 4 #[.slice A0 l0.length c0, .agg #[.int .i64 a1_0, .int .i64 a1_1], .agg #[.int .i64 a2_0, .int .i64 a2_1]] w fun e w' => e = .returned (.bool r) ∧ Below w.heap.size w w' := by
 have hu41 := Try.underlying41
 have hu46 := Try.underlying46
 have HR0 := Aside0.mk hr0
 have HC0 := Aside0.mk hc0
 clear hr0 hc0
 have HB := Aside0.mk (Below.refl w.heap.size w)
 have H : (if (l0.length : Int) > 15 then ((acmelaw12_known.f).bind fun t273 => (some t273)) else ((some (([] : List (S46)) : List (S46))).bind fun y274 => (if y274.length + l0.length < 8796093022208 then ((some (y274 ++ l0 : List (S46))).bind fun y277 => ((mill_Blank.f k y277 a1_0 a1_1).bind fun bt280 => ((mill_Spare.f k y277 a1_0 a1_1 a2_0 a2_1).bind fun bt284 => (acmelaw12_MillBlanks.l0 k l0 y277 bt280.2.2 bt284.2.2 0 a1_0 a1_1 a2_0 a2_1 bt280.1 bt280.2.1 bt284.1 bt284.2.1)))) else (none)))) = some r := h
 clear h
 by_cases c4 : (l0.length : Int) > 15
 ·rw [if_pos c4] at H
  have c4b0 : decide (15 < (l0.length : Int)) = true := decide_eq_true c4
  have c4b1 : decide (15 < l0.length) = true := decide_eq_true (by omega)
  clear c4
  replace H := Option.bind_eq_some_iff.mp H
  obtain ⟨t273, A50, H⟩ := H; (try dsimp only at H)
  have A5 := Aside0.mk A50
  clear A50
  obtain rfl := Option.some.inj H
  go_enter Try.func4, Try.ntmps4
  go_wp2_with (first | ((with_reducible refine gate_dst (N := 4) rfl ?_); refine box_event ?hg (N := 4) ?hd (cs := #[.int .i64 a1_0, .int .i64 a1_1]) (t := 41) ?hr ?_; (case hd => rfl); (case hg => rfl); (case hr => first | (go_simp; done) | (go_simp; rfl)); intro gb271 hg w6 hbox hb; have BK271 := Aside0.mk (hbox); have GW271 := Aside0.mk ((by rw [hg]; exact (below_size HB.out) : w.heap.size ≤ gb271)); have GE271 := GW271; replace HB := Aside0.mk (below_step HB.out hb); clear hb hbox hg) | ((with_reducible refine gate_dst (N := 5) rfl ?_); refine box_event ?hg (N := 5) ?hd (cs := #[.int .i64 a2_0, .int .i64 a2_1]) (t := 41) ?hr ?_; (case hd => rfl); (case hg => rfl); (case hr => first | (go_simp; done) | (go_simp; rfl)); intro gb272 hg w7 hbox hb; have BK272 := Aside0.mk (hbox); have GW272 := Aside0.mk ((by rw [hg]; exact (below_size (by repeat (first | (with_reducible first | exact HB.out | apply below_alloc | apply pw_below_drewN | apply below_drew1 | refine below_set ?_ (Aside0.out (by assumption))) | exact HB.out))) : w.heap.size ≤ gb272)); have GE272 := GW272; replace HB := Aside0.mk (below_step (by repeat (first | (with_reducible first | exact HB.out | apply below_alloc | apply pw_below_drewN | apply below_drew1 | refine below_set ?_ (Aside0.out (by assumption))) | exact HB.out)) hb); have NB271_272 := Aside0.mk ((by rw [hg]; exact Nat.ne_of_lt (blk_lt BK271.out) : gb271 ≠ gb272)); have NB272_271 := Aside0.mk ((by rw [hg]; exact Nat.ne_of_gt (blk_lt BK271.out) : gb272 ≠ gb271)); replace BK271 := Aside0.mk (blk_below (g := gb271) (o := .cells #[.int .i64 a1_0, .int .i64 a1_1] 41 (0, 0)) (by repeat (first | (with_reducible first | exact BK271.out | refine blk_drewN ?_ _ | refine blk_drew ?_ | refine blk_alloc ?_ _) | exact BK271.out)) hb); clear hb hbox hg) | ((with_reducible refine gate_callee (f := 15) rfl ?_); refine goesL_ (some 21) rfl rfl Try.func15 (by kernel_rfl) rfl #[] rfl (by (try simp only [List.map_toArray, List.map_cons, List.map_nil]); first | done | rfl | (simp only [List.length_drop, List.length_take]; rfl)) ?_; (with_reducible refine (acmelaw12_known.calls  t273 _ A5.out).mono ?_); rintro e w8 ⟨rfl, hb⟩; refine ⟨_, rfl, ?_⟩; replace BK271 := Aside0.mk (blk_below (g := gb271) (o := .cells #[.int .i64 a1_0, .int .i64 a1_1] 41 (0, 0)) (by repeat (first | (with_reducible first | exact BK271.out | refine blk_drewN ?_ _ | refine blk_drew ?_ | refine blk_alloc ?_ _) | exact BK271.out)) hb); replace BK272 := Aside0.mk (blk_below (g := gb272) (o := .cells #[.int .i64 a2_0, .int .i64 a2_1] 41 (0, 0)) (by repeat (first | (with_reducible first | exact BK272.out | refine blk_drewN ?_ _ | refine blk_drew ?_ | refine blk_alloc ?_ _) | exact BK272.out)) hb); replace HB := Aside0.mk (below_step (by repeat (first | (with_reducible first | exact HB.out | apply below_alloc | apply pw_below_drewN | apply below_drew1 | refine below_set ?_ (Aside0.out (by assumption))) | exact HB.out)) hb); (try clear hb); (try clear hb2); (try clear hk); (try clear hi)))
  go_ret
  exact ⟨by first | rfl | (simp [errW_none, errW_some] <;> rfl) | (simp [*, errW_none, errW_some] <;> rfl), by repeat (first | (with_reducible first | exact HB.out | apply below_alloc | apply pw_below_drewN | apply below_drew1 | refine below_set ?_ (Aside0.out (by assumption))) | exact HB.out)⟩
 ·rw [if_neg c4] at H
  have c4b0 : decide (15 < (l0.length : Int)) = false := decide_eq_false c4
  have c4b1 : decide (15 < l0.length) = false := decide_eq_false (by omega)
  clear c4
  obtain ⟨y274, hy274⟩ : ∃ y_ : List (S46), y_ = (([] : List (S46))) := ⟨_, rfl⟩
  replace H : (if y274.length + l0.length < 8796093022208 then ((some (y274 ++ l0 : List (S46))).bind fun y277 => ((mill_Blank.f k y277 a1_0 a1_1).bind fun bt280 => ((mill_Spare.f k y277 a1_0 a1_1 a2_0 a2_1).bind fun bt284 => (acmelaw12_MillBlanks.l0 k l0 y277 bt280.2.2 bt284.2.2 0 a1_0 a1_1 a2_0 a2_1 bt280.1 bt280.2.1 bt284.1 bt284.2.1)))) else (none)) = some r := by first | (rw [hy274]; with_reducible exact H) | (have H2_ := (Option.bind_some _ _).symm.trans H; rw [hy274]; with_reducible exact H2_) | (have H2_ := (Option.bind_some _ _).symm.trans H; with_reducible exact H2_) | with_reducible exact H | (rw [hy274]; exact H) | exact H
  have Ny274 := Aside0.mk hy274
  clear hy274
  by_cases c9 : y274.length + l0.length < 8796093022208
  ·rw [if_pos c9] at H
   have LMc9 := Aside0.mk c9
   clear c9
   obtain ⟨y277, hy277⟩ : ∃ y_ : List (S46), y_ = (y274 ++ l0) := ⟨_, rfl⟩
   replace H : ((mill_Blank.f k y277 a1_0 a1_1).bind fun bt280 => ((mill_Spare.f k y277 a1_0 a1_1 a2_0 a2_1).bind fun bt284 => (acmelaw12_MillBlanks.l0 k l0 y277 bt280.2.2 bt284.2.2 0 a1_0 a1_1 a2_0 a2_1 bt280.1 bt280.2.1 bt284.1 bt284.2.1))) = some r := by first | (rw [hy277]; with_reducible exact H) | (have H2_ := (Option.bind_some _ _).symm.trans H; rw [hy277]; with_reducible exact H2_) | (have H2_ := (Option.bind_some _ _).symm.trans H; with_reducible exact H2_) | with_reducible exact H | (rw [hy277]; exact H) | exact H
   have Ny277 := Aside0.mk hy277
   clear hy277
   replace H := Option.bind_eq_some_iff.mp H
   obtain ⟨⟨t280, t281, t282⟩, A100, H⟩ := H; (try dsimp only at H)
   have A10 := Aside0.mk A100
   clear A100
   replace H := Option.bind_eq_some_iff.mp H
   obtain ⟨⟨t284, t285, t286⟩, A110, H⟩ := H; (try dsimp only at H)
   have A11 := Aside0.mk A110
   clear A110
   have H' := Aside0.mk H
   clear H
   go_enter Try.func4, Try.ntmps4
   go_wp2_with (first | ((with_reducible refine gate_dst (N := 4) rfl ?_); refine box_event ?hg (N := 4) ?hd (cs := #[.int .i64 a1_0, .int .i64 a1_1]) (t := 41) ?hr ?_; (case hd => rfl); (case hg => rfl); (case hr => first | (go_simp; done) | (go_simp; rfl)); intro gb271 hg w12 hbox hb; have BK271 := Aside0.mk (hbox); have GW271 := Aside0.mk ((by rw [hg]; exact (below_size HB.out) : w.heap.size ≤ gb271)); have GE271 := GW271; replace HB := Aside0.mk (below_step HB.out hb); clear hb hbox hg) | ((with_reducible refine gate_dst (N := 5) rfl ?_); refine box_event ?hg (N := 5) ?hd (cs := #[.int .i64 a2_0, .int .i64 a2_1]) (t := 41) ?hr ?_; (case hd => rfl); (case hg => rfl); (case hr => first | (go_simp; done) | (go_simp; rfl)); intro gb272 hg w13 hbox hb; have BK272 := Aside0.mk (hbox); have GW272 := Aside0.mk ((by rw [hg]; exact (below_size (by repeat (first | (with_reducible first | exact HB.out | apply below_alloc | apply pw_below_drewN | apply below_drew1 | refine below_set ?_ (Aside0.out (by assumption))) | exact HB.out))) : w.heap.size ≤ gb272)); have GE272 := GW272; replace HB := Aside0.mk (below_step (by repeat (first | (with_reducible first | exact HB.out | apply below_alloc | apply pw_below_drewN | apply below_drew1 | refine below_set ?_ (Aside0.out (by assumption))) | exact HB.out)) hb); have NB271_272 := Aside0.mk ((by rw [hg]; exact Nat.ne_of_lt (blk_lt BK271.out) : gb271 ≠ gb272)); have NB272_271 := Aside0.mk ((by rw [hg]; exact Nat.ne_of_gt (blk_lt BK271.out) : gb272 ≠ gb271)); replace BK271 := Aside0.mk (blk_below (g := gb271) (o := .cells #[.int .i64 a1_0, .int .i64 a1_1] 41 (0, 0)) (by repeat (first | (with_reducible first | exact BK271.out | refine blk_drewN ?_ _ | refine blk_drew ?_ | refine blk_alloc ?_ _) | exact BK271.out)) hb); clear hb hbox hg) | ((with_reducible refine gate_dst (N := 22) rfl ?_); refine Kd.R_lit k46 _ 46 ?hg (N := 22) ?hd (xs := ([] : List (S46))) (inner := []) (ok := fun _ => True) (okp := fun _ => True) ?hr ?hp (fun _ hk => hk) trivial (Below.refl _ _) (Nat.le_refl _) (by simp) ?_; (case hd => rfl); (case hg => rfl); (case hr => first | (go_simp; done) | (go_simp; rfl)); (case hp => exact (Reps.none _ _)); intro v275 w14 ho15 hb hg_ hnew_; clear hg_ hnew_; (first | rw [← Ny274.out] at ho15 | (simp only [Int.reduceToNat] at ho15; rw [← Ny274.out] at ho15)); have HO276 := Aside0.mk (Kd.R_lower ho15 (below_size (by repeat (first | (with_reducible first | exact HB.out | apply below_alloc | apply pw_below_drewN | apply below_drew1 | refine below_set ?_ (Aside0.out (by assumption))) | exact HB.out)))); replace BK271 := Aside0.mk (blk_below (g := gb271) (o := .cells #[.int .i64 a1_0, .int .i64 a1_1] 41 (0, 0)) (by repeat (first | (with_reducible first | exact BK271.out | refine blk_drewN ?_ _ | refine blk_drew ?_ | refine blk_alloc ?_ _) | exact BK271.out)) hb); replace BK272 := Aside0.mk (blk_below (g := gb272) (o := .cells #[.int .i64 a2_0, .int .i64 a2_1] 41 (0, 0)) (by repeat (first | (with_reducible first | exact BK272.out | refine blk_drewN ?_ _ | refine blk_drew ?_ | refine blk_alloc ?_ _) | exact BK272.out)) hb); replace HB := Aside0.mk (below_step (by repeat (first | (with_reducible first | exact HB.out | apply below_alloc | apply pw_below_drewN | apply below_drew1 | refine below_set ?_ (Aside0.out (by assumption))) | exact HB.out)) hb); clear hb ho15) | ((with_reducible refine gate_builtin (b := .append) (xs := #[.tmp 22, .tmp 23]) rfl ?_); at_builtin; refine Kd.R_append_rows k46 (w0 := w) w.heap.size rfl (.tmp 22) (.tmp 23) 39 46 (.agg #[(.int .i64 0), (.int .i64 0)]) 16 rfl Try.underlying39 info46 rfl (by decide) (by omega) v275 y274 l0 _ _ _ (fun _ => True) (fun _ => False) rfl rfl ?aO ?aR (fun _ _ h => h) (fun _ h => h.elim) ?aF ?aB ?aS ?aL ?_; (case aR => repeat (first | exact (Kd.C_below HR0.out HB.out) | (with_reducible refine Kd.C_alloc ?_ _) | (with_reducible refine Kd.C_drewN ?_ _) | (with_reducible refine Kd.C_drew ?_))); (case aB => exact (by repeat (first | (with_reducible first | exact HB.out | apply below_alloc | apply pw_below_drewN | apply below_drew1 | refine below_set ?_ (Aside0.out (by assumption))) | exact HB.out))); (case aF => exact (fun _ _ => trivial)); (case aO => exact (by (with_reducible repeat (first | apply Kd.R_alloc | apply Kd.R_drewN | apply Kd.R_drew)); exact HO276.out)); (case aS => exact (below_size (by repeat (first | (with_reducible first | exact HB.out | apply below_alloc | apply pw_below_drewN | apply below_drew1 | refine below_set ?_ (Aside0.out (by assumption))) | exact HB.out)))); (case aL => have := LMc9.out; omega); intro v278 w16 ho hb hg hat; rw [← Ny277.out] at ho; replace BK271 := Aside0.mk (blk_grown (g := gb271) (o := .cells #[.int .i64 a1_0, .int .i64 a1_1] 41 (0, 0)) (by repeat (first | (with_reducible first | exact BK271.out | refine blk_drewN ?_ _ | refine blk_drew ?_ | refine blk_alloc ?_ _) | exact BK271.out)) hg (Kd.R_ne HO276.out BK271.out (by decide))); replace BK272 := Aside0.mk (blk_grown (g := gb272) (o := .cells #[.int .i64 a2_0, .int .i64 a2_1] 41 (0, 0)) (by repeat (first | (with_reducible first | exact BK272.out | refine blk_drewN ?_ _ | refine blk_drew ?_ | refine blk_alloc ?_ _) | exact BK272.out)) hg (Kd.R_ne HO276.out BK272.out (by decide))); replace HB := Aside0.mk (hb); have HO279 := Aside0.mk (ho); clear HO276; clear ho hb hg hat; have hnb17 := NB271_272.out; have hnc17 := NB272_271.out; obtain ⟨hcz18_0, hcz18_1⟩ := bc2 BK271.out; obtain ⟨hfz18_0, hfz18_1⟩ := bf2 BK271.out; obtain ⟨Ao19, co19, eo19⟩ := Kd.R_slice HO279.out; subst eo19) | ((with_reducible refine gate_callee (f := 23) rfl ?_); refine goesL_ (some 28) rfl rfl Try.func23 (by kernel_rfl) rfl #[.slice Ao19 y277.length co19, .agg #[.int .i64 a1_0, .int .i64 a1_1]] rfl (by (try simp only [List.map_toArray, List.map_cons, List.map_nil]); first | done | rfl | (simp only [List.length_drop, List.length_take]; rfl)) ?_; (with_reducible refine (mill_Blank.calls k _ _ y277 a1_0 a1_1 t280 t281 t282 _ ?side1 ?side2 A10.out).mono ?_); (case side1 => repeat (first | exact (Kd.R_reads' HO279.out).2.2 | (with_reducible refine Kd.C_alloc ?_ _) | (with_reducible refine Kd.C_drewN ?_ _) | (with_reducible refine Kd.C_drew ?_))); (case side2 => exact (Kd.R_reads' HO279.out).2.1); rintro e w20 ⟨rfl, hb⟩; refine ⟨_, rfl, ?_⟩; replace HO279 := Aside0.mk (Kd.R_below (by (with_reducible repeat (first | apply Kd.R_alloc | apply Kd.R_drewN | apply Kd.R_drew)); exact HO279.out) hb); replace BK271 := Aside0.mk (blk_below (g := gb271) (o := .cells #[.int .i64 a1_0, .int .i64 a1_1] 41 (0, 0)) (by repeat (first | (with_reducible first | exact BK271.out | refine blk_drewN ?_ _ | refine blk_drew ?_ | refine blk_alloc ?_ _) | exact BK271.out)) hb); replace BK272 := Aside0.mk (blk_below (g := gb272) (o := .cells #[.int .i64 a2_0, .int .i64 a2_1] 41 (0, 0)) (by repeat (first | (with_reducible first | exact BK272.out | refine blk_drewN ?_ _ | refine blk_drew ?_ | refine blk_alloc ?_ _) | exact BK272.out)) hb); replace HB := Aside0.mk (below_step (by repeat (first | (with_reducible first | exact HB.out | apply below_alloc | apply pw_below_drewN | apply below_drew1 | refine below_set ?_ (Aside0.out (by assumption))) | exact HB.out)) hb); (try clear hb); (try clear hb2); (try clear hk); (try clear hi)) | ((with_reducible refine gate_dst (N := 8) rfl ?_); refine box_event ?hg (N := 8) ?hd (cs := #[.int .i64 0, .int .i64 0]) (t := 41) ?hr ?_; (case hd => rfl); (case hg => rfl); (case hr => first | (go_simp; done) | (go_simp; rfl)); intro gb283 hg w21 hbox hb; replace HO279 := Aside0.mk (Kd.R_below (by (with_reducible repeat (first | apply Kd.R_alloc | apply Kd.R_drewN | apply Kd.R_drew)); exact HO279.out) hb); have BK283 := Aside0.mk (hbox); have GW283 := Aside0.mk ((by rw [hg]; exact (below_size (by repeat (first | (with_reducible first | exact HB.out | apply below_alloc | apply pw_below_drewN | apply below_drew1 | refine below_set ?_ (Aside0.out (by assumption))) | exact HB.out))) : w.heap.size ≤ gb283)); have GE283 := GW283; replace HB := Aside0.mk (below_step (by repeat (first | (with_reducible first | exact HB.out | apply below_alloc | apply pw_below_drewN | apply below_drew1 | refine below_set ?_ (Aside0.out (by assumption))) | exact HB.out)) hb); have NB271_283 := Aside0.mk ((by rw [hg]; exact Nat.ne_of_lt (blk_lt BK271.out) : gb271 ≠ gb283)); have NB283_271 := Aside0.mk ((by rw [hg]; exact Nat.ne_of_gt (blk_lt BK271.out) : gb283 ≠ gb271)); replace BK271 := Aside0.mk (blk_below (g := gb271) (o := .cells #[.int .i64 a1_0, .int .i64 a1_1] 41 (0, 0)) (by repeat (first | (with_reducible first | exact BK271.out | refine blk_drewN ?_ _ | refine blk_drew ?_ | refine blk_alloc ?_ _) | exact BK271.out)) hb); have NB272_283 := Aside0.mk ((by rw [hg]; exact Nat.ne_of_lt (blk_lt BK272.out) : gb272 ≠ gb283)); have NB283_272 := Aside0.mk ((by rw [hg]; exact Nat.ne_of_gt (blk_lt BK272.out) : gb283 ≠ gb272)); replace BK272 := Aside0.mk (blk_below (g := gb272) (o := .cells #[.int .i64 a2_0, .int .i64 a2_1] 41 (0, 0)) (by repeat (first | (with_reducible first | exact BK272.out | refine blk_drewN ?_ _ | refine blk_drew ?_ | refine blk_alloc ?_ _) | exact BK272.out)) hb); clear hb hbox hg; have hnb22 := NB283_271.out; have hnc22 := NB271_283.out; have hnb23 := NB283_272.out; have hnc23 := NB272_283.out; obtain ⟨hcz24_0, hcz24_1⟩ := bc2 BK283.out; obtain ⟨hfz24_0, hfz24_1⟩ := bf2 BK283.out; obtain ⟨hcz25_0, hcz25_1⟩ := bc2 BK271.out; obtain ⟨hfz25_0, hfz25_1⟩ := bf2 BK271.out; obtain ⟨hcz26_0, hcz26_1⟩ := bc2 BK272.out; obtain ⟨hfz26_0, hfz26_1⟩ := bf2 BK272.out) | ((with_reducible refine gate_callee (f := 24) rfl ?_); refine goesL_ (some 35) rfl rfl Try.func24 (by kernel_rfl) rfl #[.slice Ao19 y277.length co19, .agg #[.int .i64 a1_0, .int .i64 a1_1], .agg #[.int .i64 a2_0, .int .i64 a2_1]] rfl (by (try simp only [List.map_toArray, List.map_cons, List.map_nil]); first | done | rfl | (simp only [List.length_drop, List.length_take]; rfl)) ?_; (with_reducible refine (mill_Spare.calls k _ _ y277 a1_0 a1_1 a2_0 a2_1 t284 t285 t286 _ ?side1 ?side2 A11.out).mono ?_); (case side1 => refine (Kd.R_reads' (e := 46) (base := w.heap.size) (ok := fun k_ => True) (n := y277.length) (c := co19) ?_).2.2; exact (by (with_reducible repeat (first | apply Kd.R_alloc | apply Kd.R_drewN | apply Kd.R_drew)); exact (Kd.R_mono (Kd.R_far (p := ⟨gb283, 1, none⟩) (Kd.R_far (p := ⟨gb283, 0, none⟩) (Kd.R_types HO279.out BK283.out (by decide)) (fun _ hk => hk.2) (.int .i64 t280)) (fun _ hk => hk.2) (.int .i64 t281)) (fun _ h_ => h_.1)))); (case side2 => exact (Kd.R_reads' HO279.out).2.1); rintro e w27 ⟨rfl, hb⟩; refine ⟨_, rfl, ?_⟩; replace HO279 := Aside0.mk (Kd.R_below (by (with_reducible repeat (first | apply Kd.R_alloc | apply Kd.R_drewN | apply Kd.R_drew)); exact (Kd.R_mono (Kd.R_far (p := ⟨gb283, 1, none⟩) (Kd.R_far (p := ⟨gb283, 0, none⟩) (Kd.R_types HO279.out BK283.out (by decide)) (fun _ hk => hk.2) (.int .i64 t280)) (fun _ hk => hk.2) (.int .i64 t281)) (fun _ h_ => h_.1))) hb); replace BK271 := Aside0.mk (blk_below (g := gb271) (o := .cells #[.int .i64 a1_0, .int .i64 a1_1] 41 (0, 0)) (by repeat (first | (with_reducible first | exact BK271.out | refine blk_drewN ?_ _ | refine blk_drew ?_ | refine blk_alloc ?_ _) | refine blk_far ?_ NB271_283.out _ | exact BK271.out)) hb); replace BK272 := Aside0.mk (blk_below (g := gb272) (o := .cells #[.int .i64 a2_0, .int .i64 a2_1] 41 (0, 0)) (by repeat (first | (with_reducible first | exact BK272.out | refine blk_drewN ?_ _ | refine blk_drew ?_ | refine blk_alloc ?_ _) | refine blk_far ?_ NB272_283.out _ | exact BK272.out)) hb); replace BK283 := Aside0.mk (blk_below (g := gb283) (o := .cells #[.int .i64 t280, .int .i64 t281] 41 (0, 0)) (by exact bto (bput (bput (BK283.out) _ _) _ _) rfl) hb); replace HB := Aside0.mk (below_step (by repeat (first | (with_reducible first | exact HB.out | apply below_alloc | apply pw_below_drewN | apply below_drew1 | refine below_set ?_ (Aside0.out (by assumption))) | exact HB.out)) hb); (try clear hb); (try clear hb2); (try clear hk); (try clear hi)) | ((with_reducible refine gate_dst (N := 10) rfl ?_); refine box_event ?hg (N := 10) ?hd (cs := #[.int .i64 0, .int .i64 0]) (t := 41) ?hr ?_; (case hd => rfl); (case hg => rfl); (case hr => first | (go_simp; done) | (go_simp; rfl)); intro gb287 hg w28 hbox hb; replace HO279 := Aside0.mk (Kd.R_below (by (with_reducible repeat (first | apply Kd.R_alloc | apply Kd.R_drewN | apply Kd.R_drew)); exact HO279.out) hb); have BK287 := Aside0.mk (hbox); have GW287 := Aside0.mk ((by rw [hg]; exact (below_size (by repeat (first | (with_reducible first | exact HB.out | apply below_alloc | apply pw_below_drewN | apply below_drew1 | refine below_set ?_ (Aside0.out (by assumption))) | exact HB.out))) : w.heap.size ≤ gb287)); have GE287 := GW287; replace HB := Aside0.mk (below_step (by repeat (first | (with_reducible first | exact HB.out | apply below_alloc | apply pw_below_drewN | apply below_drew1 | refine below_set ?_ (Aside0.out (by assumption))) | exact HB.out)) hb); have NB271_287 := Aside0.mk ((by rw [hg]; exact Nat.ne_of_lt (blk_lt BK271.out) : gb271 ≠ gb287)); have NB287_271 := Aside0.mk ((by rw [hg]; exact Nat.ne_of_gt (blk_lt BK271.out) : gb287 ≠ gb271)); replace BK271 := Aside0.mk (blk_below (g := gb271) (o := .cells #[.int .i64 a1_0, .int .i64 a1_1] 41 (0, 0)) (by repeat (first | (with_reducible first | exact BK271.out | refine blk_drewN ?_ _ | refine blk_drew ?_ | refine blk_alloc ?_ _) | exact BK271.out)) hb); have NB272_287 := Aside0.mk ((by rw [hg]; exact Nat.ne_of_lt (blk_lt BK272.out) : gb272 ≠ gb287)); have NB287_272 := Aside0.mk ((by rw [hg]; exact Nat.ne_of_gt (blk_lt BK272.out) : gb287 ≠ gb272)); replace BK272 := Aside0.mk (blk_below (g := gb272) (o := .cells #[.int .i64 a2_0, .int .i64 a2_1] 41 (0, 0)) (by repeat (first | (with_reducible first | exact BK272.out | refine blk_drewN ?_ _ | refine blk_drew ?_ | refine blk_alloc ?_ _) | exact BK272.out)) hb); have NB283_287 := Aside0.mk ((by rw [hg]; exact Nat.ne_of_lt (blk_lt BK283.out) : gb283 ≠ gb287)); have NB287_283 := Aside0.mk ((by rw [hg]; exact Nat.ne_of_gt (blk_lt BK283.out) : gb287 ≠ gb283)); replace BK283 := Aside0.mk (blk_below (g := gb283) (o := .cells #[.int .i64 t280, .int .i64 t281] 41 (0, 0)) (by repeat (first | (with_reducible first | exact BK283.out | refine blk_drewN ?_ _ | refine blk_drew ?_ | refine blk_alloc ?_ _) | exact BK283.out)) hb); clear hb hbox hg; have hnb29 := NB287_271.out; have hnc29 := NB271_287.out; have hnb30 := NB287_272.out; have hnc30 := NB272_287.out; have hnb31 := NB287_283.out; have hnc31 := NB283_287.out; obtain ⟨hcz32_0, hcz32_1⟩ := bc2 BK287.out; obtain ⟨hfz32_0, hfz32_1⟩ := bf2 BK287.out))
   go_loopg [12] k (fun kq v12 w' => ∃ (x12_1 : Int), v12 = .int .i64 x12_1 ∧ Aside0 (acmelaw12_MillBlanks.l0 kq l0 y277 t282 t286 x12_1 a1_0 a1_1 a2_0 a2_1 t280 t281 t284 t285 = some r) ∧ Aside0 (kq ≤ k) ∧ Aside0 (Kd.R k46 46 w' w.heap.size (fun _ => True) (.slice Ao19 y277.length co19) y277) ∧ Aside0 (w'.heap[gb271]? = some (.cells #[.int .i64 a1_0, .int .i64 a1_1] 41 (0, 0))) ∧ Aside0 (w'.heap[gb272]? = some (.cells #[.int .i64 a2_0, .int .i64 a2_1] 41 (0, 0))) ∧ Aside0 (w'.heap[gb283]? = some (.cells #[.int .i64 t280, .int .i64 t281] 41 (0, 0))) ∧ Aside0 (w'.heap[gb287]? = some (.cells #[.int .i64 t284, .int .i64 t285] 41 (0, 0))) ∧ Aside0 (Below w.heap.size w w'))
   case atStart => exact ⟨(0), (by first | rfl | (simp; done) | (simp [*]; done)), H', ⟨Nat.le_refl _⟩, ⟨by (with_reducible repeat (first | apply Kd.R_alloc | apply Kd.R_drewN | apply Kd.R_drew)); exact Kd.R_mono (Kd.R_far (p := ⟨gb287, 1, none⟩) (Kd.R_far (p := ⟨gb287, 0, none⟩) (Kd.R_types HO279.out BK287.out (by decide)) (fun _ hk => hk.2) (.int .i64 t284)) (fun _ hk => hk.2) (.int .i64 t285)) (fun _ hk => trivial)⟩, ⟨by repeat (first | (with_reducible first | exact BK271.out | refine blk_drewN ?_ _ | refine blk_drew ?_ | refine blk_alloc ?_ _) | refine blk_far ?_ NB271_287.out _ | exact BK271.out)⟩, ⟨by repeat (first | (with_reducible first | exact BK272.out | refine blk_drewN ?_ _ | refine blk_drew ?_ | refine blk_alloc ?_ _) | refine blk_far ?_ NB272_287.out _ | exact BK272.out)⟩, ⟨by repeat (first | (with_reducible first | exact BK283.out | refine blk_drewN ?_ _ | refine blk_drew ?_ | refine blk_alloc ?_ _) | refine blk_far ?_ NB283_287.out _ | exact BK283.out)⟩, ⟨by exact bto (bput (bput (BK287.out) _ _) _ _) rfl⟩, ⟨by repeat (first | (with_reducible first | exact HB.out | apply below_alloc | apply pw_below_drewN | apply below_drew1 | refine below_set ?_ (Aside0.out (by assumption))) | exact HB.out)⟩⟩
   case round => as_aux_lemma =>
    clear H'
    try clear c1; try clear c2; try clear p2; try clear c3; try clear c4; try clear c4b0; try clear c4b1; try clear c9; try clear c15; try clear c17; try clear c22; try clear c23; try clear c24; try clear c29; try clear c30; try clear c31; try clear hcz18_0; try clear hcz18_1; try clear hcz24_0; try clear hcz24_1; try clear hcz25_0; try clear hcz25_1; try clear hcz26_0; try clear hcz26_1; try clear hcz32_0; try clear hcz32_1; try clear hfz18_0; try clear hfz18_1; try clear hfz24_0; try clear hfz24_1; try clear hfz25_0; try clear hfz25_1; try clear hfz26_0; try clear hfz26_1; try clear hfz32_0; try clear hfz32_1
    obtain ⟨x12_1, rfl, HA, HK1, HO_7, BK271, BK272, BK283, BK287, HB⟩ := hrel
    cases gk with
    | zero => exact absurd HA.out (by simp [acmelaw12_MillBlanks.l0])
    | succ k1 =>
     have H := HA.out
     clear HA
     simp only [acmelaw12_MillBlanks.l0] at H
     by_cases c33 : x12_1 < (l0.length : Int)
     ·rw [if_pos c33] at H
      have c33b0 : decide (x12_1 < (l0.length : Int)) = true := decide_eq_true c33
      clear c33
      by_cases c34 : 0 ≤ x12_1
      ·rw [if_pos c34] at H
       have c34b0 : decide (0 ≤ x12_1) = true := decide_eq_true c34
       clear c34
       by_cases c35 : x12_1 < (y277.length : Int)
       ·rw [if_pos c35] at H
        have c35b0 : decide (x12_1 < (y277.length : Int)) = true := decide_eq_true c35
        clear c35
        by_cases c36 : (!(((rd_T46 y277 x12_1).f0) == ((rd_T46 l0 x12_1).f0)) || (!(((rd_T46 y277 x12_1).f1) == ((rd_T46 l0 x12_1).f1)))) = true
        ·rw [if_pos c36] at H
         exact absurd H (by simp)
        ·rw [if_neg c36] at H
         have c36b0 : (!(((rd_T46 y277 x12_1).f0) == ((rd_T46 l0 x12_1).f0)) || (!(((rd_T46 y277 x12_1).f1) == ((rd_T46 l0 x12_1).f1)))) = false := by simpa using c36
         clear c36
         have H' := Aside0.mk H
         clear H
         try go_wp2
         have n0_ := Aside0.mk (Kd.R_drew HO_7.out)
         have n1_ := Aside0.mk (blk_drew BK271.out)
         have n2_ := Aside0.mk (blk_drew BK272.out)
         have n3_ := Aside0.mk (blk_drew BK283.out)
         have n4_ := Aside0.mk (blk_drew BK287.out)
         have n5_ := Aside0.mk (below_drew1 HB.out)
         clear HO_7
         clear BK271
         clear BK272
         clear BK283
         clear BK287
         clear HB
         have HO_7 := n0_
         have BK271 := n1_
         have BK272 := n2_
         have BK283 := n3_
         have BK287 := n4_
         have HB := n5_
         clear n0_ n1_ n2_ n3_ n4_ n5_
         have p288 : 0 ≤ (x12_1 : Int) := of_decide_eq_true (by first | (with_reducible assumption) | assumption)
         have q288 : x12_1 < (y277.length : Int) := of_decide_eq_true (by first | (with_reducible assumption) | assumption)
         obtain ⟨ad288, e288, hx288_0, hx288_1⟩ := at_T46 (Kd.R_reads' HO_7.out).2.2 x12_1 p288 q288
         cases e288
         replace p288 := eq_true p288
         replace q288 := eq_true q288
         have p289 : 0 ≤ (x12_1 : Int) := of_decide_eq_true (by first | (with_reducible assumption) | assumption)
         have q289 : x12_1 < (l0.length : Int) := of_decide_eq_true (by first | (with_reducible assumption) | assumption)
         obtain ⟨ad289, e289, hx289_0, hx289_1⟩ := at_T46 HR0.out x12_1 p289 q289
         have hw289_1 := hx289_1
         have hw289_0 := hx289_0
         cases e289
         replace hx289_0 := (HB.out.cell (World.block_lt_of_cell? w _ hx289_0)).trans hx289_0
         replace hx289_1 := (HB.out.cell (World.block_lt_of_cell? w _ hx289_1)).trans hx289_1
         replace p289 := eq_true p289
         replace q289 := eq_true q289
         refine start_ (n := 9) (S := fun w' => w'.cell? (ad288.add ((x12_1).toNat * 2)) = some (.int .i64 ((rd_T46 y277 x12_1).f0)) ∧ w'.cell? ⟨(ad288.add ((x12_1).toNat * 2)).block, (ad288.add ((x12_1).toNat * 2)).off + 1, none⟩ = some (.int .i64 ((rd_T46 y277 x12_1).f1)) ∧ w'.cell? (ad289.add ((x12_1).toNat * 2)) = some (.int .i64 ((rd_T46 l0 x12_1).f0)) ∧ w'.cell? ⟨(ad289.add ((x12_1).toNat * 2)).block, (ad289.add ((x12_1).toNat * 2)).off + 1, none⟩ = some (.int .i64 ((rd_T46 l0 x12_1).f1))) (ds := []) #[false, false, false, false, false, false, false, false, false] (by kernel_rfl) rfl rfl ⟨hx288_0, hx288_1, ((HB.out.cell (World.block_lt_of_cell? w _ hw289_0)).trans hw289_0), ((HB.out.cell (World.block_lt_of_cell? w _ hw289_1)).trans hw289_1)⟩ (fun hHeld => ?_); refine with_tabW acmelaw12_MillBlanks.tab9 acmelaw12_MillBlanks.bits9 (fun HT_ HW_ => ?_)
         generalize wr.drew = w37 at HO_7 BK271 BK272 BK283 BK287 HB hx288_0 hx288_1 hx289_0 hx289_1 hHeld ⊢
         refine pure_ (i := 0) (N := some 44) (v := ?_) (a' := ?_) #[true, false, false, false, false, false, false, false, false] rfl rfl (any_of HT_.out (by kernel_rfl)) (fun _ _ _ h => h) (Or.inl ⟨by rfl, ?_⟩) ?_ ?_
         rotate_left
         ·intro w'
          go_simp
          with_reducible rfl
         rotate_left
         ·simp only [Act.put, List.setIfInBounds_toArray, List.set_cons_zero, List.set_cons_succ, i64_w, i32_w]
          rfl
         refine pure_ (i := 1) (N := some 45) (v := ?_) (a' := ?_) #[true, true, false, false, false, false, false, false, false] rfl rfl (any_of HT_.out (by kernel_rfl)) (fun _ _ _ h => h) (Or.inl ⟨by rfl, ?_⟩) ?_ ?_
         rotate_left
         ·intro w'
          go_simp
          with_reducible rfl
         rotate_left
         ·simp only [Act.put, List.setIfInBounds_toArray, List.set_cons_zero, List.set_cons_succ, i64_w, i32_w]
          rfl
         refine pure_ (i := 2) (N := some 46) (v := ?_) (a' := ?_) #[true, true, true, false, false, false, false, false, false] rfl rfl (any_of HT_.out (by kernel_rfl)) (fun _ _ _ h => h) (Or.inl ⟨by rfl, ?_⟩) ?_ ?_
         rotate_left
         ·intro w'
          go_simp
          with_reducible rfl
         rotate_left
         ·simp only [Act.put, List.setIfInBounds_toArray, List.set_cons_zero, List.set_cons_succ, i64_w, i32_w]
          rfl
         refine pure_ (i := 4) (N := some 48) (v := ?_) (a' := ?_) #[true, true, true, false, true, false, false, false, false] rfl rfl (any_of HT_.out (by kernel_rfl)) (fun _ _ _ h => h) (Or.inl ⟨by rfl, ?_⟩) ?_ ?_
         rotate_left
         ·intro w'
          go_simp
          with_reducible rfl
         rotate_left
         ·simp only [Act.put, List.setIfInBounds_toArray, List.set_cons_zero, List.set_cons_succ, i64_w, i32_w]
          rfl
         refine pure_ (i := 5) (N := some 49) (v := ?_) (a' := ?_) #[true, true, true, false, true, true, false, false, false] rfl rfl (any_of HT_.out (by kernel_rfl)) (fun _ _ _ h => h) (Or.inl ⟨by rfl, ?_⟩) ?_ ?_
         rotate_left
         ·intro w'
          go_simp
          with_reducible rfl
         rotate_left
         ·simp only [Act.put, List.setIfInBounds_toArray, List.set_cons_zero, List.set_cons_succ, i64_w, i32_w]
          rfl
         refine pure_ (i := 6) (N := some 50) (v := ?_) (a' := ?_) #[true, true, true, false, true, true, true, false, false] rfl rfl (any_of HT_.out (by kernel_rfl)) (fun _ _ _ h => h) (Or.inl ⟨by rfl, ?_⟩) ?_ ?_
         rotate_left
         ·intro w'
          go_simp
          with_reducible rfl
         rotate_left
         ·simp only [Act.put, List.setIfInBounds_toArray, List.set_cons_zero, List.set_cons_succ, i64_w, i32_w]
          rfl
         refine take_ (i := 3) (N := some 47) (v := ?_) (a' := ?_) #[true, true, true, true, true, true, true, false, false] rfl rfl (take_ofW HT_.out HW_.out (by kernel_rfl)) (fun _ _ _ h => h) (Or.inl ⟨by rfl, ?_⟩) hHeld ?_ ?_
         rotate_left
         ·rintro w' ⟨s0, s1, s2, s3⟩
          go_simp
          with_reducible rfl
         rotate_left
         ·simp only [Act.put, List.setIfInBounds_toArray, List.set_cons_zero, List.set_cons_succ, i64_w, i32_w]
          rfl
         refine take_ (i := 7) (N := some 51) (v := ?_) (a' := ?_) #[true, true, true, true, true, true, true, true, false] rfl rfl (take_ofW HT_.out HW_.out (by kernel_rfl)) (fun _ _ _ h => h) (Or.inl ⟨by rfl, ?_⟩) hHeld ?_ ?_
         rotate_left
         ·rintro w' ⟨s0, s1, s2, s3⟩
          go_simp
          with_reducible rfl
         rotate_left
         ·simp only [Act.put, List.setIfInBounds_toArray, List.set_cons_zero, List.set_cons_succ, i64_w, i32_w]
          rfl
         refine pure_ (i := 8) (N := some 52) (v := ?_) (a' := ?_) #[true, true, true, true, true, true, true, true, true] rfl rfl (any_of HT_.out (by kernel_rfl)) (fun _ _ _ h => h) (Or.inl ⟨by rfl, ?_⟩) ?_ ?_
         rotate_left
         ·intro w'
          go_simp
          with_reducible rfl
         rotate_left
         ·simp only [Act.put, List.setIfInBounds_toArray, List.set_cons_zero, List.set_cons_succ, i64_w, i32_w]
          rfl
         refine done_ (done_of HT_.out (by kernel_rfl)) ?_
         try go_wp2
         go_roundg k1
         case measure => have := HK1.out; omega
         case rel => exact ⟨(wrap64 (x12_1 + 1)), (by first | rfl | (simp; done) | (simp [*]; done)), H', ⟨by have := HK1.out; omega⟩, ⟨by (with_reducible repeat (first | apply Kd.R_alloc | apply Kd.R_drewN | apply Kd.R_drew)); exact HO_7.out⟩, BK271, BK272, BK283, BK287, ⟨by repeat (first | (with_reducible first | exact HB.out | apply below_alloc | apply pw_below_drewN | apply below_drew1 | refine below_set ?_ (Aside0.out (by assumption))) | exact HB.out)⟩⟩
       ·rw [if_neg c35] at H
        exact absurd H (by simp)
      ·rw [if_neg c34] at H
       exact absurd H (by simp)
     ·rw [if_neg c33] at H
      have c33b0 : decide (x12_1 < (l0.length : Int)) = false := decide_eq_false c33
      clear c33
      replace H := Option.bind_eq_some_iff.mp H
      obtain ⟨⟨t290, t291⟩, A380, H⟩ := H; (try dsimp only at H)
      have A38 := Aside0.mk A380
      clear A380
      have HC39 := Aside0.mk H
      clear H
      go_upto_region 12 with (first | ((with_reducible refine gate_callee (f := 25) rfl ?_); refine goesL_ (some 55) rfl rfl Try.func25 (by kernel_rfl) rfl #[.slice A0 l0.length c0] rfl (by (try simp only [List.map_toArray, List.map_cons, List.map_nil]); first | done | rfl | (simp only [List.length_drop, List.length_take]; rfl)) ?_; (with_reducible refine (acmeref12_Volume.calls k1 _ _ l0 t290 t291 _ ?side1 ?side2 A38.out).mono ?_); (case side1 => repeat (first | exact (Kd.C_below HR0.out HB.out) | (with_reducible refine Kd.C_alloc ?_ _) | (with_reducible refine Kd.C_drewN ?_ _) | (with_reducible refine Kd.C_drew ?_))); (case side2 => exact HC0.out); rintro e w' ⟨rfl, ⟨nd, rfl⟩⟩; refine ⟨_, rfl, ?_⟩))
      (try simp only [Act.put, List.setIfInBounds_toArray, List.set_cons_zero, List.set_cons_succ])
      go_cut [64] (fun v64 wc => ∃ (kq : Nat) (x64_38 : Bool), v64 = .bool x64_38 ∧ Aside0 (acmelaw12_MillBlanks.j1 kq t282 t286 t290 t291 x64_38 a1_0 a1_1 a2_0 a2_1 t280 t281 t284 t285 = some r) ∧ Aside0 (kq ≤ k1) ∧ Aside0 (wc.heap[gb271]? = some (.cells #[.int .i64 a1_0, .int .i64 a1_1] 41 (0, 0))) ∧ Aside0 (wc.heap[gb272]? = some (.cells #[.int .i64 a2_0, .int .i64 a2_1] 41 (0, 0))) ∧ Aside0 (wc.heap[gb283]? = some (.cells #[.int .i64 t280, .int .i64 t281] 41 (0, 0))) ∧ Aside0 (wc.heap[gb287]? = some (.cells #[.int .i64 t284, .int .i64 t285] 41 (0, 0))) ∧ Aside0 (Below w.heap.size w wc))
      case first => as_aux_lemma =>
       have H := HC39.out
       clear HC39
       by_cases c40 : t291 = 0
       ·rw [if_pos c40] at H
        have c40b0 : (t291 == 0) = true := beq_iff_eq.mpr c40
        have c40b1 : (t291 != 0) = false := bne_eq_false_iff_eq.mpr c40
        clear c40
        (first | rw [c40b0] | (simp only [i64_w, i32_w]; rw [c40b0]) | skip)
        replace H := Option.bind_eq_some_iff.mp H
        obtain ⟨t292, A410, H⟩ := H; (try dsimp only at H)
        have A41 := Aside0.mk A410
        clear A410
        have H' := Aside0.mk H
        clear H
        have hnb42 := NB271_272.out
        have hnc42 := NB272_271.out
        have hnb43 := NB271_283.out
        have hnc43 := NB283_271.out
        have hnb44 := NB271_287.out
        have hnc44 := NB287_271.out
        obtain ⟨hcz45_0, hcz45_1⟩ := bc2 BK271.out
        obtain ⟨hfz45_0, hfz45_1⟩ := bf2 BK271.out
        go_wp2_with (first | (go_at_call 26; (with_reducible refine (acmeref12_Span.calls a1_0 a1_1 1 100000 t292 _ A41.out).mono ?_); rintro e w46 ⟨rfl, hb⟩; replace HO_7 := Aside0.mk (Kd.R_below (by (with_reducible repeat (first | apply Kd.R_alloc | apply Kd.R_drewN | apply Kd.R_drew)); exact HO_7.out) hb); replace BK271 := Aside0.mk (blk_below (g := gb271) (o := .cells #[.int .i64 a1_0, .int .i64 a1_1] 41 (0, 0)) (by repeat (first | (with_reducible first | exact BK271.out | refine blk_drewN ?_ _ | refine blk_drew ?_ | refine blk_alloc ?_ _) | exact BK271.out)) hb); replace BK272 := Aside0.mk (blk_below (g := gb272) (o := .cells #[.int .i64 a2_0, .int .i64 a2_1] 41 (0, 0)) (by repeat (first | (with_reducible first | exact BK272.out | refine blk_drewN ?_ _ | refine blk_drew ?_ | refine blk_alloc ?_ _) | exact BK272.out)) hb); replace BK283 := Aside0.mk (blk_below (g := gb283) (o := .cells #[.int .i64 t280, .int .i64 t281] 41 (0, 0)) (by repeat (first | (with_reducible first | exact BK283.out | refine blk_drewN ?_ _ | refine blk_drew ?_ | refine blk_alloc ?_ _) | exact BK283.out)) hb); replace BK287 := Aside0.mk (blk_below (g := gb287) (o := .cells #[.int .i64 t284, .int .i64 t285] 41 (0, 0)) (by repeat (first | (with_reducible first | exact BK287.out | refine blk_drewN ?_ _ | refine blk_drew ?_ | refine blk_alloc ?_ _) | exact BK287.out)) hb); replace HB := Aside0.mk (below_step (by repeat (first | (with_reducible first | exact HB.out | apply below_alloc | apply pw_below_drewN | apply below_drew1 | refine below_set ?_ (Aside0.out (by assumption))) | exact HB.out)) hb); (try clear hb); (try clear hb2); (try clear hk); (try clear hi)))
        go_meet
        case rel => exact ⟨_, (!t292), (by first | rfl | (simp; done) | (simp [*]; done)), H', ⟨by have := HK1.out; first | omega | exact Nat.le_refl _⟩, BK271, BK272, BK283, BK287, ⟨by repeat (first | (with_reducible first | exact HB.out | apply below_alloc | apply pw_below_drewN | apply below_drew1 | refine below_set ?_ (Aside0.out (by assumption))) | exact HB.out)⟩⟩
       ·rw [if_neg c40] at H
        have c40b0 : (t291 == 0) = false := beq_eq_false_iff_ne.mpr c40
        have c40b1 : (t291 != 0) = true := bne_iff_ne.mpr c40
        (first | rw [c40b0] | (simp only [i64_w, i32_w]; rw [c40b0]) | skip)
        have H' := Aside0.mk H
        clear H
        go_wp2
        go_meet
        case rel => exact ⟨_, (false), (by first | rfl | (simp; done) | (simp [*]; done)), H', ⟨by have := HK1.out; first | omega | exact Nat.le_refl _⟩, BK271, BK272, BK283, BK287, ⟨by repeat (first | (with_reducible first | exact HB.out | apply below_alloc | apply pw_below_drewN | apply below_drew1 | refine below_set ?_ (Aside0.out (by assumption))) | exact HB.out)⟩⟩
      case rest => as_aux_lemma =>
       clear HC39
       try clear c1; try clear c2; try clear p2; try clear q2; try clear hx2; try clear c3; try clear c4; try clear c4b0; try clear c4b1; try clear p6; try clear c9; try clear c15; try clear c17; try clear c22; try clear c23; try clear c24; try clear c25; try clear p28; try clear q28; try clear hx28; try clear c29; try clear c30; try clear c31; try clear c33; try clear c33b0; try clear c34; try clear c34b0; try clear c35; try clear c35b0; try clear c36; try clear c36b0; try clear c40; try clear c40b0; try clear c40b1; try clear c42; try clear c43; try clear c44; try clear hcz18_0; try clear hcz18_1; try clear hcz24_0; try clear hcz24_1; try clear hcz25_0; try clear hcz25_1; try clear hcz26_0; try clear hcz26_1; try clear hcz32_0; try clear hcz32_1; try clear hcz45_0; try clear hcz45_1; try clear hfz18_0; try clear hfz18_1; try clear hfz24_0; try clear hfz24_1; try clear hfz25_0; try clear hfz25_1; try clear hfz26_0; try clear hfz26_1; try clear hfz32_0; try clear hfz32_1; try clear hfz45_0; try clear hfz45_1; try clear hx288_0; try clear hx288_1; try clear hx289_0; try clear hx289_1; try clear p2; try clear p288; try clear p289; try clear q288; try clear q289
       obtain ⟨kq, x64_38, rfl, HA, HJ38, BK271, BK272, BK283, BK287, HB⟩ := hcut
       cases kq with
       | zero => exact absurd HA.out (by simp [acmelaw12_MillBlanks.j1])
       | succ kj38 =>
        have H := HA.out
        clear HA
        simp only [acmelaw12_MillBlanks.j1] at H
        have HC47 := Aside0.mk H
        clear H
        go_upto_if 64 with (fail)
        go_cut [14] (fun v14 wc => ∃ (kq : Nat) (x14_46 : Int), v14 = .int .i64 x14_46 ∧ Aside0 (acmelaw12_MillBlanks.j2 kq t282 t286 t290 x14_46 a1_0 a1_1 a2_0 a2_1 t280 t281 t284 t285 = some r) ∧ Aside0 (kq ≤ kj38) ∧ Aside0 (wc.heap[gb271]? = some (.cells #[.int .i64 a1_0, .int .i64 a1_1] 41 (0, 0))) ∧ Aside0 (wc.heap[gb272]? = some (.cells #[.int .i64 a2_0, .int .i64 a2_1] 41 (0, 0))) ∧ Aside0 (wc.heap[gb283]? = some (.cells #[.int .i64 t280, .int .i64 t281] 41 (0, 0))) ∧ Aside0 (wc.heap[gb287]? = some (.cells #[.int .i64 t284, .int .i64 t285] 41 (0, 0))) ∧ Aside0 (Below w.heap.size w wc))
        case first => as_aux_lemma =>
         have H := HC47.out
         clear HC47
         by_cases c48 : x64_38 = true
         ·subst c48
          have H1 : (acmelaw12_MillBlanks.j2 kj38 t282 t286 t290 3 a1_0 a1_1 a2_0 a2_1 t280 t281 t284 t285) = some r := by rw [if_pos rfl] at H; exact H
          clear H
          have H := H1
          clear H1
          have H' := Aside0.mk H
          clear H
          go_wp2
          go_meet
          case rel => exact ⟨_, (3), (by first | rfl | (simp; done) | (simp [*]; done)), H', ⟨by have := HK1.out; have := HJ38.out; first | omega | exact Nat.le_refl _⟩, BK271, BK272, BK283, BK287, ⟨by repeat (first | (with_reducible first | exact HB.out | apply below_alloc | apply pw_below_drewN | apply below_drew1 | refine below_set ?_ (Aside0.out (by assumption))) | exact HB.out)⟩⟩
         ·replace c48 := Bool.eq_false_iff.mpr c48
          subst c48
          have H1 : (acmelaw12_MillBlanks.j2 kj38 t282 t286 t290 t291 a1_0 a1_1 a2_0 a2_1 t280 t281 t284 t285) = some r := by rw [if_neg (show ¬ (false = true) by decide)] at H; exact H
          clear H
          have H := H1
          clear H1
          have H' := Aside0.mk H
          clear H
          go_wp2
          go_meet
          case rel => exact ⟨_, (t291), (by first | rfl | (simp; done) | (simp [*]; done)), H', ⟨by have := HK1.out; have := HJ38.out; first | omega | exact Nat.le_refl _⟩, BK271, BK272, BK283, BK287, ⟨by repeat (first | (with_reducible first | exact HB.out | apply below_alloc | apply pw_below_drewN | apply below_drew1 | refine below_set ?_ (Aside0.out (by assumption))) | exact HB.out)⟩⟩
        case rest => as_aux_lemma =>
         clear HC47
         try clear c1; try clear c2; try clear p2; try clear q2; try clear hx2; try clear c3; try clear c4; try clear c4b0; try clear c4b1; try clear p6; try clear c9; try clear c15; try clear c17; try clear c22; try clear c23; try clear c24; try clear c25; try clear p28; try clear q28; try clear hx28; try clear c29; try clear c30; try clear c31; try clear c33; try clear c33b0; try clear c34; try clear c34b0; try clear c35; try clear c35b0; try clear c36; try clear c36b0; try clear c40; try clear c40b0; try clear c40b1; try clear c42; try clear c43; try clear c44; try clear c48; try clear hcz18_0; try clear hcz18_1; try clear hcz24_0; try clear hcz24_1; try clear hcz25_0; try clear hcz25_1; try clear hcz26_0; try clear hcz26_1; try clear hcz32_0; try clear hcz32_1; try clear hcz45_0; try clear hcz45_1; try clear hfz18_0; try clear hfz18_1; try clear hfz24_0; try clear hfz24_1; try clear hfz25_0; try clear hfz25_1; try clear hfz26_0; try clear hfz26_1; try clear hfz32_0; try clear hfz32_1; try clear hfz45_0; try clear hfz45_1; try clear hx288_0; try clear hx288_1; try clear hx289_0; try clear hx289_1; try clear p2; try clear p28; try clear p288; try clear p289; try clear p6; try clear q2; try clear q28; try clear q288; try clear q289
         obtain ⟨kq, x14_46, rfl, HA, HJ46, BK271, BK272, BK283, BK287, HB⟩ := hcut
         cases kq with
         | zero => exact absurd HA.out (by simp [acmelaw12_MillBlanks.j2])
         | succ kj46 =>
          have H := HA.out
          clear HA
          simp only [acmelaw12_MillBlanks.j2] at H
          have HC49 := Aside0.mk H
          clear H
          go_upto_region 15 with (fail)
          go_cut [72] (fun v72 wc => ∃ (kq : Nat) (x72_48 : Bool), v72 = .bool x72_48 ∧ Aside0 (acmelaw12_MillBlanks.j3 kq t282 t286 t290 x14_46 x14_46 x72_48 a1_0 a1_1 a2_0 a2_1 t280 t281 t284 t285 = some r) ∧ Aside0 (kq ≤ kj46) ∧ Aside0 (wc.heap[gb271]? = some (.cells #[.int .i64 a1_0, .int .i64 a1_1] 41 (0, 0))) ∧ Aside0 (wc.heap[gb272]? = some (.cells #[.int .i64 a2_0, .int .i64 a2_1] 41 (0, 0))) ∧ Aside0 (wc.heap[gb283]? = some (.cells #[.int .i64 t280, .int .i64 t281] 41 (0, 0))) ∧ Aside0 (wc.heap[gb287]? = some (.cells #[.int .i64 t284, .int .i64 t285] 41 (0, 0))) ∧ Aside0 (Below w.heap.size w wc))
          case first => as_aux_lemma =>
           have H := HC49.out
           clear HC49
           by_cases c50 : x14_46 = 0
           ·rw [if_pos c50] at H
            have c50b0 : (x14_46 == 0) = true := beq_iff_eq.mpr c50
            have c50b1 : (x14_46 != 0) = false := bne_eq_false_iff_eq.mpr c50
            clear c50
            (first | rw [c50b0] | (simp only [i64_w, i32_w]; rw [c50b0]) | skip)
            replace H := Option.bind_eq_some_iff.mp H
            obtain ⟨t293, A510, H⟩ := H; (try dsimp only at H)
            have A51 := Aside0.mk A510
            clear A510
            have H' := Aside0.mk H
            clear H
            have hnb52 := NB272_271.out
            have hnc52 := NB271_272.out
            have hnb53 := NB272_283.out
            have hnc53 := NB283_272.out
            have hnb54 := NB272_287.out
            have hnc54 := NB287_272.out
            obtain ⟨hcz55_0, hcz55_1⟩ := bc2 BK272.out
            obtain ⟨hfz55_0, hfz55_1⟩ := bf2 BK272.out
            go_wp2_with (first | (go_at_call 26; (with_reducible refine (acmeref12_Span.calls a2_0 a2_1 1 10000000 t293 _ A51.out).mono ?_); rintro e w56 ⟨rfl, hb⟩; replace BK271 := Aside0.mk (blk_below (g := gb271) (o := .cells #[.int .i64 a1_0, .int .i64 a1_1] 41 (0, 0)) (by repeat (first | (with_reducible first | exact BK271.out | refine blk_drewN ?_ _ | refine blk_drew ?_ | refine blk_alloc ?_ _) | exact BK271.out)) hb); replace BK272 := Aside0.mk (blk_below (g := gb272) (o := .cells #[.int .i64 a2_0, .int .i64 a2_1] 41 (0, 0)) (by repeat (first | (with_reducible first | exact BK272.out | refine blk_drewN ?_ _ | refine blk_drew ?_ | refine blk_alloc ?_ _) | exact BK272.out)) hb); replace BK283 := Aside0.mk (blk_below (g := gb283) (o := .cells #[.int .i64 t280, .int .i64 t281] 41 (0, 0)) (by repeat (first | (with_reducible first | exact BK283.out | refine blk_drewN ?_ _ | refine blk_drew ?_ | refine blk_alloc ?_ _) | exact BK283.out)) hb); replace BK287 := Aside0.mk (blk_below (g := gb287) (o := .cells #[.int .i64 t284, .int .i64 t285] 41 (0, 0)) (by repeat (first | (with_reducible first | exact BK287.out | refine blk_drewN ?_ _ | refine blk_drew ?_ | refine blk_alloc ?_ _) | exact BK287.out)) hb); replace HB := Aside0.mk (below_step (by repeat (first | (with_reducible first | exact HB.out | apply below_alloc | apply pw_below_drewN | apply below_drew1 | refine below_set ?_ (Aside0.out (by assumption))) | exact HB.out)) hb); (try clear hb); (try clear hb2); (try clear hk); (try clear hi)))
            go_meet
            case rel => exact ⟨_, (!t293), (by first | rfl | (simp; done) | (simp [*]; done)), H', ⟨by have := HK1.out; have := HJ38.out; have := HJ46.out; first | omega | exact Nat.le_refl _⟩, BK271, BK272, BK283, BK287, ⟨by repeat (first | (with_reducible first | exact HB.out | apply below_alloc | apply pw_below_drewN | apply below_drew1 | refine below_set ?_ (Aside0.out (by assumption))) | exact HB.out)⟩⟩
           ·rw [if_neg c50] at H
            have c50b0 : (x14_46 == 0) = false := beq_eq_false_iff_ne.mpr c50
            have c50b1 : (x14_46 != 0) = true := bne_iff_ne.mpr c50
            (first | rw [c50b0] | (simp only [i64_w, i32_w]; rw [c50b0]) | skip)
            have H' := Aside0.mk H
            clear H
            go_wp2
            go_meet
            case rel => exact ⟨_, (false), (by first | rfl | (simp; done) | (simp [*]; done)), H', ⟨by have := HK1.out; have := HJ38.out; have := HJ46.out; first | omega | exact Nat.le_refl _⟩, BK271, BK272, BK283, BK287, ⟨by repeat (first | (with_reducible first | exact HB.out | apply below_alloc | apply pw_below_drewN | apply below_drew1 | refine below_set ?_ (Aside0.out (by assumption))) | exact HB.out)⟩⟩
          case rest => as_aux_lemma =>
           clear HC49
           try clear c1; try clear c2; try clear p2; try clear q2; try clear hx2; try clear c3; try clear c4; try clear c4b0; try clear c4b1; try clear c5; try clear p6; try clear c9; try clear c15; try clear c17; try clear c22; try clear c23; try clear c24; try clear c25; try clear p28; try clear q28; try clear hx28; try clear c29; try clear c30; try clear c31; try clear c33; try clear c33b0; try clear c34; try clear c34b0; try clear c35; try clear c35b0; try clear c36; try clear c36b0; try clear c40; try clear c40b0; try clear c40b1; try clear c42; try clear c43; try clear c44; try clear c48; try clear c50; try clear c50b0; try clear c50b1; try clear c52; try clear c53; try clear c54; try clear hcz18_0; try clear hcz18_1; try clear hcz24_0; try clear hcz24_1; try clear hcz25_0; try clear hcz25_1; try clear hcz26_0; try clear hcz26_1; try clear hcz32_0; try clear hcz32_1; try clear hcz45_0; try clear hcz45_1; try clear hcz55_0; try clear hcz55_1; try clear hfz18_0; try clear hfz18_1; try clear hfz24_0; try clear hfz24_1; try clear hfz25_0; try clear hfz25_1; try clear hfz26_0; try clear hfz26_1; try clear hfz32_0; try clear hfz32_1; try clear hfz45_0; try clear hfz45_1; try clear hfz55_0; try clear hfz55_1; try clear hx288_0; try clear hx288_1; try clear hx289_0; try clear hx289_1; try clear p2; try clear p28; try clear p288; try clear p289; try clear p6; try clear q2; try clear q28; try clear q288; try clear q289
           obtain ⟨kq, x72_48, rfl, HA, HJ48, BK271, BK272, BK283, BK287, HB⟩ := hcut
           cases kq with
           | zero => exact absurd HA.out (by simp [acmelaw12_MillBlanks.j3])
           | succ kj48 =>
            have H := HA.out
            clear HA
            simp only [acmelaw12_MillBlanks.j3] at H
            have HC57 := Aside0.mk H
            clear H
            go_upto_if 72 with (fail)
            go_cut [15] (fun v15 wc => ∃ (kq : Nat) (x15_56 : Int), v15 = .int .i64 x15_56 ∧ Aside0 (acmelaw12_MillBlanks.j4 kq t282 t286 t290 x14_46 x15_56 a1_0 a1_1 a2_0 a2_1 t280 t281 t284 t285 = some r) ∧ Aside0 (kq ≤ kj48) ∧ Aside0 (wc.heap[gb271]? = some (.cells #[.int .i64 a1_0, .int .i64 a1_1] 41 (0, 0))) ∧ Aside0 (wc.heap[gb272]? = some (.cells #[.int .i64 a2_0, .int .i64 a2_1] 41 (0, 0))) ∧ Aside0 (wc.heap[gb283]? = some (.cells #[.int .i64 t280, .int .i64 t281] 41 (0, 0))) ∧ Aside0 (wc.heap[gb287]? = some (.cells #[.int .i64 t284, .int .i64 t285] 41 (0, 0))) ∧ Aside0 (Below w.heap.size w wc))
            case first => as_aux_lemma =>
             have H := HC57.out
             clear HC57
             by_cases c58 : x72_48 = true
             ·subst c58
              have H1 : (acmelaw12_MillBlanks.j4 kj48 t282 t286 t290 x14_46 3 a1_0 a1_1 a2_0 a2_1 t280 t281 t284 t285) = some r := by rw [if_pos rfl] at H; exact H
              clear H
              have H := H1
              clear H1
              have H' := Aside0.mk H
              clear H
              go_wp2
              go_meet
              case rel => exact ⟨_, (3), (by first | rfl | (simp; done) | (simp [*]; done)), H', ⟨by have := HK1.out; have := HJ38.out; have := HJ46.out; have := HJ48.out; first | omega | exact Nat.le_refl _⟩, BK271, BK272, BK283, BK287, ⟨by repeat (first | (with_reducible first | exact HB.out | apply below_alloc | apply pw_below_drewN | apply below_drew1 | refine below_set ?_ (Aside0.out (by assumption))) | exact HB.out)⟩⟩
             ·replace c58 := Bool.eq_false_iff.mpr c58
              subst c58
              have H1 : (acmelaw12_MillBlanks.j4 kj48 t282 t286 t290 x14_46 x14_46 a1_0 a1_1 a2_0 a2_1 t280 t281 t284 t285) = some r := by rw [if_neg (show ¬ (false = true) by decide)] at H; exact H
              clear H
              have H := H1
              clear H1
              have H' := Aside0.mk H
              clear H
              go_wp2
              go_meet
              case rel => exact ⟨_, (x14_46), (by first | rfl | (simp; done) | (simp [*]; done)), H', ⟨by have := HK1.out; have := HJ38.out; have := HJ46.out; have := HJ48.out; first | omega | exact Nat.le_refl _⟩, BK271, BK272, BK283, BK287, ⟨by repeat (first | (with_reducible first | exact HB.out | apply below_alloc | apply pw_below_drewN | apply below_drew1 | refine below_set ?_ (Aside0.out (by assumption))) | exact HB.out)⟩⟩
            case rest => as_aux_lemma =>
             clear HC57
             try clear c1; try clear c2; try clear p2; try clear q2; try clear hx2; try clear c3; try clear c4; try clear c4b0; try clear c4b1; try clear c5; try clear p6; try clear c9; try clear c15; try clear c17; try clear c22; try clear c23; try clear c24; try clear c25; try clear p28; try clear q28; try clear hx28; try clear c29; try clear c30; try clear c31; try clear c33; try clear c33b0; try clear c34; try clear c34b0; try clear c35; try clear c35b0; try clear c36; try clear c36b0; try clear c40; try clear c40b0; try clear c40b1; try clear c42; try clear c43; try clear c44; try clear c48; try clear c50; try clear c50b0; try clear c50b1; try clear c52; try clear c53; try clear c54; try clear c58; try clear hcz18_0; try clear hcz18_1; try clear hcz24_0; try clear hcz24_1; try clear hcz25_0; try clear hcz25_1; try clear hcz26_0; try clear hcz26_1; try clear hcz32_0; try clear hcz32_1; try clear hcz45_0; try clear hcz45_1; try clear hcz55_0; try clear hcz55_1; try clear hfz18_0; try clear hfz18_1; try clear hfz24_0; try clear hfz24_1; try clear hfz25_0; try clear hfz25_1; try clear hfz26_0; try clear hfz26_1; try clear hfz32_0; try clear hfz32_1; try clear hfz45_0; try clear hfz45_1; try clear hfz55_0; try clear hfz55_1; try clear hx288_0; try clear hx288_1; try clear hx289_0; try clear hx289_1; try clear p2; try clear p28; try clear p288; try clear p289; try clear p6; try clear q2; try clear q28; try clear q288; try clear q289
             obtain ⟨kq, x15_56, rfl, HA, HJ56, BK271, BK272, BK283, BK287, HB⟩ := hcut
             cases kq with
             | zero => exact absurd HA.out (by simp [acmelaw12_MillBlanks.j4])
             | succ kj56 =>
              have H := HA.out
              clear HA
              simp only [acmelaw12_MillBlanks.j4] at H
              have HC59 := Aside0.mk H
              clear H
              go_upto_region 17 with (fail)
              go_cut [98] (fun v98 wc => ∃ (kq : Nat) (x98_58 : Bool), v98 = .bool x98_58 ∧ Aside0 (acmelaw12_MillBlanks.j5 kq t282 t286 t290 x98_58 a1_0 a1_1 a2_0 a2_1 t280 t281 t284 t285 = some r) ∧ Aside0 (kq ≤ kj56) ∧ Aside0 (wc.heap[gb271]? = some (.cells #[.int .i64 a1_0, .int .i64 a1_1] 41 (0, 0))) ∧ Aside0 (wc.heap[gb272]? = some (.cells #[.int .i64 a2_0, .int .i64 a2_1] 41 (0, 0))) ∧ Aside0 (wc.heap[gb283]? = some (.cells #[.int .i64 t280, .int .i64 t281] 41 (0, 0))) ∧ Aside0 (wc.heap[gb287]? = some (.cells #[.int .i64 t284, .int .i64 t285] 41 (0, 0))) ∧ Aside0 (Below w.heap.size w wc))
              case first => as_aux_lemma =>
               have H := HC59.out
               clear HC59
               by_cases c60 : t282 = x14_46
               ·rw [if_pos c60] at H
                have c60b0 : (t282 == x14_46) = true := beq_iff_eq.mpr c60
                have c60b1 : (t282 != x14_46) = false := bne_eq_false_iff_eq.mpr c60
                clear c60
                (first | rw [c60b0] | (simp only [i64_w, i32_w]; rw [c60b0]) | skip)
                by_cases c61 : t286 = x15_56
                ·rw [if_pos c61] at H
                 have c61b0 : (t286 == x15_56) = true := beq_iff_eq.mpr c61
                 have c61b1 : (t286 != x15_56) = false := bne_eq_false_iff_eq.mpr c61
                 clear c61
                 by_cases c62 : t282 = 0
                 ·rw [if_pos c62] at H
                  have c62b0 : (t282 == 0) = true := beq_iff_eq.mpr c62
                  have c62b1 : (t282 != 0) = false := bne_eq_false_iff_eq.mpr c62
                  clear c62
                  by_cases c63 : t286 = 0
                  ·rw [if_pos c63] at H
                   have c63b0 : (t286 == 0) = true := beq_iff_eq.mpr c63
                   have c63b1 : (t286 != 0) = false := bne_eq_false_iff_eq.mpr c63
                   clear c63
                   have H' := Aside0.mk H
                   clear H
                   go_wp2
                   go_meet
                   case rel => exact ⟨_, (false), (by first | rfl | (simp; done) | (simp [*]; done)), H', ⟨by have := HK1.out; have := HJ38.out; have := HJ46.out; have := HJ48.out; have := HJ56.out; first | omega | exact Nat.le_refl _⟩, BK271, BK272, BK283, BK287, ⟨by repeat (first | (with_reducible first | exact HB.out | apply below_alloc | apply pw_below_drewN | apply below_drew1 | refine below_set ?_ (Aside0.out (by assumption))) | exact HB.out)⟩⟩
                  ·rw [if_neg c63] at H
                   have c63b0 : (t286 == 0) = false := beq_eq_false_iff_ne.mpr c63
                   have c63b1 : (t286 != 0) = true := bne_iff_ne.mpr c63
                   have H' := Aside0.mk H
                   clear H
                   have hnb64 := NB287_271.out
                   have hnc64 := NB271_287.out
                   have hnb65 := NB287_272.out
                   have hnc65 := NB272_287.out
                   have hnb66 := NB287_283.out
                   have hnc66 := NB283_287.out
                   obtain ⟨hcz67_0, hcz67_1⟩ := bc2 BK287.out
                   obtain ⟨hfz67_0, hfz67_1⟩ := bf2 BK287.out
                   go_wp2
                   go_meet
                   case rel => exact ⟨_, ((!(t284 == 0) || (!(t285 == 0)))), (by first | rfl | (simp; done) | (simp [*]; done)), H', ⟨by have := HK1.out; have := HJ38.out; have := HJ46.out; have := HJ48.out; have := HJ56.out; first | omega | exact Nat.le_refl _⟩, BK271, BK272, BK283, BK287, ⟨by repeat (first | (with_reducible first | exact HB.out | apply below_alloc | apply pw_below_drewN | apply below_drew1 | refine below_set ?_ (Aside0.out (by assumption))) | exact HB.out)⟩⟩
                 ·rw [if_neg c62] at H
                  have c62b0 : (t282 == 0) = false := beq_eq_false_iff_ne.mpr c62
                  have c62b1 : (t282 != 0) = true := bne_iff_ne.mpr c62
                  by_cases c68 : (!(t280 == 0) || (!(t281 == 0))) = true
                  ·rw [if_pos c68] at H
                   have c68b0 : (!(t280 == 0) || (!(t281 == 0))) = true := c68
                   clear c68
                   have H' := Aside0.mk H
                   clear H
                   have hnb69 := NB283_271.out
                   have hnc69 := NB271_283.out
                   have hnb70 := NB283_272.out
                   have hnc70 := NB272_283.out
                   have hnb71 := NB283_287.out
                   have hnc71 := NB287_283.out
                   obtain ⟨hcz72_0, hcz72_1⟩ := bc2 BK283.out
                   obtain ⟨hfz72_0, hfz72_1⟩ := bf2 BK283.out
                   go_wp2
                   go_meet
                   case rel => exact ⟨_, (true), (by first | rfl | (simp; done) | (simp [*]; done)), H', ⟨by have := HK1.out; have := HJ38.out; have := HJ46.out; have := HJ48.out; have := HJ56.out; first | omega | exact Nat.le_refl _⟩, BK271, BK272, BK283, BK287, ⟨by repeat (first | (with_reducible first | exact HB.out | apply below_alloc | apply pw_below_drewN | apply below_drew1 | refine below_set ?_ (Aside0.out (by assumption))) | exact HB.out)⟩⟩
                  ·rw [if_neg c68] at H
                   have c68b0 : (!(t280 == 0) || (!(t281 == 0))) = false := by simpa using c68
                   clear c68
                   by_cases c73 : t286 = 0
                   ·rw [if_pos c73] at H
                    have c73b0 : (t286 == 0) = true := beq_iff_eq.mpr c73
                    have c73b1 : (t286 != 0) = false := bne_eq_false_iff_eq.mpr c73
                    clear c73
                    have H' := Aside0.mk H
                    clear H
                    have hnb74 := NB283_271.out
                    have hnc74 := NB271_283.out
                    have hnb75 := NB283_272.out
                    have hnc75 := NB272_283.out
                    have hnb76 := NB283_287.out
                    have hnc76 := NB287_283.out
                    obtain ⟨hcz77_0, hcz77_1⟩ := bc2 BK283.out
                    obtain ⟨hfz77_0, hfz77_1⟩ := bf2 BK283.out
                    go_wp2
                    go_meet
                    case rel => exact ⟨_, (false), (by first | rfl | (simp; done) | (simp [*]; done)), H', ⟨by have := HK1.out; have := HJ38.out; have := HJ46.out; have := HJ48.out; have := HJ56.out; first | omega | exact Nat.le_refl _⟩, BK271, BK272, BK283, BK287, ⟨by repeat (first | (with_reducible first | exact HB.out | apply below_alloc | apply pw_below_drewN | apply below_drew1 | refine below_set ?_ (Aside0.out (by assumption))) | exact HB.out)⟩⟩
                   ·rw [if_neg c73] at H
                    have c73b0 : (t286 == 0) = false := beq_eq_false_iff_ne.mpr c73
                    have c73b1 : (t286 != 0) = true := bne_iff_ne.mpr c73
                    have H' := Aside0.mk H
                    clear H
                    have hnb78 := NB283_271.out
                    have hnc78 := NB271_283.out
                    have hnb79 := NB283_272.out
                    have hnc79 := NB272_283.out
                    have hnb80 := NB283_287.out
                    have hnc80 := NB287_283.out
                    obtain ⟨hcz81_0, hcz81_1⟩ := bc2 BK283.out
                    obtain ⟨hfz81_0, hfz81_1⟩ := bf2 BK283.out
                    have hnb82 := NB287_271.out
                    have hnc82 := NB271_287.out
                    have hnb83 := NB287_272.out
                    have hnc83 := NB272_287.out
                    obtain ⟨hcz84_0, hcz84_1⟩ := bc2 BK287.out
                    obtain ⟨hfz84_0, hfz84_1⟩ := bf2 BK287.out
                    go_wp2
                    go_meet
                    case rel => exact ⟨_, ((!(t284 == 0) || (!(t285 == 0)))), (by first | rfl | (simp; done) | (simp [*]; done)), H', ⟨by have := HK1.out; have := HJ38.out; have := HJ46.out; have := HJ48.out; have := HJ56.out; first | omega | exact Nat.le_refl _⟩, BK271, BK272, BK283, BK287, ⟨by repeat (first | (with_reducible first | exact HB.out | apply below_alloc | apply pw_below_drewN | apply below_drew1 | refine below_set ?_ (Aside0.out (by assumption))) | exact HB.out)⟩⟩
                ·rw [if_neg c61] at H
                 have c61b0 : (t286 == x15_56) = false := beq_eq_false_iff_ne.mpr c61
                 have c61b1 : (t286 != x15_56) = true := bne_iff_ne.mpr c61
                 have H' := Aside0.mk H
                 clear H
                 go_wp2
                 go_meet
                 case rel => exact ⟨_, (true), (by first | rfl | (simp; done) | (simp [*]; done)), H', ⟨by have := HK1.out; have := HJ38.out; have := HJ46.out; have := HJ48.out; have := HJ56.out; first | omega | exact Nat.le_refl _⟩, BK271, BK272, BK283, BK287, ⟨by repeat (first | (with_reducible first | exact HB.out | apply below_alloc | apply pw_below_drewN | apply below_drew1 | refine below_set ?_ (Aside0.out (by assumption))) | exact HB.out)⟩⟩
               ·rw [if_neg c60] at H
                have c60b0 : (t282 == x14_46) = false := beq_eq_false_iff_ne.mpr c60
                have c60b1 : (t282 != x14_46) = true := bne_iff_ne.mpr c60
                (first | rw [c60b0] | (simp only [i64_w, i32_w]; rw [c60b0]) | skip)
                have H' := Aside0.mk H
                clear H
                go_wp2
                go_meet
                case rel => exact ⟨_, (true), (by first | rfl | (simp; done) | (simp [*]; done)), H', ⟨by have := HK1.out; have := HJ38.out; have := HJ46.out; have := HJ48.out; have := HJ56.out; first | omega | exact Nat.le_refl _⟩, BK271, BK272, BK283, BK287, ⟨by repeat (first | (with_reducible first | exact HB.out | apply below_alloc | apply pw_below_drewN | apply below_drew1 | refine below_set ?_ (Aside0.out (by assumption))) | exact HB.out)⟩⟩
              case rest => as_aux_lemma =>
               clear HC59
               try clear c1; try clear c2; try clear p2; try clear q2; try clear hx2; try clear c3; try clear c4; try clear c4b0; try clear c4b1; try clear c5; try clear c6; try clear p6; try clear c7; try clear c8; try clear c9; try clear c15; try clear c17; try clear c22; try clear c23; try clear c24; try clear c25; try clear p28; try clear q28; try clear hx28; try clear c29; try clear c30; try clear c31; try clear c33; try clear c33b0; try clear c34; try clear c34b0; try clear c35; try clear c35b0; try clear c36; try clear c36b0; try clear c40; try clear c40b0; try clear c40b1; try clear c42; try clear c43; try clear c44; try clear c48; try clear c50; try clear c50b0; try clear c50b1; try clear c52; try clear c53; try clear c54; try clear c58; try clear c60; try clear c60b0; try clear c60b1; try clear c61; try clear c61b0; try clear c61b1; try clear c62; try clear c62b0; try clear c62b1; try clear c63; try clear c63b0; try clear c63b1; try clear c64; try clear c65; try clear c66; try clear c68; try clear c68b0; try clear c69; try clear c70; try clear c71; try clear c73; try clear c73b0; try clear c73b1; try clear c74; try clear c75; try clear c76; try clear c78; try clear c79; try clear c80; try clear c82; try clear c83; try clear hcz18_0; try clear hcz18_1; try clear hcz24_0; try clear hcz24_1; try clear hcz25_0; try clear hcz25_1; try clear hcz26_0; try clear hcz26_1; try clear hcz32_0; try clear hcz32_1; try clear hcz45_0; try clear hcz45_1; try clear hcz55_0; try clear hcz55_1; try clear hcz67_0; try clear hcz67_1; try clear hcz72_0; try clear hcz72_1; try clear hcz77_0; try clear hcz77_1; try clear hcz81_0; try clear hcz81_1; try clear hcz84_0; try clear hcz84_1; try clear hfz18_0; try clear hfz18_1; try clear hfz24_0; try clear hfz24_1; try clear hfz25_0; try clear hfz25_1; try clear hfz26_0; try clear hfz26_1; try clear hfz32_0; try clear hfz32_1; try clear hfz45_0; try clear hfz45_1; try clear hfz55_0; try clear hfz55_1; try clear hfz67_0; try clear hfz67_1; try clear hfz72_0; try clear hfz72_1; try clear hfz77_0; try clear hfz77_1; try clear hfz81_0; try clear hfz81_1; try clear hfz84_0; try clear hfz84_1; try clear hx288_0; try clear hx288_1; try clear hx289_0; try clear hx289_1; try clear p2; try clear p28; try clear p288; try clear p289; try clear p6; try clear q2; try clear q28; try clear q288; try clear q289
               obtain ⟨kq, x98_58, rfl, HA, HJ58, BK271, BK272, BK283, BK287, HB⟩ := hcut
               cases kq with
               | zero => exact absurd HA.out (by simp [acmelaw12_MillBlanks.j5])
               | succ kj58 =>
                have H := HA.out
                clear HA
                simp only [acmelaw12_MillBlanks.j5] at H
                by_cases c85 : x98_58 = true
                ·subst c85
                 have H1 : (none) = some r := by rw [if_pos rfl] at H; exact H
                 clear H
                 have H := H1
                 clear H1
                 exact absurd H (by simp)
                ·replace c85 := Bool.eq_false_iff.mpr c85
                 subst c85
                 have H1 : (if t282 = 0 then (if t280 < 0 then (none) else (if (wrap64 (a1_1 * a1_1)) = 0 then (none) else (if t280 > (wrap64 (Int.tdiv t290 (wrap64 (a1_1 * a1_1)))) then (none) else (if (wrap64 ((wrap64 (t280 + 1)) * (wrap64 (a1_1 * a1_1)))) ≤ t290 then (none) else (if t281 < 1 then (none) else (if (wrap64 (a1_0 * a1_0)) = 0 then (none) else (if t281 > (wrap64 ((wrap64 (Int.tdiv t290 (wrap64 (a1_0 * a1_0)))) + 1)) then (none) else (if (wrap64 (t281 * (wrap64 (a1_0 * a1_0)))) < t290 then (none) else (if (wrap64 ((wrap64 (t281 - 1)) * (wrap64 (a1_0 * a1_0)))) ≥ t290 then (none) else (acmelaw12_MillBlanks.j6 kj58 t286 t290 a1_0 a1_1 a2_0 a2_1 t284 t285)))))))))) else (acmelaw12_MillBlanks.j6 kj58 t286 t290 a1_0 a1_1 a2_0 a2_1 t284 t285)) = some r := by rw [if_neg (show ¬ (false = true) by decide)] at H; exact H
                 clear H
                 have H := H1
                 clear H1
                 have HC86 := Aside0.mk H
                 clear H
                 go_upto_if 100 with (fail)
                 go_cut [] (fun wc => ∃ (kq : Nat), Aside0 (acmelaw12_MillBlanks.j6 kq t286 t290 a1_0 a1_1 a2_0 a2_1 t284 t285 = some r) ∧ Aside0 (kq ≤ kj58) ∧ Aside0 (wc.heap[gb271]? = some (.cells #[.int .i64 a1_0, .int .i64 a1_1] 41 (0, 0))) ∧ Aside0 (wc.heap[gb272]? = some (.cells #[.int .i64 a2_0, .int .i64 a2_1] 41 (0, 0))) ∧ Aside0 (wc.heap[gb283]? = some (.cells #[.int .i64 t280, .int .i64 t281] 41 (0, 0))) ∧ Aside0 (wc.heap[gb287]? = some (.cells #[.int .i64 t284, .int .i64 t285] 41 (0, 0))) ∧ Aside0 (Below w.heap.size w wc))
                 case first => as_aux_lemma =>
                  have H := HC86.out
                  clear HC86
                  by_cases c87 : t282 = 0
                  ·rw [if_pos c87] at H
                   have c87b0 : (t282 == 0) = true := beq_iff_eq.mpr c87
                   have c87b1 : (t282 != 0) = false := bne_eq_false_iff_eq.mpr c87
                   clear c87
                   (first | rw [c87b0] | (simp only [i64_w, i32_w]; rw [c87b0]) | skip)
                   by_cases c88 : t280 < 0
                   ·rw [if_pos c88] at H
                    have c88b0 : decide (t280 < 0) = true := decide_eq_true c88
                    clear c88
                    exact absurd H (by simp)
                   ·rw [if_neg c88] at H
                    have c88b0 : decide (t280 < 0) = false := decide_eq_false c88
                    clear c88
                    by_cases c89 : (wrap64 (a1_1 * a1_1)) = 0
                    ·rw [if_pos c89] at H
                     exact absurd H (by simp)
                    ·rw [if_neg c89] at H
                     have c89b0 : ((wrap64 (a1_1 * a1_1)) == 0) = false := beq_eq_false_iff_ne.mpr c89
                     have c89b1 : ((wrap64 (a1_1 * a1_1)) != 0) = true := bne_iff_ne.mpr c89
                     by_cases c90 : t280 > (wrap64 (Int.tdiv t290 (wrap64 (a1_1 * a1_1))))
                     ·rw [if_pos c90] at H
                      have c90b0 : decide ((wrap64 (Int.tdiv t290 (wrap64 (a1_1 * a1_1)))) < t280) = true := decide_eq_true c90
                      clear c90
                      exact absurd H (by simp)
                     ·rw [if_neg c90] at H
                      have c90b0 : decide ((wrap64 (Int.tdiv t290 (wrap64 (a1_1 * a1_1)))) < t280) = false := decide_eq_false c90
                      clear c90
                      by_cases c91 : (wrap64 ((wrap64 (t280 + 1)) * (wrap64 (a1_1 * a1_1)))) ≤ t290
                      ·rw [if_pos c91] at H
                       have c91b0 : decide ((wrap64 ((wrap64 (t280 + 1)) * (wrap64 (a1_1 * a1_1)))) ≤ t290) = true := decide_eq_true c91
                       clear c91
                       exact absurd H (by simp)
                      ·rw [if_neg c91] at H
                       have c91b0 : decide ((wrap64 ((wrap64 (t280 + 1)) * (wrap64 (a1_1 * a1_1)))) ≤ t290) = false := decide_eq_false c91
                       clear c91
                       by_cases c92 : t281 < 1
                       ·rw [if_pos c92] at H
                        have c92b0 : decide (t281 < 1) = true := decide_eq_true c92
                        clear c92
                        exact absurd H (by simp)
                       ·rw [if_neg c92] at H
                        have c92b0 : decide (t281 < 1) = false := decide_eq_false c92
                        clear c92
                        by_cases c93 : (wrap64 (a1_0 * a1_0)) = 0
                        ·rw [if_pos c93] at H
                         exact absurd H (by simp)
                        ·rw [if_neg c93] at H
                         have c93b0 : ((wrap64 (a1_0 * a1_0)) == 0) = false := beq_eq_false_iff_ne.mpr c93
                         have c93b1 : ((wrap64 (a1_0 * a1_0)) != 0) = true := bne_iff_ne.mpr c93
                         by_cases c94 : t281 > (wrap64 ((wrap64 (Int.tdiv t290 (wrap64 (a1_0 * a1_0)))) + 1))
                         ·rw [if_pos c94] at H
                          have c94b0 : decide ((wrap64 ((wrap64 (Int.tdiv t290 (wrap64 (a1_0 * a1_0)))) + 1)) < t281) = true := decide_eq_true c94
                          clear c94
                          exact absurd H (by simp)
                         ·rw [if_neg c94] at H
                          have c94b0 : decide ((wrap64 ((wrap64 (Int.tdiv t290 (wrap64 (a1_0 * a1_0)))) + 1)) < t281) = false := decide_eq_false c94
                          clear c94
                          by_cases c95 : (wrap64 (t281 * (wrap64 (a1_0 * a1_0)))) < t290
                          ·rw [if_pos c95] at H
                           have c95b0 : decide ((wrap64 (t281 * (wrap64 (a1_0 * a1_0)))) < t290) = true := decide_eq_true c95
                           clear c95
                           exact absurd H (by simp)
                          ·rw [if_neg c95] at H
                           have c95b0 : decide ((wrap64 (t281 * (wrap64 (a1_0 * a1_0)))) < t290) = false := decide_eq_false c95
                           clear c95
                           by_cases c96 : (wrap64 ((wrap64 (t281 - 1)) * (wrap64 (a1_0 * a1_0)))) ≥ t290
                           ·rw [if_pos c96] at H
                            exact absurd H (by simp)
                           ·rw [if_neg c96] at H
                            have c96b0 : decide (t290 ≤ (wrap64 ((wrap64 (t281 - 1)) * (wrap64 (a1_0 * a1_0))))) = false := decide_eq_false c96
                            clear c96
                            have H' := Aside0.mk H
                            clear H
                            try go_wp2
                            have n0_ := Aside0.mk (blk_drew BK271.out)
                            have n1_ := Aside0.mk (blk_drew BK272.out)
                            have n2_ := Aside0.mk (blk_drew BK283.out)
                            have n3_ := Aside0.mk (blk_drew BK287.out)
                            have n4_ := Aside0.mk (below_drew1 HB.out)
                            clear BK271
                            clear BK272
                            clear BK283
                            clear BK287
                            clear HB
                            have BK271 := n0_
                            have BK272 := n1_
                            have BK283 := n2_
                            have BK287 := n3_
                            have HB := n4_
                            clear n0_ n1_ n2_ n3_ n4_
                            refine start_ (n := 12) (S := fun w' => w'.cell? ⟨gb271, 0, none⟩ = some (.int .i64 a1_0) ∧ w'.cell? ⟨gb271, 1, none⟩ = some (.int .i64 a1_1)) (ds := []) #[false, false, false, false, false, false, false, false, false, false, false, false] (by kernel_rfl) rfl rfl ⟨(blk_cell BK271.out 0).trans rfl, (blk_cell BK271.out 1).trans rfl⟩ (fun hHeld => ?_); refine with_tabW acmelaw12_MillBlanks.tab20 acmelaw12_MillBlanks.bits20 (fun HT_ HW_ => ?_)
                            generalize wc.drew = w97 at BK271 BK272 BK283 BK287 HB hHeld ⊢
                            refine pure_ (i := 0) (N := some 101) (v := ?_) (a' := ?_) #[true, false, false, false, false, false, false, false, false, false, false, false] rfl rfl (any_of HT_.out (by kernel_rfl)) (fun _ _ _ h => h) (Or.inl ⟨by rfl, ?_⟩) ?_ ?_
                            rotate_left
                            ·intro w'
                             go_simp
                             with_reducible rfl
                            rotate_left
                            ·simp only [Act.put, List.setIfInBounds_toArray, List.set_cons_zero, List.set_cons_succ, i64_w, i32_w]
                             rfl
                            refine pure_ (i := 2) (N := some 103) (v := ?_) (a' := ?_) #[true, false, true, false, false, false, false, false, false, false, false, false] rfl rfl (any_of HT_.out (by kernel_rfl)) (fun _ _ _ h => h) (Or.inl ⟨by rfl, ?_⟩) ?_ ?_
                            rotate_left
                            ·intro w'
                             go_simp
                             with_reducible rfl
                            rotate_left
                            ·simp only [Act.put, List.setIfInBounds_toArray, List.set_cons_zero, List.set_cons_succ, i64_w, i32_w]
                             rfl
                            refine pure_ (i := 5) (N := some 106) (v := ?_) (a' := ?_) #[true, false, true, false, false, true, false, false, false, false, false, false] rfl rfl (any_of HT_.out (by kernel_rfl)) (fun _ _ _ h => h) (Or.inl ⟨by rfl, ?_⟩) ?_ ?_
                            rotate_left
                            ·intro w'
                             go_simp
                             with_reducible rfl
                            rotate_left
                            ·simp only [Act.put, List.setIfInBounds_toArray, List.set_cons_zero, List.set_cons_succ, i64_w, i32_w]
                             rfl
                            refine pure_ (i := 7) (N := some 108) (v := ?_) (a' := ?_) #[true, false, true, false, false, true, false, true, false, false, false, false] rfl rfl (any_of HT_.out (by kernel_rfl)) (fun _ _ _ h => h) (Or.inl ⟨by rfl, ?_⟩) ?_ ?_
                            rotate_left
                            ·intro w'
                             go_simp
                             with_reducible rfl
                            rotate_left
                            ·simp only [Act.put, List.setIfInBounds_toArray, List.set_cons_zero, List.set_cons_succ, i64_w, i32_w]
                             rfl
                            refine take_ (i := 1) (N := some 102) (v := ?_) (a' := ?_) #[true, true, true, false, false, true, false, true, false, false, false, false] rfl rfl (take_ofW HT_.out HW_.out (by kernel_rfl)) (fun _ _ _ h => h) (Or.inl ⟨by rfl, ?_⟩) hHeld ?_ ?_
                            rotate_left
                            ·rintro w' ⟨s0, s1⟩
                             go_simp
                             with_reducible rfl
                            rotate_left
                            ·simp only [Act.put, List.setIfInBounds_toArray, List.set_cons_zero, List.set_cons_succ, i64_w, i32_w]
                             rfl
                            refine take_ (i := 3) (N := some 104) (v := ?_) (a' := ?_) #[true, true, true, true, false, true, false, true, false, false, false, false] rfl rfl (take_ofW HT_.out HW_.out (by kernel_rfl)) (fun _ _ _ h => h) (Or.inl ⟨by rfl, ?_⟩) hHeld ?_ ?_
                            rotate_left
                            ·rintro w' ⟨s0, s1⟩
                             go_simp
                             with_reducible rfl
                            rotate_left
                            ·simp only [Act.put, List.setIfInBounds_toArray, List.set_cons_zero, List.set_cons_succ, i64_w, i32_w]
                             rfl
                            refine pure_ (i := 4) (N := some 105) (v := ?_) (a' := ?_) #[true, true, true, true, true, true, false, true, false, false, false, false] rfl rfl (any_of HT_.out (by kernel_rfl)) (fun _ _ _ h => h) (Or.inl ⟨by rfl, ?_⟩) ?_ ?_
                            rotate_left
                            ·intro w'
                             go_simp
                             with_reducible rfl
                            rotate_left
                            ·simp only [Act.put, List.setIfInBounds_toArray, List.set_cons_zero, List.set_cons_succ, i64_w, i32_w]
                             rfl
                            refine pure_ (i := 10) (N := some 16) (v := ?_) (a' := ?_) #[true, true, true, true, true, true, false, true, false, false, true, false] rfl rfl (any_of HT_.out (by kernel_rfl)) (fun _ _ _ h => h) (Or.inl ⟨by rfl, ?_⟩) ?_ ?_
                            rotate_left
                            ·intro w'
                             go_simp
                             with_reducible rfl
                            rotate_left
                            ·simp only [Act.put, List.setIfInBounds_toArray, List.set_cons_zero, List.set_cons_succ, i64_w, i32_w]
                             rfl
                            refine take_ (i := 6) (N := some 107) (v := ?_) (a' := ?_) #[true, true, true, true, true, true, true, true, false, false, true, false] rfl rfl (take_ofW HT_.out HW_.out (by kernel_rfl)) (fun _ _ _ h => h) (Or.inl ⟨by rfl, ?_⟩) hHeld ?_ ?_
                            rotate_left
                            ·rintro w' ⟨s0, s1⟩
                             go_simp
                             with_reducible rfl
                            rotate_left
                            ·simp only [Act.put, List.setIfInBounds_toArray, List.set_cons_zero, List.set_cons_succ, i64_w, i32_w]
                             rfl
                            refine take_ (i := 8) (N := some 109) (v := ?_) (a' := ?_) #[true, true, true, true, true, true, true, true, true, false, true, false] rfl rfl (take_ofW HT_.out HW_.out (by kernel_rfl)) (fun _ _ _ h => h) (Or.inl ⟨by rfl, ?_⟩) hHeld ?_ ?_
                            rotate_left
                            ·rintro w' ⟨s0, s1⟩
                             go_simp
                             with_reducible rfl
                            rotate_left
                            ·simp only [Act.put, List.setIfInBounds_toArray, List.set_cons_zero, List.set_cons_succ, i64_w, i32_w]
                             rfl
                            refine pure_ (i := 9) (N := some 110) (v := ?_) (a' := ?_) #[true, true, true, true, true, true, true, true, true, true, true, false] rfl rfl (any_of HT_.out (by kernel_rfl)) (fun _ _ _ h => h) (Or.inl ⟨by rfl, ?_⟩) ?_ ?_
                            rotate_left
                            ·intro w'
                             go_simp
                             with_reducible rfl
                            rotate_left
                            ·simp only [Act.put, List.setIfInBounds_toArray, List.set_cons_zero, List.set_cons_succ, i64_w, i32_w]
                             rfl
                            refine pure_ (i := 11) (N := some 17) (v := ?_) (a' := ?_) #[true, true, true, true, true, true, true, true, true, true, true, true] rfl rfl (any_of HT_.out (by kernel_rfl)) (fun _ _ _ h => h) (Or.inl ⟨by rfl, ?_⟩) ?_ ?_
                            rotate_left
                            ·intro w'
                             go_simp
                             with_reducible rfl
                            rotate_left
                            ·simp only [Act.put, List.setIfInBounds_toArray, List.set_cons_zero, List.set_cons_succ, i64_w, i32_w]
                             rfl
                            refine done_ (done_of HT_.out (by kernel_rfl)) ?_
                            try go_wp2
                            have n0_ := Aside0.mk (blk_drew BK271.out)
                            have n1_ := Aside0.mk (blk_drew BK272.out)
                            have n2_ := Aside0.mk (blk_drew BK283.out)
                            have n3_ := Aside0.mk (blk_drew BK287.out)
                            have n4_ := Aside0.mk (below_drew1 HB.out)
                            clear BK271
                            clear BK272
                            clear BK283
                            clear BK287
                            clear HB
                            have BK271 := n0_
                            have BK272 := n1_
                            have BK283 := n2_
                            have BK287 := n3_
                            have HB := n4_
                            clear n0_ n1_ n2_ n3_ n4_
                            refine start_ (n := 51) (S := fun w' => w'.cell? ⟨gb283, 0, none⟩ = some (.int .i64 t280) ∧ w'.cell? ⟨gb283, 1, none⟩ = some (.int .i64 t281)) (ds := []) #[false, false, false, false, false, false, false, false, false, false, false, false, false, false, false, false, false, false, false, false, false, false, false, false, false, false, false, false, false, false, false, false, false, false, false, false, false, false, false, false, false, false, false, false, false, false, false, false, false, false, false] (by kernel_rfl) rfl rfl ⟨(blk_cell BK283.out 0).trans rfl, (blk_cell BK283.out 1).trans rfl⟩ (fun hHeld => ?_); refine with_tabW acmelaw12_MillBlanks.tab21 acmelaw12_MillBlanks.bits21 (fun HT_ HW_ => ?_)
                            generalize w97.drew = w98 at BK271 BK272 BK283 BK287 HB hHeld ⊢
                            refine pure_ (i := 0) (N := some 111) (v := ?_) (a' := ?_) #[true, false, false, false, false, false, false, false, false, false, false, false, false, false, false, false, false, false, false, false, false, false, false, false, false, false, false, false, false, false, false, false, false, false, false, false, false, false, false, false, false, false, false, false, false, false, false, false, false, false, false] rfl rfl (any_of HT_.out (by kernel_rfl)) (fun _ _ _ h => h) (Or.inl ⟨by rfl, ?_⟩) ?_ ?_
                            rotate_left
                            ·intro w'
                             go_simp
                             with_reducible rfl
                            rotate_left
                            ·simp only [Act.put, List.setIfInBounds_toArray, List.set_cons_zero, List.set_cons_succ, i64_w, i32_w]
                             rfl
                            refine take_ (i := 1) (N := some 112) (v := ?_) (a' := ?_) #[true, true, false, false, false, false, false, false, false, false, false, false, false, false, false, false, false, false, false, false, false, false, false, false, false, false, false, false, false, false, false, false, false, false, false, false, false, false, false, false, false, false, false, false, false, false, false, false, false, false, false] rfl rfl (take_ofW HT_.out HW_.out (by kernel_rfl)) (fun _ _ _ h => h) (Or.inl ⟨by rfl, ?_⟩) hHeld ?_ ?_
                            rotate_left
                            ·rintro w' ⟨s0, s1⟩
                             go_simp
                             with_reducible rfl
                            rotate_left
                            ·simp only [Act.put, List.setIfInBounds_toArray, List.set_cons_zero, List.set_cons_succ, i64_w, i32_w]
                             rfl
                            refine pure_ (i := 2) (N := some 113) (v := ?_) (a' := ?_) #[true, true, true, false, false, false, false, false, false, false, false, false, false, false, false, false, false, false, false, false, false, false, false, false, false, false, false, false, false, false, false, false, false, false, false, false, false, false, false, false, false, false, false, false, false, false, false, false, false, false, false] rfl rfl (any_of HT_.out (by kernel_rfl)) (fun _ _ _ h => h) (Or.inl ⟨by rfl, ?_⟩) ?_ ?_
                            rotate_left
                            ·intro w'
                             go_simp
                             with_reducible rfl
                            rotate_left
                            ·simp only [Act.put, List.setIfInBounds_toArray, List.set_cons_zero, List.set_cons_succ, i64_w, i32_w]
                             rfl
                            refine pure_ (i := 3) (N := some 114) (v := ?_) (a' := ?_) #[true, true, true, true, false, false, false, false, false, false, false, false, false, false, false, false, false, false, false, false, false, false, false, false, false, false, false, false, false, false, false, false, false, false, false, false, false, false, false, false, false, false, false, false, false, false, false, false, false, false, false] rfl rfl (any_of HT_.out (by kernel_rfl)) (fun _ _ _ h => h) (Or.inl ⟨by rfl, ?_⟩) ?_ ?_
                            rotate_left
                            ·intro w'
                             go_simp
                             with_reducible rfl
                            rotate_left
                            ·simp only [Act.put, List.setIfInBounds_toArray, List.set_cons_zero, List.set_cons_succ, i64_w, i32_w]
                             rfl
                            refine pure_ (i := 4) (N := some 115) (v := ?_) (a' := ?_) #[true, true, true, true, true, false, false, false, false, false, false, false, false, false, false, false, false, false, false, false, false, false, false, false, false, false, false, false, false, false, false, false, false, false, false, false, false, false, false, false, false, false, false, false, false, false, false, false, false, false, false] rfl rfl (any_of HT_.out (by kernel_rfl)) (fun _ _ _ h => h) (Or.inl ⟨by rfl, ?_⟩) ?_ ?_
                            rotate_left
                            ·intro w'
                             go_simp
                             with_reducible rfl
                            rotate_left
                            ·simp only [Act.put, List.setIfInBounds_toArray, List.set_cons_zero, List.set_cons_succ, i64_w, i32_w]
                             rfl
                            refine pure_ (i := 6) (N := some 117) (v := ?_) (a' := ?_) #[true, true, true, true, true, false, true, false, false, false, false, false, false, false, false, false, false, false, false, false, false, false, false, false, false, false, false, false, false, false, false, false, false, false, false, false, false, false, false, false, false, false, false, false, false, false, false, false, false, false, false] rfl rfl (any_of HT_.out (by kernel_rfl)) (fun _ _ _ h => h) (Or.inl ⟨by rfl, ?_⟩) ?_ ?_
                            rotate_left
                            ·intro w'
                             go_simp
                             with_reducible rfl
                            rotate_left
                            ·simp only [Act.put, List.setIfInBounds_toArray, List.set_cons_zero, List.set_cons_succ, i64_w, i32_w]
                             rfl
                            refine pure_ (i := 7) (N := some 118) (v := ?_) (a' := ?_) #[true, true, true, true, true, false, true, true, false, false, false, false, false, false, false, false, false, false, false, false, false, false, false, false, false, false, false, false, false, false, false, false, false, false, false, false, false, false, false, false, false, false, false, false, false, false, false, false, false, false, false] rfl rfl (any_of HT_.out (by kernel_rfl)) (fun _ _ _ h => h) (Or.inl ⟨by rfl, ?_⟩) ?_ ?_
                            rotate_left
                            ·intro w'
                             go_simp
                             with_reducible rfl
                            rotate_left
                            ·simp only [Act.put, List.setIfInBounds_toArray, List.set_cons_zero, List.set_cons_succ, i64_w, i32_w]
                             rfl
                            refine pure_ (i := 8) (N := some 119) (v := ?_) (a' := ?_) #[true, true, true, true, true, false, true, true, true, false, false, false, false, false, false, false, false, false, false, false, false, false, false, false, false, false, false, false, false, false, false, false, false, false, false, false, false, false, false, false, false, false, false, false, false, false, false, false, false, false, false] rfl rfl (any_of HT_.out (by kernel_rfl)) (fun _ _ _ h => h) (Or.inl ⟨by rfl, ?_⟩) ?_ ?_
                            rotate_left
                            ·intro w'
                             go_simp
                             with_reducible rfl
                            rotate_left
                            ·simp only [Act.put, List.setIfInBounds_toArray, List.set_cons_zero, List.set_cons_succ, i64_w, i32_w]
                             rfl
                            refine take_ (i := 5) (N := some 116) (v := ?_) (a' := ?_) #[true, true, true, true, true, true, true, true, true, false, false, false, false, false, false, false, false, false, false, false, false, false, false, false, false, false, false, false, false, false, false, false, false, false, false, false, false, false, false, false, false, false, false, false, false, false, false, false, false, false, false] rfl rfl (take_ofW HT_.out HW_.out (by kernel_rfl)) (fun _ _ _ h => h) (Or.inl ⟨by rfl, ?_⟩) hHeld ?_ ?_
                            rotate_left
                            ·rintro w' ⟨s0, s1⟩
                             go_simp
                             with_reducible rfl
                            rotate_left
                            ·simp only [Act.put, List.setIfInBounds_toArray, List.set_cons_zero, List.set_cons_succ, i64_w, i32_w]
                             rfl
                            refine pure_ (i := 9) (N := some 120) (v := ?_) (a' := ?_) #[true, true, true, true, true, true, true, true, true, true, false, false, false, false, false, false, false, false, false, false, false, false, false, false, false, false, false, false, false, false, false, false, false, false, false, false, false, false, false, false, false, false, false, false, false, false, false, false, false, false, false] rfl rfl (any_of HT_.out (by kernel_rfl)) (fun _ _ _ h => h) (Or.inl ⟨by rfl, ?_⟩) ?_ ?_
                            rotate_left
                            ·intro w'
                             go_simp
                             with_reducible rfl
                            rotate_left
                            ·simp only [Act.put, List.setIfInBounds_toArray, List.set_cons_zero, List.set_cons_succ, i64_w, i32_w]
                             rfl
                            refine pure_ (i := 10) (N := some 121) (v := ?_) (a' := ?_) #[true, true, true, true, true, true, true, true, true, true, true, false, false, false, false, false, false, false, false, false, false, false, false, false, false, false, false, false, false, false, false, false, false, false, false, false, false, false, false, false, false, false, false, false, false, false, false, false, false, false, false] rfl rfl (any_of HT_.out (by kernel_rfl)) (fun _ _ _ h => h) (Or.inl ⟨by rfl, ?_⟩) ?_ ?_
                            rotate_left
                            ·intro w'
                             go_simp
                             with_reducible rfl
                            rotate_left
                            ·simp only [Act.put, List.setIfInBounds_toArray, List.set_cons_zero, List.set_cons_succ, i64_w, i32_w]
                             rfl
                            refine pure_ (i := 11) (N := some 122) (v := ?_) (a' := ?_) #[true, true, true, true, true, true, true, true, true, true, true, true, false, false, false, false, false, false, false, false, false, false, false, false, false, false, false, false, false, false, false, false, false, false, false, false, false, false, false, false, false, false, false, false, false, false, false, false, false, false, false] rfl rfl (any_of HT_.out (by kernel_rfl)) (fun _ _ _ h => h) (Or.inl ⟨by rfl, ?_⟩) ?_ ?_
                            rotate_left
                            ·intro w'
                             go_simp
                             with_reducible rfl
                            rotate_left
                            ·simp only [Act.put, List.setIfInBounds_toArray, List.set_cons_zero, List.set_cons_succ, i64_w, i32_w]
                             rfl
                            refine pure_ (i := 12) (N := some 123) (v := ?_) (a' := ?_) #[true, true, true, true, true, true, true, true, true, true, true, true, true, false, false, false, false, false, false, false, false, false, false, false, false, false, false, false, false, false, false, false, false, false, false, false, false, false, false, false, false, false, false, false, false, false, false, false, false, false, false] rfl rfl (any_of HT_.out (by kernel_rfl)) (fun _ _ _ h => h) (Or.inl ⟨by rfl, ?_⟩) ?_ ?_
                            rotate_left
                            ·intro w'
                             go_simp
                             with_reducible rfl
                            rotate_left
                            ·simp only [Act.put, List.setIfInBounds_toArray, List.set_cons_zero, List.set_cons_succ, i64_w, i32_w]
                             rfl
                            refine pure_ (i := 15) (N := some 126) (v := ?_) (a' := ?_) #[true, true, true, true, true, true, true, true, true, true, true, true, true, false, false, true, false, false, false, false, false, false, false, false, false, false, false, false, false, false, false, false, false, false, false, false, false, false, false, false, false, false, false, false, false, false, false, false, false, false, false] rfl rfl (any_of HT_.out (by kernel_rfl)) (fun _ _ _ h => h) (Or.inl ⟨by rfl, ?_⟩) ?_ ?_
                            rotate_left
                            ·intro w'
                             go_simp
                             with_reducible rfl
                            rotate_left
                            ·simp only [Act.put, List.setIfInBounds_toArray, List.set_cons_zero, List.set_cons_succ, i64_w, i32_w]
                             rfl
                            refine pure_ (i := 17) (N := some 128) (v := ?_) (a' := ?_) #[true, true, true, true, true, true, true, true, true, true, true, true, true, false, false, true, false, true, false, false, false, false, false, false, false, false, false, false, false, false, false, false, false, false, false, false, false, false, false, false, false, false, false, false, false, false, false, false, false, false, false] rfl rfl (any_of HT_.out (by kernel_rfl)) (fun _ _ _ h => h) (Or.inl ⟨by rfl, ?_⟩) ?_ ?_
                            rotate_left
                            ·intro w'
                             go_simp
                             with_reducible rfl
                            rotate_left
                            ·simp only [Act.put, List.setIfInBounds_toArray, List.set_cons_zero, List.set_cons_succ, i64_w, i32_w]
                             rfl
                            refine take_ (i := 13) (N := some 124) (v := ?_) (a' := ?_) #[true, true, true, true, true, true, true, true, true, true, true, true, true, true, false, true, false, true, false, false, false, false, false, false, false, false, false, false, false, false, false, false, false, false, false, false, false, false, false, false, false, false, false, false, false, false, false, false, false, false, false] rfl rfl (take_ofW HT_.out HW_.out (by kernel_rfl)) (fun _ _ _ h => h) (Or.inl ⟨by rfl, ?_⟩) hHeld ?_ ?_
                            rotate_left
                            ·rintro w' ⟨s0, s1⟩
                             go_simp
                             with_reducible rfl
                            rotate_left
                            ·simp only [Act.put, List.setIfInBounds_toArray, List.set_cons_zero, List.set_cons_succ, i64_w, i32_w]
                             rfl
                            refine pure_ (i := 14) (N := some 125) (v := ?_) (a' := ?_) #[true, true, true, true, true, true, true, true, true, true, true, true, true, true, true, true, false, true, false, false, false, false, false, false, false, false, false, false, false, false, false, false, false, false, false, false, false, false, false, false, false, false, false, false, false, false, false, false, false, false, false] rfl rfl (any_of HT_.out (by kernel_rfl)) (fun _ _ _ h => h) (Or.inl ⟨by rfl, ?_⟩) ?_ ?_
                            rotate_left
                            ·intro w'
                             go_simp
                             with_reducible rfl
                            rotate_left
                            ·simp only [Act.put, List.setIfInBounds_toArray, List.set_cons_zero, List.set_cons_succ, i64_w, i32_w]
                             rfl
                            refine pure_ (i := 16) (N := some 127) (v := ?_) (a' := ?_) #[true, true, true, true, true, true, true, true, true, true, true, true, true, true, true, true, true, true, false, false, false, false, false, false, false, false, false, false, false, false, false, false, false, false, false, false, false, false, false, false, false, false, false, false, false, false, false, false, false, false, false] rfl rfl (any_of HT_.out (by kernel_rfl)) (fun _ _ _ h => h) (Or.inl ⟨by rfl, ?_⟩) ?_ ?_
                            rotate_left
                            ·intro w'
                             go_simp
                             with_reducible rfl
                            rotate_left
                            ·simp only [Act.put, List.setIfInBounds_toArray, List.set_cons_zero, List.set_cons_succ, i64_w, i32_w]
                             rfl
                            refine pure_ (i := 18) (N := some 129) (v := ?_) (a' := ?_) #[true, true, true, true, true, true, true, true, true, true, true, true, true, true, true, true, true, true, true, false, false, false, false, false, false, false, false, false, false, false, false, false, false, false, false, false, false, false, false, false, false, false, false, false, false, false, false, false, false, false, false] rfl rfl (any_of HT_.out (by kernel_rfl)) (fun _ _ _ h => h) (Or.inl ⟨by rfl, ?_⟩) ?_ ?_
                            rotate_left
                            ·intro w'
                             go_simp
                             with_reducible rfl
                            rotate_left
                            ·simp only [Act.put, List.setIfInBounds_toArray, List.set_cons_zero, List.set_cons_succ, i64_w, i32_w]
                             rfl
                            refine pure_ (i := 19) (N := some 130) (v := ?_) (a' := ?_) #[true, true, true, true, true, true, true, true, true, true, true, true, true, true, true, true, true, true, true, true, false, false, false, false, false, false, false, false, false, false, false, false, false, false, false, false, false, false, false, false, false, false, false, false, false, false, false, false, false, false, false] rfl rfl (any_of HT_.out (by kernel_rfl)) (fun _ _ _ h => h) (Or.inl ⟨by rfl, ?_⟩) ?_ ?_
                            rotate_left
                            ·intro w'
                             go_simp
                             with_reducible rfl
                            rotate_left
                            ·simp only [Act.put, List.setIfInBounds_toArray, List.set_cons_zero, List.set_cons_succ, i64_w, i32_w]
                             rfl
                            refine pure_ (i := 20) (N := some 131) (v := ?_) (a' := ?_) #[true, true, true, true, true, true, true, true, true, true, true, true, true, true, true, true, true, true, true, true, true, false, false, false, false, false, false, false, false, false, false, false, false, false, false, false, false, false, false, false, false, false, false, false, false, false, false, false, false, false, false] rfl rfl (any_of HT_.out (by kernel_rfl)) (fun _ _ _ h => h) (Or.inl ⟨by rfl, ?_⟩) ?_ ?_
                            rotate_left
                            ·intro w'
                             go_simp
                             with_reducible rfl
                            rotate_left
                            ·simp only [Act.put, List.setIfInBounds_toArray, List.set_cons_zero, List.set_cons_succ, i64_w, i32_w]
                             rfl
                            refine pure_ (i := 21) (N := some 132) (v := ?_) (a' := ?_) #[true, true, true, true, true, true, true, true, true, true, true, true, true, true, true, true, true, true, true, true, true, true, false, false, false, false, false, false, false, false, false, false, false, false, false, false, false, false, false, false, false, false, false, false, false, false, false, false, false, false, false] rfl rfl (any_of HT_.out (by kernel_rfl)) (fun _ _ _ h => h) (Or.inl ⟨by rfl, ?_⟩) ?_ ?_
                            rotate_left
                            ·intro w'
                             go_simp
                             with_reducible rfl
                            rotate_left
                            ·simp only [Act.put, List.setIfInBounds_toArray, List.set_cons_zero, List.set_cons_succ, i64_w, i32_w]
                             rfl
                            refine take_ (i := 22) (N := some 133) (v := ?_) (a' := ?_) #[true, true, true, true, true, true, true, true, true, true, true, true, true, true, true, true, true, true, true, true, true, true, true, false, false, false, false, false, false, false, false, false, false, false, false, false, false, false, false, false, false, false, false, false, false, false, false, false, false, false, false] rfl rfl (take_ofW HT_.out HW_.out (by kernel_rfl)) (fun _ _ _ h => h) (Or.inl ⟨by rfl, ?_⟩) hHeld ?_ ?_
                            rotate_left
                            ·rintro w' ⟨s0, s1⟩
                             go_simp
                             with_reducible rfl
                            rotate_left
                            ·simp only [Act.put, List.setIfInBounds_toArray, List.set_cons_zero, List.set_cons_succ, i64_w, i32_w]
                             rfl
                            refine pure_ (i := 23) (N := some 134) (v := ?_) (a' := ?_) #[true, true, true, true, true, true, true, true, true, true, true, true, true, true, true, true, true, true, true, true, true, true, true, true, false, false, false, false, false, false, false, false, false, false, false, false, false, false, false, false, false, false, false, false, false, false, false, false, false, false, false] rfl rfl (any_of HT_.out (by kernel_rfl)) (fun _ _ _ h => h) (Or.inl ⟨by rfl, ?_⟩) ?_ ?_
                            rotate_left
                            ·intro w'
                             go_simp
                             with_reducible rfl
                            rotate_left
                            ·simp only [Act.put, List.setIfInBounds_toArray, List.set_cons_zero, List.set_cons_succ, i64_w, i32_w]
                             rfl
                            refine pure_ (i := 24) (N := some 135) (v := ?_) (a' := ?_) #[true, true, true, true, true, true, true, true, true, true, true, true, true, true, true, true, true, true, true, true, true, true, true, true, true, false, false, false, false, false, false, false, false, false, false, false, false, false, false, false, false, false, false, false, false, false, false, false, false, false, false] rfl rfl (any_of HT_.out (by kernel_rfl)) (fun _ _ _ h => h) (Or.inl ⟨by rfl, ?_⟩) ?_ ?_
                            rotate_left
                            ·intro w'
                             go_simp
                             with_reducible rfl
                            rotate_left
                            ·simp only [Act.put, List.setIfInBounds_toArray, List.set_cons_zero, List.set_cons_succ, i64_w, i32_w]
                             rfl
                            refine pure_ (i := 25) (N := some 136) (v := ?_) (a' := ?_) #[true, true, true, true, true, true, true, true, true, true, true, true, true, true, true, true, true, true, true, true, true, true, true, true, true, true, false, false, false, false, false, false, false, false, false, false, false, false, false, false, false, false, false, false, false, false, false, false, false, false, false] rfl rfl (any_of HT_.out (by kernel_rfl)) (fun _ _ _ h => h) (Or.inl ⟨by rfl, ?_⟩) ?_ ?_
                            rotate_left
                            ·intro w'
                             go_simp
                             with_reducible rfl
                            rotate_left
                            ·simp only [Act.put, List.setIfInBounds_toArray, List.set_cons_zero, List.set_cons_succ, i64_w, i32_w]
                             rfl
                            refine pure_ (i := 26) (N := some 137) (v := ?_) (a' := ?_) #[true, true, true, true, true, true, true, true, true, true, true, true, true, true, true, true, true, true, true, true, true, true, true, true, true, true, true, false, false, false, false, false, false, false, false, false, false, false, false, false, false, false, false, false, false, false, false, false, false, false, false] rfl rfl (any_of HT_.out (by kernel_rfl)) (fun _ _ _ h => h) (Or.inl ⟨by rfl, ?_⟩) ?_ ?_
                            rotate_left
                            ·intro w'
                             go_simp
                             with_reducible rfl
                            rotate_left
                            ·simp only [Act.put, List.setIfInBounds_toArray, List.set_cons_zero, List.set_cons_succ, i64_w, i32_w]
                             rfl
                            refine pure_ (i := 28) (N := some 139) (v := ?_) (a' := ?_) #[true, true, true, true, true, true, true, true, true, true, true, true, true, true, true, true, true, true, true, true, true, true, true, true, true, true, true, false, true, false, false, false, false, false, false, false, false, false, false, false, false, false, false, false, false, false, false, false, false, false, false] rfl rfl (any_of HT_.out (by kernel_rfl)) (fun _ _ _ h => h) (Or.inl ⟨by rfl, ?_⟩) ?_ ?_
                            rotate_left
                            ·intro w'
                             go_simp
                             with_reducible rfl
                            rotate_left
                            ·simp only [Act.put, List.setIfInBounds_toArray, List.set_cons_zero, List.set_cons_succ, i64_w, i32_w]
                             rfl
                            refine pure_ (i := 29) (N := some 140) (v := ?_) (a' := ?_) #[true, true, true, true, true, true, true, true, true, true, true, true, true, true, true, true, true, true, true, true, true, true, true, true, true, true, true, false, true, true, false, false, false, false, false, false, false, false, false, false, false, false, false, false, false, false, false, false, false, false, false] rfl rfl (any_of HT_.out (by kernel_rfl)) (fun _ _ _ h => h) (Or.inl ⟨by rfl, ?_⟩) ?_ ?_
                            rotate_left
                            ·intro w'
                             go_simp
                             with_reducible rfl
                            rotate_left
                            ·simp only [Act.put, List.setIfInBounds_toArray, List.set_cons_zero, List.set_cons_succ, i64_w, i32_w]
                             rfl
                            refine pure_ (i := 30) (N := some 141) (v := ?_) (a' := ?_) #[true, true, true, true, true, true, true, true, true, true, true, true, true, true, true, true, true, true, true, true, true, true, true, true, true, true, true, false, true, true, true, false, false, false, false, false, false, false, false, false, false, false, false, false, false, false, false, false, false, false, false] rfl rfl (any_of HT_.out (by kernel_rfl)) (fun _ _ _ h => h) (Or.inl ⟨by rfl, ?_⟩) ?_ ?_
                            rotate_left
                            ·intro w'
                             go_simp
                             with_reducible rfl
                            rotate_left
                            ·simp only [Act.put, List.setIfInBounds_toArray, List.set_cons_zero, List.set_cons_succ, i64_w, i32_w]
                             rfl
                            refine pure_ (i := 31) (N := some 142) (v := ?_) (a' := ?_) #[true, true, true, true, true, true, true, true, true, true, true, true, true, true, true, true, true, true, true, true, true, true, true, true, true, true, true, false, true, true, true, true, false, false, false, false, false, false, false, false, false, false, false, false, false, false, false, false, false, false, false] rfl rfl (any_of HT_.out (by kernel_rfl)) (fun _ _ _ h => h) (Or.inl ⟨by rfl, ?_⟩) ?_ ?_
                            rotate_left
                            ·intro w'
                             go_simp
                             with_reducible rfl
                            rotate_left
                            ·simp only [Act.put, List.setIfInBounds_toArray, List.set_cons_zero, List.set_cons_succ, i64_w, i32_w]
                             rfl
                            refine take_ (i := 27) (N := some 138) (v := ?_) (a' := ?_) #[true, true, true, true, true, true, true, true, true, true, true, true, true, true, true, true, true, true, true, true, true, true, true, true, true, true, true, true, true, true, true, true, false, false, false, false, false, false, false, false, false, false, false, false, false, false, false, false, false, false, false] rfl rfl (take_ofW HT_.out HW_.out (by kernel_rfl)) (fun _ _ _ h => h) (Or.inl ⟨by rfl, ?_⟩) hHeld ?_ ?_
                            rotate_left
                            ·rintro w' ⟨s0, s1⟩
                             go_simp
                             with_reducible rfl
                            rotate_left
                            ·simp only [Act.put, List.setIfInBounds_toArray, List.set_cons_zero, List.set_cons_succ, i64_w, i32_w]
                             rfl
                            refine pure_ (i := 32) (N := some 143) (v := ?_) (a' := ?_) #[true, true, true, true, true, true, true, true, true, true, true, true, true, true, true, true, true, true, true, true, true, true, true, true, true, true, true, true, true, true, true, true, true, false, false, false, false, false, false, false, false, false, false, false, false, false, false, false, false, false, false] rfl rfl (any_of HT_.out (by kernel_rfl)) (fun _ _ _ h => h) (Or.inl ⟨by rfl, ?_⟩) ?_ ?_
                            rotate_left
                            ·intro w'
                             go_simp
                             with_reducible rfl
                            rotate_left
                            ·simp only [Act.put, List.setIfInBounds_toArray, List.set_cons_zero, List.set_cons_succ, i64_w, i32_w]
                             rfl
                            refine pure_ (i := 33) (N := some 144) (v := ?_) (a' := ?_) #[true, true, true, true, true, true, true, true, true, true, true, true, true, true, true, true, true, true, true, true, true, true, true, true, true, true, true, true, true, true, true, true, true, true, false, false, false, false, false, false, false, false, false, false, false, false, false, false, false, false, false] rfl rfl (any_of HT_.out (by kernel_rfl)) (fun _ _ _ h => h) (Or.inl ⟨by rfl, ?_⟩) ?_ ?_
                            rotate_left
                            ·intro w'
                             go_simp
                             with_reducible rfl
                            rotate_left
                            ·simp only [Act.put, List.setIfInBounds_toArray, List.set_cons_zero, List.set_cons_succ, i64_w, i32_w]
                             rfl
                            refine pure_ (i := 34) (N := some 145) (v := ?_) (a' := ?_) #[true, true, true, true, true, true, true, true, true, true, true, true, true, true, true, true, true, true, true, true, true, true, true, true, true, true, true, true, true, true, true, true, true, true, true, false, false, false, false, false, false, false, false, false, false, false, false, false, false, false, false] rfl rfl (any_of HT_.out (by kernel_rfl)) (fun _ _ _ h => h) (Or.inl ⟨by rfl, ?_⟩) ?_ ?_
                            rotate_left
                            ·intro w'
                             go_simp
                             with_reducible rfl
                            rotate_left
                            ·simp only [Act.put, List.setIfInBounds_toArray, List.set_cons_zero, List.set_cons_succ, i64_w, i32_w]
                             rfl
                            refine pure_ (i := 35) (N := some 146) (v := ?_) (a' := ?_) #[true, true, true, true, true, true, true, true, true, true, true, true, true, true, true, true, true, true, true, true, true, true, true, true, true, true, true, true, true, true, true, true, true, true, true, true, false, false, false, false, false, false, false, false, false, false, false, false, false, false, false] rfl rfl (any_of HT_.out (by kernel_rfl)) (fun _ _ _ h => h) (Or.inl ⟨by rfl, ?_⟩) ?_ ?_
                            rotate_left
                            ·intro w'
                             go_simp
                             with_reducible rfl
                            rotate_left
                            ·simp only [Act.put, List.setIfInBounds_toArray, List.set_cons_zero, List.set_cons_succ, i64_w, i32_w]
                             rfl
                            refine pure_ (i := 37) (N := some 148) (v := ?_) (a' := ?_) #[true, true, true, true, true, true, true, true, true, true, true, true, true, true, true, true, true, true, true, true, true, true, true, true, true, true, true, true, true, true, true, true, true, true, true, true, false, true, false, false, false, false, false, false, false, false, false, false, false, false, false] rfl rfl (any_of HT_.out (by kernel_rfl)) (fun _ _ _ h => h) (Or.inl ⟨by rfl, ?_⟩) ?_ ?_
                            rotate_left
                            ·intro w'
                             go_simp
                             with_reducible rfl
                            rotate_left
                            ·simp only [Act.put, List.setIfInBounds_toArray, List.set_cons_zero, List.set_cons_succ, i64_w, i32_w]
                             rfl
                            refine pure_ (i := 39) (N := some 150) (v := ?_) (a' := ?_) #[true, true, true, true, true, true, true, true, true, true, true, true, true, true, true, true, true, true, true, true, true, true, true, true, true, true, true, true, true, true, true, true, true, true, true, true, false, true, false, true, false, false, false, false, false, false, false, false, false, false, false] rfl rfl (any_of HT_.out (by kernel_rfl)) (fun _ _ _ h => h) (Or.inl ⟨by rfl, ?_⟩) ?_ ?_
                            rotate_left
                            ·intro w'
                             go_simp
                             with_reducible rfl
                            rotate_left
                            ·simp only [Act.put, List.setIfInBounds_toArray, List.set_cons_zero, List.set_cons_succ, i64_w, i32_w]
                             rfl
                            refine take_ (i := 36) (N := some 147) (v := ?_) (a' := ?_) #[true, true, true, true, true, true, true, true, true, true, true, true, true, true, true, true, true, true, true, true, true, true, true, true, true, true, true, true, true, true, true, true, true, true, true, true, true, true, false, true, false, false, false, false, false, false, false, false, false, false, false] rfl rfl (take_ofW HT_.out HW_.out (by kernel_rfl)) (fun _ _ _ h => h) (Or.inl ⟨by rfl, ?_⟩) hHeld ?_ ?_
                            rotate_left
                            ·rintro w' ⟨s0, s1⟩
                             go_simp
                             with_reducible rfl
                            rotate_left
                            ·simp only [Act.put, List.setIfInBounds_toArray, List.set_cons_zero, List.set_cons_succ, i64_w, i32_w]
                             rfl
                            refine pure_ (i := 38) (N := some 149) (v := ?_) (a' := ?_) #[true, true, true, true, true, true, true, true, true, true, true, true, true, true, true, true, true, true, true, true, true, true, true, true, true, true, true, true, true, true, true, true, true, true, true, true, true, true, true, true, false, false, false, false, false, false, false, false, false, false, false] rfl rfl (any_of HT_.out (by kernel_rfl)) (fun _ _ _ h => h) (Or.inl ⟨by rfl, ?_⟩) ?_ ?_
                            rotate_left
                            ·intro w'
                             go_simp
                             with_reducible rfl
                            rotate_left
                            ·simp only [Act.put, List.setIfInBounds_toArray, List.set_cons_zero, List.set_cons_succ, i64_w, i32_w]
                             rfl
                            refine pure_ (i := 40) (N := some 151) (v := ?_) (a' := ?_) #[true, true, true, true, true, true, true, true, true, true, true, true, true, true, true, true, true, true, true, true, true, true, true, true, true, true, true, true, true, true, true, true, true, true, true, true, true, true, true, true, true, false, false, false, false, false, false, false, false, false, false] rfl rfl (any_of HT_.out (by kernel_rfl)) (fun _ _ _ h => h) (Or.inl ⟨by rfl, ?_⟩) ?_ ?_
                            rotate_left
                            ·intro w'
                             go_simp
                             with_reducible rfl
                            rotate_left
                            ·simp only [Act.put, List.setIfInBounds_toArray, List.set_cons_zero, List.set_cons_succ, i64_w, i32_w]
                             rfl
                            refine pure_ (i := 41) (N := some 152) (v := ?_) (a' := ?_) #[true, true, true, true, true, true, true, true, true, true, true, true, true, true, true, true, true, true, true, true, true, true, true, true, true, true, true, true, true, true, true, true, true, true, true, true, true, true, true, true, true, true, false, false, false, false, false, false, false, false, false] rfl rfl (any_of HT_.out (by kernel_rfl)) (fun _ _ _ h => h) (Or.inl ⟨by rfl, ?_⟩) ?_ ?_
                            rotate_left
                            ·intro w'
                             go_simp
                             with_reducible rfl
                            rotate_left
                            ·simp only [Act.put, List.setIfInBounds_toArray, List.set_cons_zero, List.set_cons_succ, i64_w, i32_w]
                             rfl
                            refine pure_ (i := 42) (N := some 153) (v := ?_) (a' := ?_) #[true, true, true, true, true, true, true, true, true, true, true, true, true, true, true, true, true, true, true, true, true, true, true, true, true, true, true, true, true, true, true, true, true, true, true, true, true, true, true, true, true, true, true, false, false, false, false, false, false, false, false] rfl rfl (any_of HT_.out (by kernel_rfl)) (fun _ _ _ h => h) (Or.inl ⟨by rfl, ?_⟩) ?_ ?_
                            rotate_left
                            ·intro w'
                             go_simp
                             with_reducible rfl
                            rotate_left
                            ·simp only [Act.put, List.setIfInBounds_toArray, List.set_cons_zero, List.set_cons_succ, i64_w, i32_w]
                             rfl
                            refine pure_ (i := 43) (N := some 154) (v := ?_) (a' := ?_) #[true, true, true, true, true, true, true, true, true, true, true, true, true, true, true, true, true, true, true, true, true, true, true, true, true, true, true, true, true, true, true, true, true, true, true, true, true, true, true, true, true, true, true, true, false, false, false, false, false, false, false] rfl rfl (any_of HT_.out (by kernel_rfl)) (fun _ _ _ h => h) (Or.inl ⟨by rfl, ?_⟩) ?_ ?_
                            rotate_left
                            ·intro w'
                             go_simp
                             with_reducible rfl
                            rotate_left
                            ·simp only [Act.put, List.setIfInBounds_toArray, List.set_cons_zero, List.set_cons_succ, i64_w, i32_w]
                             rfl
                            refine pure_ (i := 46) (N := some 157) (v := ?_) (a' := ?_) #[true, true, true, true, true, true, true, true, true, true, true, true, true, true, true, true, true, true, true, true, true, true, true, true, true, true, true, true, true, true, true, true, true, true, true, true, true, true, true, true, true, true, true, true, false, false, true, false, false, false, false] rfl rfl (any_of HT_.out (by kernel_rfl)) (fun _ _ _ h => h) (Or.inl ⟨by rfl, ?_⟩) ?_ ?_
                            rotate_left
                            ·intro w'
                             go_simp
                             with_reducible rfl
                            rotate_left
                            ·simp only [Act.put, List.setIfInBounds_toArray, List.set_cons_zero, List.set_cons_succ, i64_w, i32_w]
                             rfl
                            refine pure_ (i := 48) (N := some 159) (v := ?_) (a' := ?_) #[true, true, true, true, true, true, true, true, true, true, true, true, true, true, true, true, true, true, true, true, true, true, true, true, true, true, true, true, true, true, true, true, true, true, true, true, true, true, true, true, true, true, true, true, false, false, true, false, true, false, false] rfl rfl (any_of HT_.out (by kernel_rfl)) (fun _ _ _ h => h) (Or.inl ⟨by rfl, ?_⟩) ?_ ?_
                            rotate_left
                            ·intro w'
                             go_simp
                             with_reducible rfl
                            rotate_left
                            ·simp only [Act.put, List.setIfInBounds_toArray, List.set_cons_zero, List.set_cons_succ, i64_w, i32_w]
                             rfl
                            refine take_ (i := 44) (N := some 155) (v := ?_) (a' := ?_) #[true, true, true, true, true, true, true, true, true, true, true, true, true, true, true, true, true, true, true, true, true, true, true, true, true, true, true, true, true, true, true, true, true, true, true, true, true, true, true, true, true, true, true, true, true, false, true, false, true, false, false] rfl rfl (take_ofW HT_.out HW_.out (by kernel_rfl)) (fun _ _ _ h => h) (Or.inl ⟨by rfl, ?_⟩) hHeld ?_ ?_
                            rotate_left
                            ·rintro w' ⟨s0, s1⟩
                             go_simp
                             with_reducible rfl
                            rotate_left
                            ·simp only [Act.put, List.setIfInBounds_toArray, List.set_cons_zero, List.set_cons_succ, i64_w, i32_w]
                             rfl
                            refine pure_ (i := 45) (N := some 156) (v := ?_) (a' := ?_) #[true, true, true, true, true, true, true, true, true, true, true, true, true, true, true, true, true, true, true, true, true, true, true, true, true, true, true, true, true, true, true, true, true, true, true, true, true, true, true, true, true, true, true, true, true, true, true, false, true, false, false] rfl rfl (any_of HT_.out (by kernel_rfl)) (fun _ _ _ h => h) (Or.inl ⟨by rfl, ?_⟩) ?_ ?_
                            rotate_left
                            ·intro w'
                             go_simp
                             with_reducible rfl
                            rotate_left
                            ·simp only [Act.put, List.setIfInBounds_toArray, List.set_cons_zero, List.set_cons_succ, i64_w, i32_w]
                             rfl
                            refine pure_ (i := 47) (N := some 158) (v := ?_) (a' := ?_) #[true, true, true, true, true, true, true, true, true, true, true, true, true, true, true, true, true, true, true, true, true, true, true, true, true, true, true, true, true, true, true, true, true, true, true, true, true, true, true, true, true, true, true, true, true, true, true, true, true, false, false] rfl rfl (any_of HT_.out (by kernel_rfl)) (fun _ _ _ h => h) (Or.inl ⟨by rfl, ?_⟩) ?_ ?_
                            rotate_left
                            ·intro w'
                             go_simp
                             with_reducible rfl
                            rotate_left
                            ·simp only [Act.put, List.setIfInBounds_toArray, List.set_cons_zero, List.set_cons_succ, i64_w, i32_w]
                             rfl
                            refine pure_ (i := 49) (N := some 160) (v := ?_) (a' := ?_) #[true, true, true, true, true, true, true, true, true, true, true, true, true, true, true, true, true, true, true, true, true, true, true, true, true, true, true, true, true, true, true, true, true, true, true, true, true, true, true, true, true, true, true, true, true, true, true, true, true, true, false] rfl rfl (any_of HT_.out (by kernel_rfl)) (fun _ _ _ h => h) (Or.inl ⟨by rfl, ?_⟩) ?_ ?_
                            rotate_left
                            ·intro w'
                             go_simp
                             with_reducible rfl
                            rotate_left
                            ·simp only [Act.put, List.setIfInBounds_toArray, List.set_cons_zero, List.set_cons_succ, i64_w, i32_w]
                             rfl
                            refine pure_ (i := 50) (N := some 161) (v := ?_) (a' := ?_) #[true, true, true, true, true, true, true, true, true, true, true, true, true, true, true, true, true, true, true, true, true, true, true, true, true, true, true, true, true, true, true, true, true, true, true, true, true, true, true, true, true, true, true, true, true, true, true, true, true, true, true] rfl rfl (any_of HT_.out (by kernel_rfl)) (fun _ _ _ h => h) (Or.inl ⟨by rfl, ?_⟩) ?_ ?_
                            rotate_left
                            ·intro w'
                             go_simp
                             with_reducible rfl
                            rotate_left
                            ·simp only [Act.put, List.setIfInBounds_toArray, List.set_cons_zero, List.set_cons_succ, i64_w, i32_w]
                             rfl
                            refine done_ (done_of HT_.out (by kernel_rfl)) ?_
                            try go_wp2
                            go_meet
                            case rel => exact ⟨_, H', ⟨by have := HK1.out; have := HJ38.out; have := HJ46.out; have := HJ48.out; have := HJ56.out; have := HJ58.out; first | omega | exact Nat.le_refl _⟩, BK271, BK272, BK283, BK287, ⟨by repeat (first | (with_reducible first | exact HB.out | apply below_alloc | apply pw_below_drewN | apply below_drew1 | refine below_set ?_ (Aside0.out (by assumption))) | exact HB.out)⟩⟩
                  ·rw [if_neg c87] at H
                   have c87b0 : (t282 == 0) = false := beq_eq_false_iff_ne.mpr c87
                   have c87b1 : (t282 != 0) = true := bne_iff_ne.mpr c87
                   (first | rw [c87b0] | (simp only [i64_w, i32_w]; rw [c87b0]) | skip)
                   have H' := Aside0.mk H
                   clear H
                   go_wp2
                   go_meet
                   case rel => exact ⟨_, H', ⟨by have := HK1.out; have := HJ38.out; have := HJ46.out; have := HJ48.out; have := HJ56.out; have := HJ58.out; first | omega | exact Nat.le_refl _⟩, BK271, BK272, BK283, BK287, ⟨by repeat (first | (with_reducible first | exact HB.out | apply below_alloc | apply pw_below_drewN | apply below_drew1 | refine below_set ?_ (Aside0.out (by assumption))) | exact HB.out)⟩⟩
                 case rest => as_aux_lemma =>
                  clear HC86
                  try clear p2; try clear p6; try clear c8; try clear c9; try clear p64; try clear c87; try clear c87b0; try clear c87b1; try clear c91; try clear c91b0; try clear c92; try clear c92b0; try clear c93; try clear c93b0; try clear c93b1; try clear c94; try clear c94b0; try clear c95; try clear c95b0; try clear c96; try clear c96b0
                  obtain ⟨kq, HA, HJ85, BK271, BK272, BK283, BK287, HB⟩ := hcut
                  cases kq with
                  | zero => exact absurd HA.out (by simp [acmelaw12_MillBlanks.j6])
                  | succ kj85 =>
                   have H := HA.out
                   clear HA
                   simp only [acmelaw12_MillBlanks.j6] at H
                   by_cases c99 : t286 = 0
                   ·rw [if_pos c99] at H
                    have c99b0 : (t286 == 0) = true := beq_iff_eq.mpr c99
                    have c99b1 : (t286 != 0) = false := bne_eq_false_iff_eq.mpr c99
                    clear c99
                    replace H := Option.bind_eq_some_iff.mp H
                    obtain ⟨⟨t294, t295⟩, A1000, H⟩ := H; (try dsimp only at H)
                    have A100 := Aside0.mk A1000
                    clear A1000
                    by_cases c101 : (t284 == t294 && (t285 == t295)) = true
                    ·rw [if_pos c101] at H
                     have c101b0 : (t284 == t294 && (t285 == t295)) = true := c101
                     (try (have c101b1 : decide (t284 = t294 && (t285 == t295)) = true := by simpa using c101))
                     (try (have c101b2 : (t284 == t294 && (t285 == t295)) = true := by simpa using c101))
                     clear c101
                     replace H := Option.bind_eq_some_iff.mp H
                     obtain ⟨t296, A1020, H⟩ := H; (try dsimp only at H)
                     have A102 := Aside0.mk A1020
                     clear A1020
                     obtain rfl := Option.some.inj H
                     try go_wp2
                     have n0_ := Aside0.mk (blk_drew BK271.out)
                     have n1_ := Aside0.mk (blk_drew BK272.out)
                     have n2_ := Aside0.mk (blk_drew BK283.out)
                     have n3_ := Aside0.mk (blk_drew BK287.out)
                     have n4_ := Aside0.mk (below_drew1 HB.out)
                     clear BK271
                     clear BK272
                     clear BK283
                     clear BK287
                     clear HB
                     have BK271 := n0_
                     have BK272 := n1_
                     have BK283 := n2_
                     have BK287 := n3_
                     have HB := n4_
                     clear n0_ n1_ n2_ n3_ n4_
                     refine start_ (n := 27) (S := fun w' => w'.cell? ⟨gb287, 0, none⟩ = some (.int .i64 t284) ∧ w'.cell? ⟨gb287, 1, none⟩ = some (.int .i64 t285) ∧ w'.cell? ⟨gb272, 0, none⟩ = some (.int .i64 a2_0) ∧ w'.cell? ⟨gb272, 1, none⟩ = some (.int .i64 a2_1) ∧ w'.cell? ⟨gb271, 0, none⟩ = some (.int .i64 a1_0) ∧ w'.cell? ⟨gb271, 1, none⟩ = some (.int .i64 a1_1)) (ds := []) #[false, false, false, false, false, false, false, false, false, false, false, false, false, false, false, false, false, false, false, false, false, false, false, false, false, false, false] (by kernel_rfl) rfl rfl ⟨(blk_cell BK287.out 0).trans rfl, (blk_cell BK287.out 1).trans rfl, (blk_cell BK272.out 0).trans rfl, (blk_cell BK272.out 1).trans rfl, (blk_cell BK271.out 0).trans rfl, (blk_cell BK271.out 1).trans rfl⟩ (fun hHeld => ?_); refine with_tabW acmelaw12_MillBlanks.tab24 acmelaw12_MillBlanks.bits24 (fun HT_ HW_ => ?_)
                     generalize wc.drew = w103 at BK271 BK272 BK283 BK287 HB hHeld ⊢
                     refine pure_ (i := 1) (N := some 165) (v := ?_) (a' := ?_) #[false, true, false, false, false, false, false, false, false, false, false, false, false, false, false, false, false, false, false, false, false, false, false, false, false, false, false] rfl rfl (any_of HT_.out (by kernel_rfl)) (fun _ _ _ h => h) (Or.inl ⟨by rfl, ?_⟩) ?_ ?_
                     rotate_left
                     ·intro w'
                      go_simp
                      with_reducible rfl
                     rotate_left
                     ·simp only [Act.put, List.setIfInBounds_toArray, List.set_cons_zero, List.set_cons_succ, i64_w, i32_w]
                      rfl
                     refine pure_ (i := 3) (N := some 167) (v := ?_) (a' := ?_) #[false, true, false, true, false, false, false, false, false, false, false, false, false, false, false, false, false, false, false, false, false, false, false, false, false, false, false] rfl rfl (any_of HT_.out (by kernel_rfl)) (fun _ _ _ h => h) (Or.inl ⟨by rfl, ?_⟩) ?_ ?_
                     rotate_left
                     ·intro w'
                      go_simp
                      with_reducible rfl
                     rotate_left
                     ·simp only [Act.put, List.setIfInBounds_toArray, List.set_cons_zero, List.set_cons_succ, i64_w, i32_w]
                      rfl
                     refine pure_ (i := 6) (N := some 170) (v := ?_) (a' := ?_) #[false, true, false, true, false, false, true, false, false, false, false, false, false, false, false, false, false, false, false, false, false, false, false, false, false, false, false] rfl rfl (any_of HT_.out (by kernel_rfl)) (fun _ _ _ h => h) (Or.inl ⟨by rfl, ?_⟩) ?_ ?_
                     rotate_left
                     ·intro w'
                      go_simp
                      with_reducible rfl
                     rotate_left
                     ·simp only [Act.put, List.setIfInBounds_toArray, List.set_cons_zero, List.set_cons_succ, i64_w, i32_w]
                      rfl
                     refine pure_ (i := 9) (N := some 173) (v := ?_) (a' := ?_) #[false, true, false, true, false, false, true, false, false, true, false, false, false, false, false, false, false, false, false, false, false, false, false, false, false, false, false] rfl rfl (any_of HT_.out (by kernel_rfl)) (fun _ _ _ h => h) (Or.inl ⟨by rfl, ?_⟩) ?_ ?_
                     rotate_left
                     ·intro w'
                      go_simp
                      with_reducible rfl
                     rotate_left
                     ·simp only [Act.put, List.setIfInBounds_toArray, List.set_cons_zero, List.set_cons_succ, i64_w, i32_w]
                      rfl
                     refine pure_ (i := 11) (N := some 175) (v := ?_) (a' := ?_) #[false, true, false, true, false, false, true, false, false, true, false, true, false, false, false, false, false, false, false, false, false, false, false, false, false, false, false] rfl rfl (any_of HT_.out (by kernel_rfl)) (fun _ _ _ h => h) (Or.inl ⟨by rfl, ?_⟩) ?_ ?_
                     rotate_left
                     ·intro w'
                      go_simp
                      with_reducible rfl
                     rotate_left
                     ·simp only [Act.put, List.setIfInBounds_toArray, List.set_cons_zero, List.set_cons_succ, i64_w, i32_w]
                      rfl
                     refine pure_ (i := 13) (N := some 177) (v := ?_) (a' := ?_) #[false, true, false, true, false, false, true, false, false, true, false, true, false, true, false, false, false, false, false, false, false, false, false, false, false, false, false] rfl rfl (any_of HT_.out (by kernel_rfl)) (fun _ _ _ h => h) (Or.inl ⟨by rfl, ?_⟩) ?_ ?_
                     rotate_left
                     ·intro w'
                      go_simp
                      with_reducible rfl
                     rotate_left
                     ·simp only [Act.put, List.setIfInBounds_toArray, List.set_cons_zero, List.set_cons_succ, i64_w, i32_w]
                      rfl
                     refine pure_ (i := 16) (N := some 180) (v := ?_) (a' := ?_) #[false, true, false, true, false, false, true, false, false, true, false, true, false, true, false, false, true, false, false, false, false, false, false, false, false, false, false] rfl rfl (any_of HT_.out (by kernel_rfl)) (fun _ _ _ h => h) (Or.inl ⟨by rfl, ?_⟩) ?_ ?_
                     rotate_left
                     ·intro w'
                      go_simp
                      with_reducible rfl
                     rotate_left
                     ·simp only [Act.put, List.setIfInBounds_toArray, List.set_cons_zero, List.set_cons_succ, i64_w, i32_w]
                      rfl
                     refine pure_ (i := 19) (N := some 183) (v := ?_) (a' := ?_) #[false, true, false, true, false, false, true, false, false, true, false, true, false, true, false, false, true, false, false, true, false, false, false, false, false, false, false] rfl rfl (any_of HT_.out (by kernel_rfl)) (fun _ _ _ h => h) (Or.inl ⟨by rfl, ?_⟩) ?_ ?_
                     rotate_left
                     ·intro w'
                      go_simp
                      with_reducible rfl
                     rotate_left
                     ·simp only [Act.put, List.setIfInBounds_toArray, List.set_cons_zero, List.set_cons_succ, i64_w, i32_w]
                      rfl
                     refine take_ (i := 0) (N := some 164) (v := ?_) (a' := ?_) #[true, true, false, true, false, false, true, false, false, true, false, true, false, true, false, false, true, false, false, true, false, false, false, false, false, false, false] rfl rfl (take_ofW HT_.out HW_.out (by kernel_rfl)) (fun _ _ _ h => h) (Or.inl ⟨by rfl, ?_⟩) hHeld ?_ ?_
                     rotate_left
                     ·rintro w' ⟨s0, s1, s2, s3, s4, s5⟩
                      go_simp
                      with_reducible rfl
                     rotate_left
                     ·simp only [Act.put, List.setIfInBounds_toArray, List.set_cons_zero, List.set_cons_succ, i64_w, i32_w]
                      rfl
                     refine take_ (i := 2) (N := some 166) (v := ?_) (a' := ?_) #[true, true, true, true, false, false, true, false, false, true, false, true, false, true, false, false, true, false, false, true, false, false, false, false, false, false, false] rfl rfl (take_ofW HT_.out HW_.out (by kernel_rfl)) (fun _ _ _ h => h) (Or.inl ⟨by rfl, ?_⟩) hHeld ?_ ?_
                     rotate_left
                     ·rintro w' ⟨s0, s1, s2, s3, s4, s5⟩
                      go_simp
                      with_reducible rfl
                     rotate_left
                     ·simp only [Act.put, List.setIfInBounds_toArray, List.set_cons_zero, List.set_cons_succ, i64_w, i32_w]
                      rfl
                     refine take_ (i := 4) (N := some 168) (v := ?_) (a' := ?_) #[true, true, true, true, true, false, true, false, false, true, false, true, false, true, false, false, true, false, false, true, false, false, false, false, false, false, false] rfl rfl (take_ofW HT_.out HW_.out (by kernel_rfl)) (fun _ _ _ h => h) (Or.inl ⟨by rfl, ?_⟩) hHeld ?_ ?_
                     rotate_left
                     ·rintro w' ⟨s0, s1, s2, s3, s4, s5⟩
                      go_simp
                      with_reducible rfl
                     rotate_left
                     ·simp only [Act.put, List.setIfInBounds_toArray, List.set_cons_zero, List.set_cons_succ, i64_w, i32_w]
                      rfl
                     refine pure_ (i := 5) (N := some 169) (v := ?_) (a' := ?_) #[true, true, true, true, true, true, true, false, false, true, false, true, false, true, false, false, true, false, false, true, false, false, false, false, false, false, false] rfl rfl (any_of HT_.out (by kernel_rfl)) (fun _ _ _ h => h) (Or.inl ⟨by rfl, ?_⟩) ?_ ?_
                     rotate_left
                     ·intro w'
                      go_simp
                      with_reducible rfl
                     rotate_left
                     ·simp only [Act.put, List.setIfInBounds_toArray, List.set_cons_zero, List.set_cons_succ, i64_w, i32_w]
                      rfl
                     refine take_ (i := 7) (N := some 171) (v := ?_) (a' := ?_) #[true, true, true, true, true, true, true, true, false, true, false, true, false, true, false, false, true, false, false, true, false, false, false, false, false, false, false] rfl rfl (take_ofW HT_.out HW_.out (by kernel_rfl)) (fun _ _ _ h => h) (Or.inl ⟨by rfl, ?_⟩) hHeld ?_ ?_
                     rotate_left
                     ·rintro w' ⟨s0, s1, s2, s3, s4, s5⟩
                      go_simp
                      with_reducible rfl
                     rotate_left
                     ·simp only [Act.put, List.setIfInBounds_toArray, List.set_cons_zero, List.set_cons_succ, i64_w, i32_w]
                      rfl
                     refine pure_ (i := 8) (N := some 172) (v := ?_) (a' := ?_) #[true, true, true, true, true, true, true, true, true, true, false, true, false, true, false, false, true, false, false, true, false, false, false, false, false, false, false] rfl rfl (any_of HT_.out (by kernel_rfl)) (fun _ _ _ h => h) (Or.inl ⟨by rfl, ?_⟩) ?_ ?_
                     rotate_left
                     ·intro w'
                      go_simp
                      with_reducible rfl
                     rotate_left
                     ·simp only [Act.put, List.setIfInBounds_toArray, List.set_cons_zero, List.set_cons_succ, i64_w, i32_w]
                      rfl
                     refine pure_ (i := 10) (N := some 174) (v := ?_) (a' := ?_) #[true, true, true, true, true, true, true, true, true, true, true, true, false, true, false, false, true, false, false, true, false, false, false, false, false, false, false] rfl rfl (any_of HT_.out (by kernel_rfl)) (fun _ _ _ h => h) (Or.inl ⟨by rfl, ?_⟩) ?_ ?_
                     rotate_left
                     ·intro w'
                      go_simp
                      with_reducible rfl
                     rotate_left
                     ·simp only [Act.put, List.setIfInBounds_toArray, List.set_cons_zero, List.set_cons_succ, i64_w, i32_w]
                      rfl
                     refine take_ (i := 12) (N := some 176) (v := ?_) (a' := ?_) #[true, true, true, true, true, true, true, true, true, true, true, true, true, true, false, false, true, false, false, true, false, false, false, false, false, false, false] rfl rfl (take_ofW HT_.out HW_.out (by kernel_rfl)) (fun _ _ _ h => h) (Or.inl ⟨by rfl, ?_⟩) hHeld ?_ ?_
                     rotate_left
                     ·rintro w' ⟨s0, s1, s2, s3, s4, s5⟩
                      go_simp
                      with_reducible rfl
                     rotate_left
                     ·simp only [Act.put, List.setIfInBounds_toArray, List.set_cons_zero, List.set_cons_succ, i64_w, i32_w]
                      rfl
                     refine take_ (i := 14) (N := some 178) (v := ?_) (a' := ?_) #[true, true, true, true, true, true, true, true, true, true, true, true, true, true, true, false, true, false, false, true, false, false, false, false, false, false, false] rfl rfl (take_ofW HT_.out HW_.out (by kernel_rfl)) (fun _ _ _ h => h) (Or.inl ⟨by rfl, ?_⟩) hHeld ?_ ?_
                     rotate_left
                     ·rintro w' ⟨s0, s1, s2, s3, s4, s5⟩
                      go_simp
                      with_reducible rfl
                     rotate_left
                     ·simp only [Act.put, List.setIfInBounds_toArray, List.set_cons_zero, List.set_cons_succ, i64_w, i32_w]
                      rfl
                     refine pure_ (i := 15) (N := some 179) (v := ?_) (a' := ?_) #[true, true, true, true, true, true, true, true, true, true, true, true, true, true, true, true, true, false, false, true, false, false, false, false, false, false, false] rfl rfl (any_of HT_.out (by kernel_rfl)) (fun _ _ _ h => h) (Or.inl ⟨by rfl, ?_⟩) ?_ ?_
                     rotate_left
                     ·intro w'
                      go_simp
                      with_reducible rfl
                     rotate_left
                     ·simp only [Act.put, List.setIfInBounds_toArray, List.set_cons_zero, List.set_cons_succ, i64_w, i32_w]
                      rfl
                     refine take_ (i := 17) (N := some 181) (v := ?_) (a' := ?_) #[true, true, true, true, true, true, true, true, true, true, true, true, true, true, true, true, true, true, false, true, false, false, false, false, false, false, false] rfl rfl (take_ofW HT_.out HW_.out (by kernel_rfl)) (fun _ _ _ h => h) (Or.inl ⟨by rfl, ?_⟩) hHeld ?_ ?_
                     rotate_left
                     ·rintro w' ⟨s0, s1, s2, s3, s4, s5⟩
                      go_simp
                      with_reducible rfl
                     rotate_left
                     ·simp only [Act.put, List.setIfInBounds_toArray, List.set_cons_zero, List.set_cons_succ, i64_w, i32_w]
                      rfl
                     refine pure_ (i := 18) (N := some 182) (v := ?_) (a' := ?_) #[true, true, true, true, true, true, true, true, true, true, true, true, true, true, true, true, true, true, true, true, false, false, false, false, false, false, false] rfl rfl (any_of HT_.out (by kernel_rfl)) (fun _ _ _ h => h) (Or.inl ⟨by rfl, ?_⟩) ?_ ?_
                     rotate_left
                     ·intro w'
                      go_simp
                      with_reducible rfl
                     rotate_left
                     ·simp only [Act.put, List.setIfInBounds_toArray, List.set_cons_zero, List.set_cons_succ, i64_w, i32_w]
                      rfl
                     refine pure_ (i := 20) (N := some 184) (v := ?_) (a' := ?_) #[true, true, true, true, true, true, true, true, true, true, true, true, true, true, true, true, true, true, true, true, true, false, false, false, false, false, false] rfl rfl (any_of HT_.out (by kernel_rfl)) (fun _ _ _ h => h) (Or.inl ⟨by rfl, ?_⟩) ?_ ?_
                     rotate_left
                     ·intro w'
                      go_simp
                      with_reducible rfl
                     rotate_left
                     ·simp only [Act.put, List.setIfInBounds_toArray, List.set_cons_zero, List.set_cons_succ, i64_w, i32_w]
                      rfl
                     refine one_ (i := 21) (N := some 185) #[true, true, true, true, true, true, true, true, true, true, true, true, true, true, true, true, true, true, true, true, true, true, false, false, false, false, false] rfl rfl (one_of HT_.out (by kernel_rfl)) (by decide) (fun K hK => ?_)
                     refine goes_ Try.func27 (by kernel_rfl) rfl #[.int .i64 (wrap64 ((wrap64 ((wrap64 (a2_0 * a1_0)) * a1_0)) - t290)), .int .i64 (wrap64 ((wrap64 ((wrap64 (a2_1 * a1_1)) * a1_1)) - t290))] (by rfl) rfl rfl (by (try simp only [List.map_toArray, List.map_cons, List.map_nil]); first | done | rfl | (simp only [List.length_drop, List.length_take]; rfl)) ?_
                     with_reducible refine (acmelaw12_span.calls (wrap64 ((wrap64 ((wrap64 (a2_0 * a1_0)) * a1_0)) - t290)) (wrap64 ((wrap64 ((wrap64 (a2_1 * a1_1)) * a1_1)) - t290)) t294 t295 _ A100.out).mono ?_
                     rintro e w104 ⟨rfl, hb⟩
                     refine ⟨_, rfl, ?_⟩
                     have n0_ := Aside0.mk (blk_below (g := gb271) (o := .cells #[.int .i64 a1_0, .int .i64 a1_1] 41 (0, 0)) (by repeat (first | (with_reducible first | exact BK271.out | refine blk_drewN ?_ _ | refine blk_drew ?_ | refine blk_alloc ?_ _) | exact BK271.out)) hb)
                     have n1_ := Aside0.mk (blk_below (g := gb272) (o := .cells #[.int .i64 a2_0, .int .i64 a2_1] 41 (0, 0)) (by repeat (first | (with_reducible first | exact BK272.out | refine blk_drewN ?_ _ | refine blk_drew ?_ | refine blk_alloc ?_ _) | exact BK272.out)) hb)
                     have n2_ := Aside0.mk (blk_below (g := gb283) (o := .cells #[.int .i64 t280, .int .i64 t281] 41 (0, 0)) (by repeat (first | (with_reducible first | exact BK283.out | refine blk_drewN ?_ _ | refine blk_drew ?_ | refine blk_alloc ?_ _) | exact BK283.out)) hb)
                     have n3_ := Aside0.mk (blk_below (g := gb287) (o := .cells #[.int .i64 t284, .int .i64 t285] 41 (0, 0)) (by repeat (first | (with_reducible first | exact BK287.out | refine blk_drewN ?_ _ | refine blk_drew ?_ | refine blk_alloc ?_ _) | exact BK287.out)) hb)
                     have n4_ := Aside0.mk (below_step (by repeat (first | (with_reducible first | exact HB.out | apply below_alloc | apply pw_below_drewN | apply below_drew1 | refine below_set ?_ (Aside0.out (by assumption))) | exact HB.out)) hb)
                     clear BK271
                     clear BK272
                     clear BK283
                     clear BK287
                     clear HB
                     have BK271 := n0_
                     have BK272 := n1_
                     have BK283 := n2_
                     have BK287 := n3_
                     have HB := n4_
                     clear n0_ n1_ n2_ n3_ n4_
                     (try clear hb)
                     (try clear hb2)
                     (try clear hk)
                     (try clear hi)
                     refine hK.out _ _ ⟨(blk_cell BK287.out 0).trans rfl, (blk_cell BK287.out 1).trans rfl, (blk_cell BK272.out 0).trans rfl, (blk_cell BK272.out 1).trans rfl, (blk_cell BK271.out 0).trans rfl, (blk_cell BK271.out 1).trans rfl⟩ (fun hHeld => ?_)
                     clear hK K
                     refine norm_ (a' := ?_) ?_ ?_
                     rotate_left
                     ·show Act.put _ (some 185) _ = _
                      simp only [Act.put, List.setIfInBounds_toArray, List.set_cons_zero, List.set_cons_succ, i64_w, i32_w]
                      rfl
                     refine pure_ (i := 22) (N := some 186) (v := ?_) (a' := ?_) #[true, true, true, true, true, true, true, true, true, true, true, true, true, true, true, true, true, true, true, true, true, true, true, false, false, false, false] rfl rfl (any_of HT_.out (by kernel_rfl)) (fun _ _ _ h => h) (Or.inl ⟨by rfl, ?_⟩) ?_ ?_
                     rotate_left
                     ·intro w'
                      go_simp
                      with_reducible rfl
                     rotate_left
                     ·simp only [Act.put, List.setIfInBounds_toArray, List.set_cons_zero, List.set_cons_succ, i64_w, i32_w]
                      rfl
                     refine pure_ (i := 23) (N := some 187) (v := ?_) (a' := ?_) #[true, true, true, true, true, true, true, true, true, true, true, true, true, true, true, true, true, true, true, true, true, true, true, true, false, false, false] rfl rfl (any_of HT_.out (by kernel_rfl)) (fun _ _ _ h => h) (Or.inl ⟨by rfl, ?_⟩) ?_ ?_
                     rotate_left
                     ·intro w'
                      go_simp
                      with_reducible rfl
                     rotate_left
                     ·simp only [Act.put, List.setIfInBounds_toArray, List.set_cons_zero, List.set_cons_succ, i64_w, i32_w]
                      rfl
                     refine one_ (i := 24) (N := some 188) #[true, true, true, true, true, true, true, true, true, true, true, true, true, true, true, true, true, true, true, true, true, true, true, true, true, false, false] rfl rfl (one_of HT_.out (by kernel_rfl)) (by decide) (fun K hK => ?_)
                     refine goes_ Try.func15 (by kernel_rfl) rfl #[] (by rfl) rfl rfl (by (try simp only [List.map_toArray, List.map_cons, List.map_nil]); first | done | rfl | (simp only [List.length_drop, List.length_take]; rfl)) ?_
                     with_reducible refine (acmelaw12_known.calls  t296 _ A102.out).mono ?_
                     rintro e w105 ⟨rfl, hb⟩
                     refine ⟨_, rfl, ?_⟩
                     have n0_ := Aside0.mk (blk_below (g := gb271) (o := .cells #[.int .i64 a1_0, .int .i64 a1_1] 41 (0, 0)) (by repeat (first | (with_reducible first | exact BK271.out | refine blk_drewN ?_ _ | refine blk_drew ?_ | refine blk_alloc ?_ _) | exact BK271.out)) hb)
                     have n1_ := Aside0.mk (blk_below (g := gb272) (o := .cells #[.int .i64 a2_0, .int .i64 a2_1] 41 (0, 0)) (by repeat (first | (with_reducible first | exact BK272.out | refine blk_drewN ?_ _ | refine blk_drew ?_ | refine blk_alloc ?_ _) | exact BK272.out)) hb)
                     have n2_ := Aside0.mk (blk_below (g := gb283) (o := .cells #[.int .i64 t280, .int .i64 t281] 41 (0, 0)) (by repeat (first | (with_reducible first | exact BK283.out | refine blk_drewN ?_ _ | refine blk_drew ?_ | refine blk_alloc ?_ _) | exact BK283.out)) hb)
                     have n3_ := Aside0.mk (blk_below (g := gb287) (o := .cells #[.int .i64 t284, .int .i64 t285] 41 (0, 0)) (by repeat (first | (with_reducible first | exact BK287.out | refine blk_drewN ?_ _ | refine blk_drew ?_ | refine blk_alloc ?_ _) | exact BK287.out)) hb)
                     have n4_ := Aside0.mk (below_step (by repeat (first | (with_reducible first | exact HB.out | apply below_alloc | apply pw_below_drewN | apply below_drew1 | refine below_set ?_ (Aside0.out (by assumption))) | exact HB.out)) hb)
                     clear BK271
                     clear BK272
                     clear BK283
                     clear BK287
                     clear HB
                     have BK271 := n0_
                     have BK272 := n1_
                     have BK283 := n2_
                     have BK287 := n3_
                     have HB := n4_
                     clear n0_ n1_ n2_ n3_ n4_
                     (try clear hb)
                     (try clear hb2)
                     (try clear hk)
                     (try clear hi)
                     refine hK.out _ _ ⟨(blk_cell BK287.out 0).trans rfl, (blk_cell BK287.out 1).trans rfl, (blk_cell BK272.out 0).trans rfl, (blk_cell BK272.out 1).trans rfl, (blk_cell BK271.out 0).trans rfl, (blk_cell BK271.out 1).trans rfl⟩ (fun hHeld => ?_)
                     clear hK K
                     refine norm_ (a' := ?_) ?_ ?_
                     rotate_left
                     ·show Act.put _ (some 188) _ = _
                      simp only [Act.put, List.setIfInBounds_toArray, List.set_cons_zero, List.set_cons_succ, i64_w, i32_w]
                      rfl
                     refine pure_ (i := 25) (N := some 189) (v := ?_) (a' := ?_) #[true, true, true, true, true, true, true, true, true, true, true, true, true, true, true, true, true, true, true, true, true, true, true, true, true, true, false] rfl rfl (any_of HT_.out (by kernel_rfl)) (fun _ _ _ h => h) (Or.inl ⟨by rfl, ?_⟩) ?_ ?_
                     rotate_left
                     ·intro w'
                      go_simp
                      with_reducible rfl
                     rotate_left
                     ·simp only [Act.put, List.setIfInBounds_toArray, List.set_cons_zero, List.set_cons_succ, i64_w, i32_w]
                      rfl
                     refine pure_ (i := 26) (N := some 6) (v := ?_) (a' := ?_) #[true, true, true, true, true, true, true, true, true, true, true, true, true, true, true, true, true, true, true, true, true, true, true, true, true, true, true] rfl rfl (any_of HT_.out (by kernel_rfl)) (fun _ _ _ h => h) (Or.inl ⟨by rfl, ?_⟩) ?_ ?_
                     rotate_left
                     ·intro w'
                      go_simp
                      with_reducible rfl
                     rotate_left
                     ·simp only [Act.put, List.setIfInBounds_toArray, List.set_cons_zero, List.set_cons_succ, i64_w, i32_w]
                      rfl
                     refine done_ (done_of HT_.out (by kernel_rfl)) ?_
                     try go_wp2
                     go_ret
                     exact ⟨by first | rfl | (simp [errW_none, errW_some] <;> rfl) | (simp [*, errW_none, errW_some] <;> rfl), by repeat (first | (with_reducible first | exact HB.out | apply below_alloc | apply pw_below_drewN | apply below_drew1 | refine below_set ?_ (Aside0.out (by assumption))) | exact HB.out)⟩
                    ·rw [if_neg c101] at H
                     have c101b0 : (t284 == t294 && (t285 == t295)) = false := by simpa using c101
                     (try (have c101b1 : decide (t284 = t294 && (t285 == t295)) = false := by simpa using c101))
                     (try (have c101b2 : (t284 == t294 && (t285 == t295)) = false := by simpa using c101))
                     (try (have c101b3 : ¬ (t284 = t294 && (t285 == t295)) := by simpa using c101))
                     clear c101
                     exact absurd H (by simp)
                   ·rw [if_neg c99] at H
                    have c99b0 : (t286 == 0) = false := beq_eq_false_iff_ne.mpr c99
                    have c99b1 : (t286 != 0) = true := bne_iff_ne.mpr c99
                    replace H := Option.bind_eq_some_iff.mp H
                    obtain ⟨t297, A1060, H⟩ := H; (try dsimp only at H)
                    have A106 := Aside0.mk A1060
                    clear A1060
                    obtain rfl := Option.some.inj H
                    go_wp2_with (first | ((with_reducible refine gate_callee (f := 15) rfl ?_); refine goesL_ (some 190) rfl rfl Try.func15 (by kernel_rfl) rfl #[] rfl (by (try simp only [List.map_toArray, List.map_cons, List.map_nil]); first | done | rfl | (simp only [List.length_drop, List.length_take]; rfl)) ?_; (with_reducible refine (acmelaw12_known.calls  t297 _ A106.out).mono ?_); rintro e w107 ⟨rfl, hb⟩; refine ⟨_, rfl, ?_⟩; replace BK271 := Aside0.mk (blk_below (g := gb271) (o := .cells #[.int .i64 a1_0, .int .i64 a1_1] 41 (0, 0)) (by repeat (first | (with_reducible first | exact BK271.out | refine blk_drewN ?_ _ | refine blk_drew ?_ | refine blk_alloc ?_ _) | exact BK271.out)) hb); replace BK272 := Aside0.mk (blk_below (g := gb272) (o := .cells #[.int .i64 a2_0, .int .i64 a2_1] 41 (0, 0)) (by repeat (first | (with_reducible first | exact BK272.out | refine blk_drewN ?_ _ | refine blk_drew ?_ | refine blk_alloc ?_ _) | exact BK272.out)) hb); replace BK283 := Aside0.mk (blk_below (g := gb283) (o := .cells #[.int .i64 t280, .int .i64 t281] 41 (0, 0)) (by repeat (first | (with_reducible first | exact BK283.out | refine blk_drewN ?_ _ | refine blk_drew ?_ | refine blk_alloc ?_ _) | exact BK283.out)) hb); replace BK287 := Aside0.mk (blk_below (g := gb287) (o := .cells #[.int .i64 t284, .int .i64 t285] 41 (0, 0)) (by repeat (first | (with_reducible first | exact BK287.out | refine blk_drewN ?_ _ | refine blk_drew ?_ | refine blk_alloc ?_ _) | exact BK287.out)) hb); replace HB := Aside0.mk (below_step (by repeat (first | (with_reducible first | exact HB.out | apply below_alloc | apply pw_below_drewN | apply below_drew1 | refine below_set ?_ (Aside0.out (by assumption))) | exact HB.out)) hb); (try clear hb); (try clear hb2); (try clear hk); (try clear hi)))
                    go_ret
                    exact ⟨by first | rfl | (simp [errW_none, errW_some] <;> rfl) | (simp [*, errW_none, errW_some] <;> rfl), by repeat (first | (with_reducible first | exact HB.out | apply below_alloc | apply pw_below_drewN | apply below_drew1 | refine below_set ?_ (Aside0.out (by assumption))) | exact HB.out)⟩
  ·rw [if_neg c9] at H
   exact absurd H (by simp)

end Go.Proofs.Ytiaiecfnpompcaa.T
