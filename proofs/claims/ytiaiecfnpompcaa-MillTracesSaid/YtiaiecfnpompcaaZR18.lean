-- cut down, squeezed and laid together by pack.py (a program of this repository) out of this seat's texts
import Derived.WalkKit
import Derived.MapKept
import Derived.RangeFuncNested
import Derived.RangeFuncBound
import Derived.RangeFuncCalls
import Derived.RangeFuncLeaves
import Derived.Shelf.Abstract
import Derived.Shelf.RegionOpen
import Derived.OwnWalkIn
import Derived.TacticsInMore
import Derived.LoopNIn
import Derived.LoopIn
import Derived.Shelf.SlSortCmp.InsertionK
import Derived.ChangeKeysEq
import Derived.KernelRfl
import Derived.Maps.OwnSet
import Derived.Maps.RangeWalk
import Derived.DeepKeys4
import Derived.Deep.LoopGhost
import Derived.Deep.QuietTactic
import Derived.BigQuiet
import Derived.Deep.Draws
import Derived.Test.YtiaiecfnpompcaaProg
import Derived.Test.YtiaiecfnpompcaaZR16
import Derived.Test.YtiaiecfnpompcaaZR17
import Derived.Test.YtiaiecfnpompcaaZR15
import Derived.Test.YtiaiecfnpompcaaZR2
import Derived.Test.YtiaiecfnpompcaaZR13
import Derived.Test.YtiaiecfnpompcaaZR14
import Derived.Test.YtiaiecfnpompcaaZR3
import Derived.Test.YtiaiecfnpompcaaZR9
import Derived.Test.YtiaiecfnpompcaaZR4
import Derived.Test.YtiaiecfnpompcaaZR12
import Derived.Test.YtiaiecfnpompcaaZR8
import Derived.Test.YtiaiecfnpompcaaZR6
import Derived.Test.YtiaiecfnpompcaaZR7
import Derived.Test.YtiaiecfnpompcaaZR11
import Derived.Test.YtiaiecfnpompcaaZR5
import Derived.Test.YtiaiecfnpompcaaZR10
import Derived.Test.YtiaiecfnpompcaaZR1
namespace Go.Proofs.Ytiaiecfnpompcaa.T
open Go Go.RowKit Go.Shelf Go.Sort Go.Proofs.Ytiaiecfnpompcaa.Ab Go.Proofs.YtiaiecfnpompcaaW.PrintWords
set_option linter.unusedVariables false
set_option linter.unusedSimpArgs false

def XeV : Nat → List Value → Option (List S79 × List Value)
 | 0, l => some ([], l)
 | n + 1, .int .i64 a :: .int .i64 b :: .int .i64 c :: l => match XeV n l with
  | some (xs, r) => some (⟨a, b, c⟩ :: xs, r)
  | none => none
 | _, _ => none
theorem XcY : ∀ {n : Nat} {l : List Value} {xs : List S79} {r : List Value}, XeV n l = some (xs, r) → l = xs.flatMap Yt ++ r ∧ xs.length = n
 | 0, l, xs, r, h => by
  simp only [XeV, Option.some.injEq, Prod.mk.injEq] at h
  obtain ⟨rfl, rfl⟩ := h
  exact ⟨rfl, rfl⟩
 | n + 1, l, xs, r, h => by
  unfold XeV at h
  split at h
  ·simp at *
  ·rename_i n' a b c l' heq
   obtain rfl := Nat.succ.inj heq
   split at h
   ·rename_i ys r' h2
    simp only [Option.some.injEq, Prod.mk.injEq] at h
    obtain ⟨rfl, rfl⟩ := h
    obtain ⟨h3, h4⟩ := XcY h2
    exact ⟨by rw [h3]; rfl, by simp [h4]⟩
   ·simp at h
  ·simp at h
def XcS (x : S79) : List S79 → List S79
 | [] => [x]
 | y :: l => match lt79 y x with
  | true => y :: XcS x l
  | false => x :: y :: l
def Xad : List S79 → List S79
 | [] => []
 | x :: l => XcS x (Xad l)
theorem Xbi (x : S79) : ∀ l, (XcS x l).Perm (x :: l)
 | [] => List.Perm.refl _
 | y :: l => by
  unfold XcS
  split
  ·exact ((Xbi x l).cons y).trans (List.Perm.swap x y l)
  ·exact List.Perm.refl _
theorem Xac : ∀ l, (Xad l).Perm l
 | [] => List.Perm.refl _
 | x :: l => (Xbi x _).trans ((Xac l).cons x)
theorem Js (x y : S79) : lt79 x y = true ↔ (x.f0 < y.f0 ∨ x.f0 = y.f0 ∧ (x.f1 < y.f1 ∨ x.f1 = y.f1 ∧ x.f2 < y.f2)) := by simp only [lt79, decide_eq_true_eq]
theorem JB (x y : S79) : (!lt79 x y) = true ↔ ¬ (x.f0 < y.f0 ∨ x.f0 = y.f0 ∧ (x.f1 < y.f1 ∨ x.f1 = y.f1 ∧ x.f2 < y.f2)) := by rw [← Js]; simp
theorem XcP (a b c : S79) (h1 : (!lt79 b a) = true) (h2 : (!lt79 c b) = true) : (!lt79 c a) = true := by
 rw [JB] at *; omega
theorem Xfm (a b : S79) : ((!lt79 b a) || (!lt79 a b)) = true := by
 rw [Bool.or_eq_true, JB, JB]; omega
theorem XbE (x : S79) : ∀ l, l.Pairwise (fun x y => (!lt79 y x) = true) → (XcS x l).Pairwise (fun x y => (!lt79 y x) = true)
 | [], _ => by simp [XcS]
 | y :: l, h => by
  unfold XcS
  have h' := List.pairwise_cons.1 h
  split
  ·rename_i q
   refine List.pairwise_cons.2 ⟨fun z hz => ?_, XbE x l h'.2⟩
   rcases List.mem_cons.1 ((Xbi x l).mem_iff.1 hz) with rfl | hz
   ·rw [JB]; rw [Js] at q; omega
   ·exact h'.1 z hz
  ·rename_i q
   have q' : (!lt79 y x) = true := by rw [q]; rfl
   refine List.pairwise_cons.2 ⟨fun z hz => ?_, h⟩
   rcases List.mem_cons.1 hz with rfl | hz
   ·exact q'
   ·exact XcP x y z q' (h'.1 z hz)
theorem Xay : ∀ l, (Xad l).Pairwise (fun x y => (!lt79 y x) = true)
 | [] => List.Pairwise.nil
 | x :: l => XbE x _ (Xay l)
theorem Xfn (l : List S79) : Xad l = l.mergeSort fun x y => !lt79 y x := by
 refine List.Perm.eq_of_pairwise (le := fun x y => (!lt79 y x) = true) (fun a b _ _ h1 h2 => ?_) (Xay l) (List.pairwise_mergeSort (fun a b c h1 h2 => XcP a b c h1 h2) (fun a b => Xfm a b) _) ((Xac l).trans (List.mergeSort_perm _ _).symm)
 simp only [Bool.not_eq_true'] at h1 h2
 exact XfF a b (by rw [Xbf]; exact h2) (by rw [Xbf]; exact h1)

theorem XcV (xs : List S79) (t : Nat) (h : t < xs.length * 3) : (xs.flatMap Yt)[t]? = some (flatK Yt 3 xs.toArray)[t]! := by
 rw [get_flatK Yt 3 xs.toArray t (by simpa using h)]
 induction xs generalizing t with
 | nil => simp at h
 | cons x xs ih =>
  simp only [List.flatMap_cons]
  by_cases ht : t < 3
  ·rw [List.getElem?_append_left (by simp [Yt]; omega)]
   have h0 : t / 3 = 0 := by omega
   have h1 : t % 3 = t := by omega
   rw [h0, h1]
   simp only [Yt]
   obtain rfl | rfl | rfl : t = 0 ∨ t = 1 ∨ t = 2 := by omega
   all_goals rfl
  ·rw [List.getElem?_append_right (by simp [Yt]; omega)]
   simp only [Yt, List.length_cons, List.length_nil]
   have := ih (t - 3) (by simp at h; omega)
   simp only [Yt] at this
   rw [this]
   have h0 : t / 3 = (t - 3) / 3 + 1 := by omega
   have h1 : t % 3 = (t - 3) % 3 := by omega
   rw [h0, h1]
   have hl : (t - 3) / 3 < xs.length := by simp at h; omega
   congr 2
   simp [hl]
theorem JI (xs : List S79) : (xs.flatMap Yt).length = xs.length * 3 := by
 induction xs with
 | nil => rfl
 | cons x xs ih => simp [List.flatMap_cons, ih, Yt]; omega
theorem XeS (xs : List S79) (t : Nat) (h : t < xs.length * 3) : ∃ n, (flatK Yt 3 xs.toArray)[t]! = .int .i64 n := by
 have h1 := XcV xs t h
 have : (flatK Yt 3 xs.toArray)[t]! ∈ xs.flatMap Yt := List.mem_of_getElem? h1
 obtain ⟨x, _, hx⟩ := List.mem_flatMap.1 this
 simp only [Yt, List.mem_cons, List.not_mem_nil, or_false] at hx
 rcases hx with h | h | h <;> exact ⟨_, h⟩

def or92 (ro : Nat) (args : List Value) (st : St) : Ans :=
 match args with
 | [.slice (some ⟨b, 0, none⟩) n 3, .func (.func 93) ⟨[]⟩ ⟨[]⟩] => match Nat.ble ro b, Xr st.mem b, Nat.ble n 1000000 with
  | true, some (.c cs), true => match XeV n cs with
   | some (xs, r) => some (.tuple ⟨[]⟩, ⟨st.next, put st.mem b (.c ((Xad xs).flatMap Yt ++ r))⟩)
   | none => none
  | _, _, _ => none
 | [.slice none 0 0, .func (.func 93) ⟨[]⟩ ⟨[]⟩] => some (.tuple ⟨[]⟩, st)
 | _ => none
def JA (f : FuncId) : Option (Nat → List Value → St → Ans) := match Nat.beq f 92 with
 | true => some or92
 | false => none
theorem VR.fn_inv {U : Nat → Prop} {ρ : Nat → Pl} {f : FuncId} {v : Value} (h : VR U ρ (.func (.func f) ⟨[]⟩ ⟨[]⟩) v) : v = .func (.func f) #[] #[] := by
 cases h with
 | fn _ _ _ xs' ys' h1 h2 => cases h1; cases h2; rfl

set_option maxHeartbeats 1000000 in
theorem XhJ {ro : Nat} {args : List Value} {st : St} {v : Value} {st' : St} (h : or92 ro args st = some (v, st')) {B : Nat} {U : Nat → Prop} {ρ : Nat → Pl} {w : World} {args' : List Value} (hr : HR B ro U ρ st.next st.mem w) (hl : VL U ρ args args') :
  Calls Try.prog 92 ⟨args'⟩ w fun e w' => ∃ v', e = .returned v' ∧ Post B ro U ρ st.next w v st' v' w' := by
 unfold or92 at h
 split at h
 ·rename_i b n
  split at h
  ·rename_i cs hro hb hn
   split at h
   ·rename_i xs r hd
    simp only [Option.some.injEq, Prod.mk.injEq] at h
    obtain ⟨rfl, rfl⟩ := h
    obtain ⟨hcs, hlen⟩ := XcY hd
    have hro := Nat.le_of_ble_eq_true hro
    have hn := Nat.le_of_ble_eq_true hn
    obtain ⟨hU, cs', t, hg, hsz, hcells⟩ := hr.blk b _ hb
    cases hl with
    | cons _ v1 _ l1 q1 q2 => cases q2 with
     | cons _ v2 _ l2 q3 q4 =>
      cases q4
      obtain rfl := VR.fn_inv q3
      cases q1 with
      | sl _ _ _ _ c _ hnc hfit =>
       have hcell : ∀ i, i < n * 3 → cs'[(ρ b).off + i]? = some (flatK Yt 3 xs.toArray)[i]! := by
        intro i hi
        have h1 := XcV xs i (by omega)
        have h2 : cs[i]? = some (flatK Yt 3 xs.toArray)[i]! := by
         rw [hcs, List.getElem?_append_left (by rw [JI]; omega)]; exact h1
        obtain ⟨y, hy, hv⟩ := hcells i _ h2
        obtain ⟨m, hm⟩ := XeS xs i (by omega)
        rw [hm] at hv ⊢
        cases hv
        exact hy
       have hH : HoldsK Yt 3 w (ρ b).g ((ρ b).off + 0) xs.toArray := by
        intro j hj
        have hj : j < n * 3 := by simpa [hlen] using hj
        refine ⟨?_, Xh hg _⟩
        exact (Xe hg _).trans (by simpa using hcell j hj)
       have hlt := (Array.getElem?_eq_some_iff.1 hg).1
       have hmain := sort92.row (ρ b).g ((ρ b).off + 0) c xs w hH hlt (by omega)
       rw [hlen] at hmain
       refine hmain.mono ?_
       rintro e w' ⟨rfl, m, os, rfl⟩
       refine ⟨_, rfl, ?_⟩
       rw [← Xfn]
       have hil : (Xad xs).length = n := by rw [(Xac xs).length_eq, hlen]
       generalize Xad xs = ys at hil
       unfold sortWorldK
       have e1 : (putRowK Yt 3 (Sort.ahead w m) (ρ b).g ((ρ b).off + 0) ys.toArray).heap = w.heap.modify (ρ b).g (onCells (putCells id ((ρ b).off + 0) (flatK Yt 3 ys.toArray))) := rfl
       have hr1 : HR B ro U ρ st.next (put st.mem b (.c (ys.flatMap Yt ++ r))) (putRowK Yt 3 (Sort.ahead w m) (ρ b).g ((ρ b).off + 0) ys.toArray) := by
        refine hr.putAt hb ⟨hU, putCells id ((ρ b).off + 0) (flatK Yt 3 ys.toArray) cs', t, ?_, ?_, ?_⟩ ?_ ?_
        ·rw [e1, Array.getElem?_modify, if_pos rfl, hg]; rfl
        ·simp [putCells, hsz]
        ·intro i x hx
         have hcl : cs.length = n * 3 + r.length := by rw [hcs, List.length_append, JI, hlen]
         by_cases hi : i < n * 3
         ·rw [List.getElem?_append_left (by rw [JI]; omega), XcV ys i (by omega)] at hx
          obtain rfl := Option.some.inj hx
          refine ⟨(flatK Yt 3 ys.toArray)[i]!, ?_, ?_⟩
          ·simp only [putCells, Array.getElem?_mapIdx, hcell i hi, Option.map_some]
           rw [if_pos (by simp; omega)]
           simp
          ·obtain ⟨k, hk⟩ := XeS ys i (by omega)
           rw [hk]; exact .int _ _
         ·rw [List.getElem?_append_right (by rw [JI]; omega), JI, hil] at hx
          have : cs[i]? = some x := by
           rw [hcs, List.getElem?_append_right (by rw [JI]; omega), JI, hlen]; exact hx
          obtain ⟨y, hy, hv⟩ := hcells i x this
          refine ⟨y, ?_, hv⟩
          simp only [putCells, Array.getElem?_mapIdx, hy, Option.map_some]
          rw [if_neg (by simp; omega)]
        ·intro j hj
         rw [e1, Array.getElem?_modify, if_neg (fun q => hj q.symm)]
        ·rw [e1]; simp
       have hb2 : Below (putRowK Yt 3 (Sort.ahead w m) (ρ b).g ((ρ b).off + 0) ys.toArray).heap.size (putRowK Yt 3 (Sort.ahead w m) (ρ b).g ((ρ b).off + 0) ys.toArray) (Sort.grow (putRowK Yt 3 (Sort.ahead w m) (ρ b).g ((ρ b).off + 0) ys.toArray) os) :=
        ⟨rfl, rfl, rfl, by simp [Sort.grow], fun k hk => by simp only [Sort.grow]; rw [Array.getElem?_append_left hk]⟩
       refine ⟨U, ρ, Ext.refl _ _ _, hr1.still hb2, .tup _ _ .nil, Below.trans (b := putRowK Yt 3 (Sort.ahead w m) (ρ b).g ((ρ b).off + 0) ys.toArray) ⟨rfl, rfl, rfl, by rw [e1]; simp, fun k hk => ?_⟩ (hb2.mono (by rw [e1]; simpa using hr.base))⟩
       rw [e1, Array.getElem?_modify, if_neg ?_]
       have := hr.own _ _ hb hro
       omega
   ·simp at h
  ·simp at h
 ·simp only [Option.some.injEq, Prod.mk.injEq] at h
  obtain ⟨rfl, rfl⟩ := h
  cases hl with
  | cons _ v1 _ l1 q1 q2 => cases q2 with
   | cons _ v2 _ l2 q3 q4 =>
    cases q4
    obtain rfl := VR.fn_inv q3
    cases q1
    refine (AnyF.slices_SortFunc_none Xce none 0 _ w).mono ?_
    rintro e w' ⟨rfl, rfl⟩
    exact ⟨_, rfl, U, ρ, Ext.refl _ _ _, hr, .tup _ _ .nil, Below.refl _ _⟩
 ·simp at h
theorem XcE : XfV Try.prog JA := by
 intro f g hf ro args st v st' h
 unfold JA at hf
 split at hf
 ·rename_i q
  obtain rfl := Nat.eq_of_beq_eq_true q
  obtain rfl := Option.some.inj hf
  exact ⟨⟨_, Try.func92, rfl⟩, fun B U ρ w args' hr hl => XhJ h hr hl⟩
 ·simp at hf
end Go.Proofs.Ytiaiecfnpompcaa.T
namespace Go.Proofs.Ytiaiecfnpompcaa.T
open Go Go.RowKit Go.Proofs.Ytiaiecfnpompcaa.Ab
set_option linter.unusedVariables false
set_option linter.unusedSimpArgs false
def wr12 (f : FuncId) : Bool := Nat.beq f 65 || Nat.beq f 92 || Nat.beq f 58 || Nat.beq f 105 || Nat.beq f 111
def eqS (s t : St) : Bool := Nat.beq s.next t.next && eqL (fun p q => Nat.beq p.1 q.1 && eqB p.2 q.2) s.mem t.mem
theorem Xiu {s t : St} (h : eqS s t = true) : s = t := by
 obtain ⟨n, m⟩ := s
 obtain ⟨n', m'⟩ := t
 simp only [eqS, Bool.and_eq_true] at h
 rw [Nat.eq_of_beq_eq_true h.1, Xbj (fun x y q => ?_) h.2]
 simp only [Bool.and_eq_true] at q
 obtain ⟨b, k⟩ := x
 obtain ⟨b', k'⟩ := y
 simp only at q
 rw [Nat.eq_of_beq_eq_true q.1, Xhl q.2]
def hit (r0 : Nat) (a0 : List Value) (s0 : St) (r : Value × St) (ro : Nat) (args : List Value) (st : St) : Ans :=
 match Nat.beq ro r0, eqL (eqV 8) args a0, eqS st s0 with
 | true, true, true => some r
 | _, _, _ => none
theorem Xid (f : Nat) (fn : Func) (h : Try.prog.funcs[f]? = some fn) : (fn.name == "runtime.NumGoroutine") = false := by
 have hall : Try.prog.funcs.toList.all (fun fn => !(fn.name == "runtime.NumGoroutine")) = true := by kernel_rfl
 rw [List.all_eq_true] at hall
 have := hall fn (by simpa using Array.mem_of_getElem? h)
 simpa using this
def yes : Option (Value × St) → Bool
 | some (.bool b, _) => b
 | _ => false
theorem XgR {x : Option (Value × St)} (h : yes x = true) : ∃ st, x = some (.bool true, st) := by
 unfold yes at h
 split at h
 ·exact ⟨_, by rw [h]⟩
 ·simp at h
theorem XcT {f : FuncId} {r0 : Nat} {a0 : List Value} {s0 : St} {r : Value × St} (h : JL Try.prog JA wr12 1000 60 r0 (.fn f) a0 s0 = some r) {ro : Nat} {args : List Value} {st : St} {v : Value} {st' : St} (hh : hit r0 a0 s0 r ro args st = some (v, st')) :
  (∃ fn, Try.prog.funcs[f]? = some fn ∧ fn.body.isSome = true) ∧
  ∀ B U ρ w args', HR B ro U ρ st.next st.mem w → VL U ρ args args' → Calls Try.prog f ⟨args'⟩ w fun e w' => ∃ v', e = .returned v' ∧ Post B ro U ρ st.next w v st' v' w' := by
 unfold hit at hh
 split at hh
 ·rename_i h1 h2 h3
  obtain rfl := Nat.eq_of_beq_eq_true h1
  obtain rfl := Xbj (XcX 8) h2
  obtain rfl := Xiu h3
  obtain rfl := Option.some.inj hh
  obtain ⟨⟨fn, g1, g2, g3⟩, g4⟩ := Xe3 (wr := wr12) (by kernel_rfl) Xid XcE 1000 60 ro (.fn f) args st v st' h
  exact ⟨⟨fn, g1, g3⟩, g4⟩
 ·simp at hh
end Go.Proofs.Ytiaiecfnpompcaa.T
namespace Go.Proofs.Ytiaiecfnpompcaa.T
open Go Go.RowKit Go.Proofs.Ytiaiecfnpompcaa.Ab
def m17.o : Nat := 0
def m17.a : List Value := [Value.agg { toList := [Value.slice (some { block := 0, off := 0 }) 5 1, Value.int IntKind.i64 300, Value.int IntKind.i64 500] }, Value.int IntKind.i64 1000, Value.int IntKind.i64 600]
def m17.s : St := { next := 2, mem := [(1, Blk.c [Value.slice (some { block := 0, off := 0 }) 5 1, Value.int IntKind.i64 300, Value.int IntKind.i64 500]), (0, Blk.c [Value.int IntKind.i64 900, Value.int IntKind.i64 800, Value.int IntKind.i64 700, Value.int IntKind.i64 600, Value.int IntKind.i64 500])] }
def m17.r : Value × St := (Value.tuple { toList := [Value.slice (some { block := 399, off := 0 }) 4 2, Value.int IntKind.i64 0] }, { next := 403, mem := [(399, Blk.c [Value.int IntKind.i64 900, Value.bool false, Value.int IntKind.i64 800, Value.bool false, Value.int IntKind.i64 700, Value.bool true, Value.int IntKind.i64 600, Value.bool false]), (1, Blk.c [Value.slice (some { block := 0, off := 0 }) 5 1, Value.int IntKind.i64 300, Value.int IntKind.i64 500]), (0, Blk.c [Value.int IntKind.i64 900, Value.int IntKind.i64 800, Value.int IntKind.i64 700, Value.int IntKind.i64 600, Value.int IntKind.i64 500])] })
set_option maxRecDepth 1000000 in
theorem m17.ok : JL Try.prog JA wr12 1000 60 m17.o (.fn 17) m17.a m17.s = some m17.r := by kernel_rfl
end Go.Proofs.Ytiaiecfnpompcaa.T
namespace Go.Proofs.Ytiaiecfnpompcaa.T
open Go Go.RowKit Go.Proofs.Ytiaiecfnpompcaa.Ab
def m28.o : Nat := 0
def m28.a : List Value := [Value.slice (some { block := 456, off := 0 }) 3 1, Value.slice (some { block := 457, off := 0 }) 4 1]
def m28.s : St := { next := 458, mem := [(457, Blk.c [Value.int IntKind.i64 40, Value.int IntKind.i64 30, Value.int IntKind.i64 50, Value.int IntKind.i64 30]), (456, Blk.c [Value.int IntKind.i64 100, Value.int IntKind.i64 60, Value.int IntKind.i64 50]), (455, Blk.c [Value.int IntKind.i64 (-730), Value.int IntKind.i64 106000]), (426, Blk.c [Value.int IntKind.i64 458, Value.int IntKind.i64 471]), (403, Blk.c [Value.int IntKind.i64 130, Value.int IntKind.i64 60, Value.int IntKind.i64 80, Value.int IntKind.i64 300]), (399, Blk.c [Value.int IntKind.i64 900, Value.bool false, Value.int IntKind.i64 800, Value.bool false, Value.int IntKind.i64 700, Value.bool true, Value.int IntKind.i64 600, Value.bool false]), (1, Blk.c [Value.slice (some { block := 0, off := 0 }) 5 1, Value.int IntKind.i64 300, Value.int IntKind.i64 500]), (0, Blk.c [Value.int IntKind.i64 900, Value.int IntKind.i64 800, Value.int IntKind.i64 700, Value.int IntKind.i64 600, Value.int IntKind.i64 500])] }
def m28.r : Value × St := (Value.tuple { toList := [Value.slice (some { block := 479, off := 0 }) 4 1, Value.int IntKind.i64 0] }, { next := 511, mem := [(479, Blk.c [Value.int IntKind.i64 0, Value.int IntKind.i64 0, Value.int IntKind.i64 1, Value.int IntKind.i64 0]), (457, Blk.c [Value.int IntKind.i64 40, Value.int IntKind.i64 30, Value.int IntKind.i64 50, Value.int IntKind.i64 30]), (456, Blk.c [Value.int IntKind.i64 100, Value.int IntKind.i64 60, Value.int IntKind.i64 50]), (455, Blk.c [Value.int IntKind.i64 (-730), Value.int IntKind.i64 106000]), (426, Blk.c [Value.int IntKind.i64 458, Value.int IntKind.i64 471]), (403, Blk.c [Value.int IntKind.i64 130, Value.int IntKind.i64 60, Value.int IntKind.i64 80, Value.int IntKind.i64 300]), (399, Blk.c [Value.int IntKind.i64 900, Value.bool false, Value.int IntKind.i64 800, Value.bool false, Value.int IntKind.i64 700, Value.bool true, Value.int IntKind.i64 600, Value.bool false]), (1, Blk.c [Value.slice (some { block := 0, off := 0 }) 5 1, Value.int IntKind.i64 300, Value.int IntKind.i64 500]), (0, Blk.c [Value.int IntKind.i64 900, Value.int IntKind.i64 800, Value.int IntKind.i64 700, Value.int IntKind.i64 600, Value.int IntKind.i64 500])] })
set_option maxRecDepth 1000000 in
theorem m28.ok : JL Try.prog JA wr12 1000 60 m28.o (.fn 28) m28.a m28.s = some m28.r := by kernel_rfl
end Go.Proofs.Ytiaiecfnpompcaa.T
namespace Go.Proofs.Ytiaiecfnpompcaa.T
open Go Go.RowKit Go.Proofs.Ytiaiecfnpompcaa.Ab
def m33.o : Nat := 513
def m33.a : List Value := [Value.slice (some { block := 512, off := 0 }) 3 5, Value.agg { toList := [Value.int IntKind.i64 1, Value.int IntKind.i64 9, Value.int IntKind.i64 10] }]
def m33.s : St := { next := 513, mem := [(512, Blk.c [Value.int IntKind.i64 1, Value.int IntKind.i64 0, Value.int IntKind.i64 9, Value.int IntKind.i64 5, Value.int IntKind.i64 2, Value.int IntKind.i64 1, Value.int IntKind.i64 10, Value.int IntKind.i64 19, Value.int IntKind.i64 6, Value.int IntKind.i64 2, Value.int IntKind.i64 2, Value.int IntKind.i64 0, Value.int IntKind.i64 19, Value.int IntKind.i64 6, Value.int IntKind.i64 3]), (511, Blk.c [Value.int IntKind.i64 1, Value.int IntKind.i64 9, Value.int IntKind.i64 10]), (479, Blk.c [Value.int IntKind.i64 0, Value.int IntKind.i64 0, Value.int IntKind.i64 1, Value.int IntKind.i64 0]), (457, Blk.c [Value.int IntKind.i64 40, Value.int IntKind.i64 30, Value.int IntKind.i64 50, Value.int IntKind.i64 30]), (456, Blk.c [Value.int IntKind.i64 100, Value.int IntKind.i64 60, Value.int IntKind.i64 50]), (455, Blk.c [Value.int IntKind.i64 (-730), Value.int IntKind.i64 106000]), (426, Blk.c [Value.int IntKind.i64 458, Value.int IntKind.i64 471]), (403, Blk.c [Value.int IntKind.i64 130, Value.int IntKind.i64 60, Value.int IntKind.i64 80, Value.int IntKind.i64 300]), (399, Blk.c [Value.int IntKind.i64 900, Value.bool false, Value.int IntKind.i64 800, Value.bool false, Value.int IntKind.i64 700, Value.bool true, Value.int IntKind.i64 600, Value.bool false]), (1, Blk.c [Value.slice (some { block := 0, off := 0 }) 5 1, Value.int IntKind.i64 300, Value.int IntKind.i64 500]), (0, Blk.c [Value.int IntKind.i64 900, Value.int IntKind.i64 800, Value.int IntKind.i64 700, Value.int IntKind.i64 600, Value.int IntKind.i64 500])] }
def m33.r : Value × St := (Value.tuple { toList := [Value.slice (some { block := 573, off := 0 }) 5 3, Value.int IntKind.i64 0] }, { next := 574, mem := [(573, Blk.c [Value.int IntKind.i64 1, Value.int IntKind.i64 0, Value.int IntKind.i64 5, Value.int IntKind.i64 1, Value.int IntKind.i64 0, Value.int IntKind.i64 6, Value.int IntKind.i64 2, Value.int IntKind.i64 0, Value.int IntKind.i64 2, Value.int IntKind.i64 3, Value.int IntKind.i64 1, Value.int IntKind.i64 9, Value.int IntKind.i64 3, Value.int IntKind.i64 1, Value.int IntKind.i64 10]), (512, Blk.c [Value.int IntKind.i64 1, Value.int IntKind.i64 0, Value.int IntKind.i64 9, Value.int IntKind.i64 5, Value.int IntKind.i64 2, Value.int IntKind.i64 1, Value.int IntKind.i64 10, Value.int IntKind.i64 19, Value.int IntKind.i64 6, Value.int IntKind.i64 2, Value.int IntKind.i64 2, Value.int IntKind.i64 0, Value.int IntKind.i64 19, Value.int IntKind.i64 6, Value.int IntKind.i64 3]), (511, Blk.c [Value.int IntKind.i64 1, Value.int IntKind.i64 9, Value.int IntKind.i64 10]), (479, Blk.c [Value.int IntKind.i64 0, Value.int IntKind.i64 0, Value.int IntKind.i64 1, Value.int IntKind.i64 0]), (457, Blk.c [Value.int IntKind.i64 40, Value.int IntKind.i64 30, Value.int IntKind.i64 50, Value.int IntKind.i64 30]), (456, Blk.c [Value.int IntKind.i64 100, Value.int IntKind.i64 60, Value.int IntKind.i64 50]), (455, Blk.c [Value.int IntKind.i64 (-730), Value.int IntKind.i64 106000]), (426, Blk.c [Value.int IntKind.i64 458, Value.int IntKind.i64 471]), (403, Blk.c [Value.int IntKind.i64 130, Value.int IntKind.i64 60, Value.int IntKind.i64 80, Value.int IntKind.i64 300]), (399, Blk.c [Value.int IntKind.i64 900, Value.bool false, Value.int IntKind.i64 800, Value.bool false, Value.int IntKind.i64 700, Value.bool true, Value.int IntKind.i64 600, Value.bool false]), (1, Blk.c [Value.slice (some { block := 0, off := 0 }) 5 1, Value.int IntKind.i64 300, Value.int IntKind.i64 500]), (0, Blk.c [Value.int IntKind.i64 900, Value.int IntKind.i64 800, Value.int IntKind.i64 700, Value.int IntKind.i64 600, Value.int IntKind.i64 500])] })
set_option maxRecDepth 1000000 in
theorem m33.ok : JL Try.prog JA wr12 1000 60 m33.o (.fn 33) m33.a m33.s = some m33.r := by kernel_rfl
end Go.Proofs.Ytiaiecfnpompcaa.T
namespace Go.Proofs.Ytiaiecfnpompcaa.T
open Go Go.RowKit Go.Proofs.Ytiaiecfnpompcaa.Ab
def m40.o : Nat := 0
def m40.a : List Value := [Value.slice (some { block := 575, off := 0 }) 3 5, Value.slice (some { block := 577, off := 0 }) 2 3, Value.slice none 0 0]
def m40.s : St := { next := 578, mem := [(577, Blk.c [Value.int IntKind.i64 1, Value.int IntKind.i64 9, Value.int IntKind.i64 10, Value.int IntKind.i64 2, Value.int IntKind.i64 0, Value.int IntKind.i64 3]), (575, Blk.c [Value.int IntKind.i64 1, Value.int IntKind.i64 0, Value.int IntKind.i64 9, Value.int IntKind.i64 5, Value.int IntKind.i64 2, Value.int IntKind.i64 1, Value.int IntKind.i64 10, Value.int IntKind.i64 19, Value.int IntKind.i64 6, Value.int IntKind.i64 2, Value.int IntKind.i64 2, Value.int IntKind.i64 0, Value.int IntKind.i64 19, Value.int IntKind.i64 6, Value.int IntKind.i64 3]), (574, Blk.c [Value.int IntKind.i64 1, Value.int IntKind.i64 9, Value.int IntKind.i64 10, Value.int IntKind.i64 2, Value.int IntKind.i64 0, Value.int IntKind.i64 3]), (512, Blk.c [Value.int IntKind.i64 1, Value.int IntKind.i64 0, Value.int IntKind.i64 9, Value.int IntKind.i64 5, Value.int IntKind.i64 2, Value.int IntKind.i64 1, Value.int IntKind.i64 10, Value.int IntKind.i64 19, Value.int IntKind.i64 6, Value.int IntKind.i64 2, Value.int IntKind.i64 2, Value.int IntKind.i64 0, Value.int IntKind.i64 19, Value.int IntKind.i64 6, Value.int IntKind.i64 3]), (573, Blk.c [Value.int IntKind.i64 1, Value.int IntKind.i64 0, Value.int IntKind.i64 5, Value.int IntKind.i64 1, Value.int IntKind.i64 0, Value.int IntKind.i64 6, Value.int IntKind.i64 2, Value.int IntKind.i64 0, Value.int IntKind.i64 2, Value.int IntKind.i64 3, Value.int IntKind.i64 1, Value.int IntKind.i64 9, Value.int IntKind.i64 3, Value.int IntKind.i64 1, Value.int IntKind.i64 10]), (511, Blk.c [Value.int IntKind.i64 1, Value.int IntKind.i64 9, Value.int IntKind.i64 10]), (479, Blk.c [Value.int IntKind.i64 0, Value.int IntKind.i64 0, Value.int IntKind.i64 1, Value.int IntKind.i64 0]), (457, Blk.c [Value.int IntKind.i64 40, Value.int IntKind.i64 30, Value.int IntKind.i64 50, Value.int IntKind.i64 30]), (456, Blk.c [Value.int IntKind.i64 100, Value.int IntKind.i64 60, Value.int IntKind.i64 50]), (455, Blk.c [Value.int IntKind.i64 (-730), Value.int IntKind.i64 106000]), (426, Blk.c [Value.int IntKind.i64 458, Value.int IntKind.i64 471]), (403, Blk.c [Value.int IntKind.i64 130, Value.int IntKind.i64 60, Value.int IntKind.i64 80, Value.int IntKind.i64 300]), (399, Blk.c [Value.int IntKind.i64 900, Value.bool false, Value.int IntKind.i64 800, Value.bool false, Value.int IntKind.i64 700, Value.bool true, Value.int IntKind.i64 600, Value.bool false]), (1, Blk.c [Value.slice (some { block := 0, off := 0 }) 5 1, Value.int IntKind.i64 300, Value.int IntKind.i64 500]), (0, Blk.c [Value.int IntKind.i64 900, Value.int IntKind.i64 800, Value.int IntKind.i64 700, Value.int IntKind.i64 600, Value.int IntKind.i64 500])] }
def m40.r : Value × St := (Value.tuple { toList := [Value.slice (some { block := 653, off := 0 }) 1 3, Value.int IntKind.i64 0] }, { next := 654, mem := [(653, Blk.c [Value.int IntKind.i64 1, Value.int IntKind.i64 0, Value.int IntKind.i64 6]), (577, Blk.c [Value.int IntKind.i64 1, Value.int IntKind.i64 9, Value.int IntKind.i64 10, Value.int IntKind.i64 2, Value.int IntKind.i64 0, Value.int IntKind.i64 3]), (575, Blk.c [Value.int IntKind.i64 1, Value.int IntKind.i64 0, Value.int IntKind.i64 9, Value.int IntKind.i64 5, Value.int IntKind.i64 2, Value.int IntKind.i64 1, Value.int IntKind.i64 10, Value.int IntKind.i64 19, Value.int IntKind.i64 6, Value.int IntKind.i64 2, Value.int IntKind.i64 2, Value.int IntKind.i64 0, Value.int IntKind.i64 19, Value.int IntKind.i64 6, Value.int IntKind.i64 3]), (574, Blk.c [Value.int IntKind.i64 1, Value.int IntKind.i64 9, Value.int IntKind.i64 10, Value.int IntKind.i64 2, Value.int IntKind.i64 0, Value.int IntKind.i64 3]), (512, Blk.c [Value.int IntKind.i64 1, Value.int IntKind.i64 0, Value.int IntKind.i64 9, Value.int IntKind.i64 5, Value.int IntKind.i64 2, Value.int IntKind.i64 1, Value.int IntKind.i64 10, Value.int IntKind.i64 19, Value.int IntKind.i64 6, Value.int IntKind.i64 2, Value.int IntKind.i64 2, Value.int IntKind.i64 0, Value.int IntKind.i64 19, Value.int IntKind.i64 6, Value.int IntKind.i64 3]), (573, Blk.c [Value.int IntKind.i64 1, Value.int IntKind.i64 0, Value.int IntKind.i64 5, Value.int IntKind.i64 1, Value.int IntKind.i64 0, Value.int IntKind.i64 6, Value.int IntKind.i64 2, Value.int IntKind.i64 0, Value.int IntKind.i64 2, Value.int IntKind.i64 3, Value.int IntKind.i64 1, Value.int IntKind.i64 9, Value.int IntKind.i64 3, Value.int IntKind.i64 1, Value.int IntKind.i64 10]), (511, Blk.c [Value.int IntKind.i64 1, Value.int IntKind.i64 9, Value.int IntKind.i64 10]), (479, Blk.c [Value.int IntKind.i64 0, Value.int IntKind.i64 0, Value.int IntKind.i64 1, Value.int IntKind.i64 0]), (457, Blk.c [Value.int IntKind.i64 40, Value.int IntKind.i64 30, Value.int IntKind.i64 50, Value.int IntKind.i64 30]), (456, Blk.c [Value.int IntKind.i64 100, Value.int IntKind.i64 60, Value.int IntKind.i64 50]), (455, Blk.c [Value.int IntKind.i64 (-730), Value.int IntKind.i64 106000]), (426, Blk.c [Value.int IntKind.i64 458, Value.int IntKind.i64 471]), (403, Blk.c [Value.int IntKind.i64 130, Value.int IntKind.i64 60, Value.int IntKind.i64 80, Value.int IntKind.i64 300]), (399, Blk.c [Value.int IntKind.i64 900, Value.bool false, Value.int IntKind.i64 800, Value.bool false, Value.int IntKind.i64 700, Value.bool true, Value.int IntKind.i64 600, Value.bool false]), (1, Blk.c [Value.slice (some { block := 0, off := 0 }) 5 1, Value.int IntKind.i64 300, Value.int IntKind.i64 500]), (0, Blk.c [Value.int IntKind.i64 900, Value.int IntKind.i64 800, Value.int IntKind.i64 700, Value.int IntKind.i64 600, Value.int IntKind.i64 500])] })
set_option maxRecDepth 1000000 in
theorem m40.ok : JL Try.prog JA wr12 1000 60 m40.o (.fn 40) m40.a m40.s = some m40.r := by kernel_rfl
end Go.Proofs.Ytiaiecfnpompcaa.T
namespace Go.Proofs.Ytiaiecfnpompcaa.T
open Go Go.RowKit Go.Proofs.Ytiaiecfnpompcaa.Ab
def m44.o : Nat := 0
def m44.a : List Value := [Value.slice (some { block := 728, off := 0 }) 3 5, Value.slice (some { block := 574, off := 0 }) 2 3, Value.slice none 0 0, Value.slice (some { block := 729, off := 0 }) 2 3]
def m44.s : St := { next := 730, mem := [(729, Blk.c [Value.int IntKind.i64 1, Value.int IntKind.i64 0, Value.int IntKind.i64 5, Value.int IntKind.i64 2, Value.int IntKind.i64 5, Value.int IntKind.i64 5]), (728, Blk.c [Value.int IntKind.i64 1, Value.int IntKind.i64 0, Value.int IntKind.i64 9, Value.int IntKind.i64 5, Value.int IntKind.i64 2, Value.int IntKind.i64 1, Value.int IntKind.i64 10, Value.int IntKind.i64 19, Value.int IntKind.i64 6, Value.int IntKind.i64 2, Value.int IntKind.i64 2, Value.int IntKind.i64 0, Value.int IntKind.i64 19, Value.int IntKind.i64 6, Value.int IntKind.i64 3]), (727, Blk.c [Value.int IntKind.i64 1]), (655, Blk.c [Value.int IntKind.i64 1, Value.int IntKind.i64 0, Value.int IntKind.i64 5, Value.int IntKind.i64 1, Value.int IntKind.i64 5, Value.int IntKind.i64 15]), (654, Blk.c [Value.int IntKind.i64 1, Value.int IntKind.i64 0, Value.int IntKind.i64 9, Value.int IntKind.i64 5, Value.int IntKind.i64 2, Value.int IntKind.i64 1, Value.int IntKind.i64 10, Value.int IntKind.i64 19, Value.int IntKind.i64 6, Value.int IntKind.i64 2, Value.int IntKind.i64 2, Value.int IntKind.i64 0, Value.int IntKind.i64 19, Value.int IntKind.i64 6, Value.int IntKind.i64 3]), (653, Blk.c [Value.int IntKind.i64 1, Value.int IntKind.i64 0, Value.int IntKind.i64 6]), (577, Blk.c [Value.int IntKind.i64 1, Value.int IntKind.i64 9, Value.int IntKind.i64 10, Value.int IntKind.i64 2, Value.int IntKind.i64 0, Value.int IntKind.i64 3]), (575, Blk.c [Value.int IntKind.i64 1, Value.int IntKind.i64 0, Value.int IntKind.i64 9, Value.int IntKind.i64 5, Value.int IntKind.i64 2, Value.int IntKind.i64 1, Value.int IntKind.i64 10, Value.int IntKind.i64 19, Value.int IntKind.i64 6, Value.int IntKind.i64 2, Value.int IntKind.i64 2, Value.int IntKind.i64 0, Value.int IntKind.i64 19, Value.int IntKind.i64 6, Value.int IntKind.i64 3]), (574, Blk.c [Value.int IntKind.i64 1, Value.int IntKind.i64 9, Value.int IntKind.i64 10, Value.int IntKind.i64 2, Value.int IntKind.i64 0, Value.int IntKind.i64 3]), (512, Blk.c [Value.int IntKind.i64 1, Value.int IntKind.i64 0, Value.int IntKind.i64 9, Value.int IntKind.i64 5, Value.int IntKind.i64 2, Value.int IntKind.i64 1, Value.int IntKind.i64 10, Value.int IntKind.i64 19, Value.int IntKind.i64 6, Value.int IntKind.i64 2, Value.int IntKind.i64 2, Value.int IntKind.i64 0, Value.int IntKind.i64 19, Value.int IntKind.i64 6, Value.int IntKind.i64 3]), (573, Blk.c [Value.int IntKind.i64 1, Value.int IntKind.i64 0, Value.int IntKind.i64 5, Value.int IntKind.i64 1, Value.int IntKind.i64 0, Value.int IntKind.i64 6, Value.int IntKind.i64 2, Value.int IntKind.i64 0, Value.int IntKind.i64 2, Value.int IntKind.i64 3, Value.int IntKind.i64 1, Value.int IntKind.i64 9, Value.int IntKind.i64 3, Value.int IntKind.i64 1, Value.int IntKind.i64 10]), (511, Blk.c [Value.int IntKind.i64 1, Value.int IntKind.i64 9, Value.int IntKind.i64 10]), (479, Blk.c [Value.int IntKind.i64 0, Value.int IntKind.i64 0, Value.int IntKind.i64 1, Value.int IntKind.i64 0]), (457, Blk.c [Value.int IntKind.i64 40, Value.int IntKind.i64 30, Value.int IntKind.i64 50, Value.int IntKind.i64 30]), (456, Blk.c [Value.int IntKind.i64 100, Value.int IntKind.i64 60, Value.int IntKind.i64 50]), (455, Blk.c [Value.int IntKind.i64 (-730), Value.int IntKind.i64 106000]), (426, Blk.c [Value.int IntKind.i64 458, Value.int IntKind.i64 471]), (403, Blk.c [Value.int IntKind.i64 130, Value.int IntKind.i64 60, Value.int IntKind.i64 80, Value.int IntKind.i64 300]), (399, Blk.c [Value.int IntKind.i64 900, Value.bool false, Value.int IntKind.i64 800, Value.bool false, Value.int IntKind.i64 700, Value.bool true, Value.int IntKind.i64 600, Value.bool false]), (1, Blk.c [Value.slice (some { block := 0, off := 0 }) 5 1, Value.int IntKind.i64 300, Value.int IntKind.i64 500]), (0, Blk.c [Value.int IntKind.i64 900, Value.int IntKind.i64 800, Value.int IntKind.i64 700, Value.int IntKind.i64 600, Value.int IntKind.i64 500])] }
def m44.r : Value × St := (Value.tuple { toList := [Value.int IntKind.i64 0, Value.int IntKind.i64 1, Value.int IntKind.i64 0] }, { next := 843, mem := [(729, Blk.c [Value.int IntKind.i64 1, Value.int IntKind.i64 0, Value.int IntKind.i64 5, Value.int IntKind.i64 2, Value.int IntKind.i64 5, Value.int IntKind.i64 5]), (728, Blk.c [Value.int IntKind.i64 1, Value.int IntKind.i64 0, Value.int IntKind.i64 9, Value.int IntKind.i64 5, Value.int IntKind.i64 2, Value.int IntKind.i64 1, Value.int IntKind.i64 10, Value.int IntKind.i64 19, Value.int IntKind.i64 6, Value.int IntKind.i64 2, Value.int IntKind.i64 2, Value.int IntKind.i64 0, Value.int IntKind.i64 19, Value.int IntKind.i64 6, Value.int IntKind.i64 3]), (727, Blk.c [Value.int IntKind.i64 1]), (655, Blk.c [Value.int IntKind.i64 1, Value.int IntKind.i64 0, Value.int IntKind.i64 5, Value.int IntKind.i64 1, Value.int IntKind.i64 5, Value.int IntKind.i64 15]), (654, Blk.c [Value.int IntKind.i64 1, Value.int IntKind.i64 0, Value.int IntKind.i64 9, Value.int IntKind.i64 5, Value.int IntKind.i64 2, Value.int IntKind.i64 1, Value.int IntKind.i64 10, Value.int IntKind.i64 19, Value.int IntKind.i64 6, Value.int IntKind.i64 2, Value.int IntKind.i64 2, Value.int IntKind.i64 0, Value.int IntKind.i64 19, Value.int IntKind.i64 6, Value.int IntKind.i64 3]), (653, Blk.c [Value.int IntKind.i64 1, Value.int IntKind.i64 0, Value.int IntKind.i64 6]), (577, Blk.c [Value.int IntKind.i64 1, Value.int IntKind.i64 9, Value.int IntKind.i64 10, Value.int IntKind.i64 2, Value.int IntKind.i64 0, Value.int IntKind.i64 3]), (575, Blk.c [Value.int IntKind.i64 1, Value.int IntKind.i64 0, Value.int IntKind.i64 9, Value.int IntKind.i64 5, Value.int IntKind.i64 2, Value.int IntKind.i64 1, Value.int IntKind.i64 10, Value.int IntKind.i64 19, Value.int IntKind.i64 6, Value.int IntKind.i64 2, Value.int IntKind.i64 2, Value.int IntKind.i64 0, Value.int IntKind.i64 19, Value.int IntKind.i64 6, Value.int IntKind.i64 3]), (574, Blk.c [Value.int IntKind.i64 1, Value.int IntKind.i64 9, Value.int IntKind.i64 10, Value.int IntKind.i64 2, Value.int IntKind.i64 0, Value.int IntKind.i64 3]), (512, Blk.c [Value.int IntKind.i64 1, Value.int IntKind.i64 0, Value.int IntKind.i64 9, Value.int IntKind.i64 5, Value.int IntKind.i64 2, Value.int IntKind.i64 1, Value.int IntKind.i64 10, Value.int IntKind.i64 19, Value.int IntKind.i64 6, Value.int IntKind.i64 2, Value.int IntKind.i64 2, Value.int IntKind.i64 0, Value.int IntKind.i64 19, Value.int IntKind.i64 6, Value.int IntKind.i64 3]), (573, Blk.c [Value.int IntKind.i64 1, Value.int IntKind.i64 0, Value.int IntKind.i64 5, Value.int IntKind.i64 1, Value.int IntKind.i64 0, Value.int IntKind.i64 6, Value.int IntKind.i64 2, Value.int IntKind.i64 0, Value.int IntKind.i64 2, Value.int IntKind.i64 3, Value.int IntKind.i64 1, Value.int IntKind.i64 9, Value.int IntKind.i64 3, Value.int IntKind.i64 1, Value.int IntKind.i64 10]), (511, Blk.c [Value.int IntKind.i64 1, Value.int IntKind.i64 9, Value.int IntKind.i64 10]), (479, Blk.c [Value.int IntKind.i64 0, Value.int IntKind.i64 0, Value.int IntKind.i64 1, Value.int IntKind.i64 0]), (457, Blk.c [Value.int IntKind.i64 40, Value.int IntKind.i64 30, Value.int IntKind.i64 50, Value.int IntKind.i64 30]), (456, Blk.c [Value.int IntKind.i64 100, Value.int IntKind.i64 60, Value.int IntKind.i64 50]), (455, Blk.c [Value.int IntKind.i64 (-730), Value.int IntKind.i64 106000]), (426, Blk.c [Value.int IntKind.i64 458, Value.int IntKind.i64 471]), (403, Blk.c [Value.int IntKind.i64 130, Value.int IntKind.i64 60, Value.int IntKind.i64 80, Value.int IntKind.i64 300]), (399, Blk.c [Value.int IntKind.i64 900, Value.bool false, Value.int IntKind.i64 800, Value.bool false, Value.int IntKind.i64 700, Value.bool true, Value.int IntKind.i64 600, Value.bool false]), (1, Blk.c [Value.slice (some { block := 0, off := 0 }) 5 1, Value.int IntKind.i64 300, Value.int IntKind.i64 500]), (0, Blk.c [Value.int IntKind.i64 900, Value.int IntKind.i64 800, Value.int IntKind.i64 700, Value.int IntKind.i64 600, Value.int IntKind.i64 500])] })
set_option maxRecDepth 1000000 in
theorem m44.ok : JL Try.prog JA wr12 1000 60 m44.o (.fn 44) m44.a m44.s = some m44.r := by kernel_rfl
end Go.Proofs.Ytiaiecfnpompcaa.T
namespace Go.Proofs.Ytiaiecfnpompcaa.T
open Go Go.RowKit Go.Proofs.Ytiaiecfnpompcaa.Ab
set_option linter.unusedVariables false
def Xg5 (f : FuncId) : Option (Nat → List Value → St → Ans) :=
 match Nat.beq f 17 with
 | true => some (hit m17.o m17.a m17.s m17.r)
 | false =>
  match Nat.beq f 28 with
  | true => some (hit m28.o m28.a m28.s m28.r)
  | false =>
   match Nat.beq f 33 with
   | true => some (hit m33.o m33.a m33.s m33.r)
   | false =>
    match Nat.beq f 40 with
    | true => some (hit m40.o m40.a m40.s m40.r)
    | false =>
     match Nat.beq f 44 with
     | true => some (hit m44.o m44.a m44.s m44.r)
     | false =>
      JA f
theorem Xg4 : XfV Try.prog Xg5 := by
 intro f g hf ro args st v st' h
 unfold Xg5 at hf
 split at hf
 ·rename_i q
  obtain rfl := Nat.eq_of_beq_eq_true q
  obtain rfl := Option.some.inj hf
  exact XcT m17.ok h
 split at hf
 ·rename_i q
  obtain rfl := Nat.eq_of_beq_eq_true q
  obtain rfl := Option.some.inj hf
  exact XcT m28.ok h
 split at hf
 ·rename_i q
  obtain rfl := Nat.eq_of_beq_eq_true q
  obtain rfl := Option.some.inj hf
  exact XcT m33.ok h
 split at hf
 ·rename_i q
  obtain rfl := Nat.eq_of_beq_eq_true q
  obtain rfl := Option.some.inj hf
  exact XcT m40.ok h
 split at hf
 ·rename_i q
  obtain rfl := Nat.eq_of_beq_eq_true q
  obtain rfl := Option.some.inj hf
  exact XcT m44.ok h
 exact XcE f g hf ro args st v st' h
set_option maxRecDepth 1000000 in
theorem Xgy : yes (JL Try.prog Xg5 wr12 1000 60 0 (.fn 15) [] ⟨0, []⟩) = true := by kernel_rfl
def X2.f : Option Bool := some true
theorem X2.calls (r : Bool) (w : World) (h : X2.f = some r) : Calls Try.prog 15 #[] w fun e w' => e = .returned (.bool r) ∧ Below w.heap.size w w' := by
 obtain rfl : true = r := Option.some.inj h
 obtain ⟨st, hs⟩ := XgR Xgy
 exact Xf8 (by kernel_rfl) Xid Xg4 rfl rfl hs w
end Go.Proofs.Ytiaiecfnpompcaa.T
namespace Go.Proofs.Ytiaiecfnpompcaa.T
open Go.RowKit Go.Maps Go.Proofs.YtiaiecfnpompcaaW.PrintWords Go.Proofs.YtiaiecfnpompcaaW.PrintLast
set_option linter.unusedVariables false
theorem Xgx : laidOutB Try.prog = true := by kernel_rfl
theorem XgX : (79 : TypeId) < Try.prog.types.size := of_decide_eq_true (by kernel_rfl)
theorem Xik : (match Try.prog.underlying 79 with | some (.array _ _) | some (.struct _) => true | _ => false) = true := by rw [Try.underlying79]
set_option maxRecDepth 1000000 in
theorem Xiq : WideMaps.KeyLaw Try.prog 79 := deep_law_laid Xgx (m := 2) (by omega) XgX (by kernel_rfl) Xik
theorem JQ : Keyed Try.prog 79 := Keyed.of_law Xiq
instance decS79 : DecidableEq S79 := fun a b => decidable_of_iff (a.f0 = b.f0 ∧ a.f1 = b.f1 ∧ a.f2 = b.f2) ⟨fun h => by cases a; cases b; simp at h; simp [h], fun h => by subst h; exact ⟨rfl, rfl, rfl⟩⟩
def vC (x : S79) : Value := .agg #[.int .i64 x.f0, .int .i64 x.f1, .int .i64 x.f2]
def okC (x : S79) : Prop := (Lit.int .i64 x.f0).wf = true ∧ (Lit.int .i64 x.f1).wf = true ∧ (Lit.int .i64 x.f2).wf = true
def litC (x : S79) : Lit := .string (keyBytes [.int .i64 x.f0, .int .i64 x.f1, .int .i64 x.f2])
theorem J2 {x : S79} (h : okC x) : keyOf Try.prog 79 (vC x) = some (litC x) := by
 have hkt : Try.prog.keyType 79 = true := by kernel_rfl
 obtain ⟨m, hm⟩ : ∃ m, Try.prog.types.size = m + 2 := ⟨Try.prog.types.size - 2, by have h : (79 : Nat) < Try.prog.types.size := XgX; omega⟩
 have hc : Try.prog.cellsOf 79 = 3 := by kernel_rfl
 have hc3 : Try.prog.cellsOf 3 = 1 := by kernel_rfl
 have hc77 : Try.prog.cellsOf 77 = 1 := by kernel_rfl
 obtain ⟨h0, h1, h2⟩ := h
 unfold keyOf vC
 simp only [Try.underlying79]
 rw [if_pos (by simp [hkt, Value.formed, Try.underlying79, hc]), hm]
 unfold Program.keyLits
 simp only [Try.underlying79, Value.cells]
 rw [if_pos (by rw [hc]; exact ⟨rfl, by simp⟩)]
 simp [hc3, hc77, Program.keyLits, Try.underlying77, Try.underlying3, h0, h1, h2, litC]
theorem XgS {x y : S79} (h : vC x = vC y) : x = y := by
 cases x; cases y
 simp [vC] at h
 simp [h]
theorem XeM {x y : S79} (hx : okC x) (hy : okC y) (h : litC x = litC y) : x = y := XgS (JQ.inj (J2 hx) (by rw [h]; exact J2 hy))
theorem YH {x y : S79} (hx : okC x) (hy : okC y) : (litC x).sameKey (litC y) = decide (x = y) := by
 by_cases h : x = y
 ·subst h; simp [litC, Lit.sameKey]
 ·rw [decide_eq_false h]
  have : ¬ litC x = litC y := fun e => h (XeM hx hy e)
  simp only [litC, Lit.sameKey] at this ⊢
  simpa using this
def setC (l : List S79) : DataW Unit := setOf (.lit (.bool true)) (l.map litC)
theorem XaK (l : List S79) (x : S79) : setC (l ++ [x]) = (setC l).put (litC x) (.lit (.bool true)) := by
 unfold setC; rw [List.map_append]; exact setOf_snoc _ _ _
theorem Xeu : setC [] = .map [] := by simp [setC, setOf]
def addC (acc : List S79) (x : S79) : List S79 := if x ∈ acc then acc else acc ++ [x]
def XD (l : List S79) : List S79 := l.foldl addC []
theorem XdP : ∀ (l acc : List S79), (∀ x ∈ l, okC x) → (∀ x ∈ acc, okC x) → (l.map litC).foldl addKey (acc.map litC) = (l.foldl addC acc).map litC
 | [], _, _, _ => rfl
 | x :: l, acc, h, ha => by
  have hx := h x (by simp)
  have e : addKey (acc.map litC) (litC x) = (addC acc x).map litC := by
   unfold addKey addC
   have e1 : (acc.map litC).any (fun y => y.sameKey (litC x)) = decide (x ∈ acc) := by
    rw [Bool.eq_iff_iff, List.any_eq_true, decide_eq_true_eq]
    constructor
    ·rintro ⟨y, hy, hs⟩
     obtain ⟨z, hz, rfl⟩ := List.mem_map.1 hy
     rw [YH (ha z hz) hx, decide_eq_true_eq] at hs
     exact hs ▸ hz
    ·intro hm
     exact ⟨litC x, List.mem_map.2 ⟨x, hm, rfl⟩, by rw [YH hx hx]; simp⟩
   rw [e1]
   by_cases hm : x ∈ acc
   ·rw [if_pos (decide_eq_true hm), if_pos hm]
   ·rw [if_neg (by simpa using hm), if_neg hm, List.map_append]; rfl
  show (l.map litC).foldl addKey (addKey (acc.map litC) (litC x)) = _
  rw [e]
  refine XdP l _ (fun y hy => h y (by simp [hy])) ?_
  intro y hy
  unfold addC at hy
  split at hy
  ·exact ha y hy
  ·rcases List.mem_append.1 hy with q | q
   ·exact ha y q
   ·rw [List.mem_singleton] at q; subst q; exact hx
theorem XaJ {l : List S79} (h : ∀ x ∈ l, okC x) : Maps.size (setC l) = ((XD l).length : Int) := by
 unfold setC
 rw [size_setOf _ _ (fun x hx => by
  obtain ⟨y, hy, rfl⟩ := List.mem_map.1 hx
  exact JQ.key (J2 (h y hy)))]
 have := XdP l [] h (fun x hx => by simp at hx)
 rw [List.map_nil] at this
 rw [this]
 simp [XD]
theorem XbH {l : List S79} (h : ∀ x ∈ l, okC x) {x : S79} (hx : okC x) : Maps.has (setC l) (litC x) = decide (x ∈ l) := by
 unfold setC
 rw [has_setOf _ _ _ (fun y hy => by
  obtain ⟨z, hz, rfl⟩ := List.mem_map.1 hy
  exact JQ.key (J2 (h z hz)))]
 rw [Bool.eq_iff_iff, List.any_eq_true, decide_eq_true_eq]
 constructor
 ·rintro ⟨y, hy, hs⟩
  obtain ⟨z, hz, rfl⟩ := List.mem_map.1 hy
  rw [YH (h z hz) hx, decide_eq_true_eq] at hs
  exact hs ▸ hz
 ·intro hm
  exact ⟨litC x, List.mem_map.2 ⟨x, hm, rfl⟩, by rw [YH hx hx]; simp⟩
end Go.Proofs.Ytiaiecfnpompcaa.T
namespace Go.Proofs.Ytiaiecfnpompcaa.T
open Go.RowKit Go.Maps Go.Proofs.YtiaiecfnpompcaaW.PrintWords Go.Proofs.YtiaiecfnpompcaaW.PrintLast Go.Proofs.YtiaiecfnpompcaaW.PrintMore
set_option linter.unusedVariables false
set_option linter.unusedSimpArgs false
set_option maxRecDepth 100000 in
theorem Xig (key : Value) (kl : Lit) (h : keyOf Try.prog 79 key = some kl) : ∃ x : {x : S79 // okC x}, key = vC x.1 := by
 have hkt : Try.prog.keyType 79 = true := by kernel_rfl
 obtain ⟨m, hm⟩ : ∃ m, Try.prog.types.size = m + 2 := ⟨Try.prog.types.size - 2, by have h : (79 : Nat) < Try.prog.types.size := XgX; omega⟩
 have hc : Try.prog.cellsOf 79 = 3 := by kernel_rfl
 have hc3 : Try.prog.cellsOf 3 = 1 := by kernel_rfl
 have hc77 : Try.prog.cellsOf 77 = 1 := by kernel_rfl
 unfold keyOf at h
 simp only [Try.underlying79] at h
 split at h
 ·rename_i hf
  rw [Bool.and_eq_true] at hf
  have hf2 := hf.2
  cases key with
  | agg cs =>
   simp only [Value.formed, Try.underlying79, hc, beq_iff_eq] at hf2
   obtain ⟨l⟩ := cs
   have hl : l.length = 3 := hf2
   clear hf2 hf
   match l, hl with
   | [a, b, c], _ =>
    rw [hm] at h
    unfold Program.keyLits at h
    simp only [Try.underlying79, Value.cells] at h
    rw [if_pos (by rw [hc]; exact ⟨rfl, by simp⟩)] at h
    simp [hc3, hc77, Program.keyLits, Try.underlying77, Try.underlying3] at h
    cases a with
    | int k1 n1 =>
     by_cases e1 : k1 = IntKind.i64 ∧ (Lit.int .i64 n1).wf = true
     ·cases b with
      | int k2 n2 =>
       by_cases e2 : k2 = IntKind.i64 ∧ (Lit.int .i64 n2).wf = true
       ·cases c with
        | int k3 n3 =>
         by_cases e3 : k3 = IntKind.i64 ∧ (Lit.int .i64 n3).wf = true
         ·obtain ⟨rfl, q1⟩ := e1
          obtain ⟨rfl, q2⟩ := e2
          obtain ⟨rfl, q3⟩ := e3
          exact ⟨⟨⟨n1, n2, n3⟩, q1, q2, q3⟩, rfl⟩
         ·simp [e1, e2, e3] at h
        | _ => simp [e1, e2] at h
       ·simp [e1, e2] at h
      | _ => simp [e1] at h
     ·simp [e1] at h
    | _ => simp at h
  | _ => simp [Value.formed, Try.underlying79] at hf2
 ·simp at h
theorem invB (v : Value) (y : DataW Unit × List MemPlace) (h : plainElem Try.prog 4 v = some y) : ∃ c : Bool, v = .bool c := by
 cases v <;> simp [plainElem, Try.underlying4] at h
 exact ⟨_, rfl⟩
end Go.Proofs.Ytiaiecfnpompcaa.T
namespace Go.Proofs.Ytiaiecfnpompcaa.T
open Go.RowKit Go.Maps Go.Proofs.YtiaiecfnpompcaaW.PrintWords Go.Proofs.YtiaiecfnpompcaaW.PrintLast Go.Proofs.YtiaiecfnpompcaaW.PrintMore
set_option linter.unusedVariables false
set_option linter.unusedSimpArgs false
theorem Y2 : ∀ (l acc : List S79), acc.Nodup → (l.foldl addC acc).Nodup ∧ ∀ y, y ∈ l.foldl addC acc ↔ y ∈ acc ∨ y ∈ l
 | [], acc, h => ⟨h, by simp⟩
 | x :: l, acc, h => by
  have hn : (addC acc x).Nodup := by
   unfold addC
   split
   ·exact h
   ·rename_i hx
    rw [List.nodup_append]
    refine ⟨h, by simp, ?_⟩
    intro a ha b hb e
    rw [List.mem_singleton] at hb
    subst hb; subst e
    exact hx ha
  have hm : ∀ y, y ∈ addC acc x ↔ y ∈ acc ∨ y = x := by
   intro y
   unfold addC
   split
   ·rename_i hx
    exact ⟨.inl, fun q => q.elim id (fun e => e ▸ hx)⟩
   ·simp
  obtain ⟨h1, h2⟩ := Y2 l (addC acc x) hn
  refine ⟨h1, fun y => ?_⟩
  rw [List.foldl_cons, h2, hm, List.mem_cons]
  constructor
  ·rintro ((q | q) | q)
   ·exact .inl q
   ·exact .inr (.inl q)
   ·exact .inr (.inr q)
  ·rintro (q | q | q)
   ·exact .inl (.inl q)
   ·exact .inl (.inr q)
   ·exact .inr q
theorem Xhx (acc : List S79) (x : S79) : (addC acc x).length ≤ acc.length + 1 := by unfold addC; split <;> simp
theorem Jo : ∀ (l acc : List S79), (l.foldl addC acc).length ≤ acc.length + l.length
 | [], acc => by simp
 | x :: l, acc => by
  have := Jo l (addC acc x)
  have h2 := Xhx acc x
  rw [List.foldl_cons, List.length_cons]; omega
def mkB (i : Int) : Value := .bool (decide (i ≠ 0))
theorem Xhe (key : Value) (kl : Lit) (h : keyOf Try.prog 79 key = some kl) : ∃ x : S79, key = vC x := by
 obtain ⟨x, e⟩ := Xig key kl h
 exact ⟨x.1, e⟩
theorem XcG {x : S79} {kl : Lit} (h : keyOf Try.prog 79 (vC x) = some kl) : okC x := by
 obtain ⟨y, e⟩ := Xig _ kl h
 have := XgS e
 rw [this]; exact y.2
theorem Xif (v : Value) (y : DataW Unit × List MemPlace) (h : plainElem Try.prog 4 v = some y) : ∃ c : Int, v = mkB c := by
 obtain ⟨c, rfl⟩ := invB v y h
 cases c
 ·exact ⟨0, rfl⟩
 ·exact ⟨1, rfl⟩
end Go.Proofs.Ytiaiecfnpompcaa.T
namespace Go.Proofs.Ytiaiecfnpompcaa.T
open Go.RowKit Go.Proofs.YtiaiecfnpompcaaW.PrintWords
set_option linter.unusedVariables false


def outside (lo hi x : Int) : Bool := decide (x < lo) || decide (hi < x)

theorem within_1.calls (b1 b2 : Nat) (lo hi x : Int) (w : World) (h1 : w.cell? ⟨b1, 0, none⟩ = some (.int .i64 lo)) (h2 : w.cell? ⟨b2, 0, none⟩ = some (.int .i64 hi)) :
  Calls Try.prog 82 #[.int .i64 x, .pointer (some ⟨b1, 0, none⟩), .pointer (some ⟨b2, 0, none⟩)] w fun e w' => e = .returned (.bool (outside lo hi x)) ∧ w = w' := by
 by_cases h : x < lo
 ·go_enter Try.func82, Try.ntmps82
  go_wp2
  go_ret
  exact ⟨by simp [outside, h], rfl⟩
 ·go_enter Try.func82, Try.ntmps82
  go_wp2
  go_ret
  exact ⟨by simp [outside]; omega, rfl⟩

def Xf0 (P : Program) (g : Nat) (lb : Array Value) (p : Int → Bool) (w : World) : Prop :=
 ∀ (x : Int) (q : Nat), Calls P g (#[.int .i64 x] ++ lb) (w.drewN q) fun e w' => e = .returned (.bool (p x)) ∧ w.drewN q = w'

theorem XeY {p : Int → Bool} {xs : List Int} {i : Int} (h0 : 0 ≤ i) (h1 : i < xs.length) : (xs.take (i.toNat + 1)).any p = ((xs.take i.toNat).any p || p (rd xs i)) := by
 obtain ⟨k, rfl⟩ : ∃ k : Nat, i = k := ⟨i.toNat, by omega⟩
 have hk : k < xs.length := by omega
 have : xs.take (k + 1) = xs.take k ++ [rd xs k] := by
  rw [List.take_succ_eq_append_getElem hk]; congr 2; simp [rd, hk]
 simp only [Int.toNat_natCast]; rw [this, List.any_append]; simp

theorem XhZ (g : Nat) (lb : Array Value) (p : Int → Bool) (eg : ∀ args w, (callFunc g args).run Try.prog w = .ok (.enter g args) w) (A : Option Addr) (c : Nat) (xs : List Int) (w : World)
  (hr : Kd.C (Kd.int .i64) w A xs.length xs) (hb : xs.length ≤ 9223372036854775807) (hp : Xf0 Try.prog g lb p w) :
  Calls Try.prog 103 #[.slice A xs.length c, .func (.func g) #[] lb] w fun e w' => (∃ n : Int, e = .returned (.int .i64 n) ∧ (decide (0 ≤ n)) = xs.any p) ∧ Xq w w' := by
 have HP : Hid (Xf0 Try.prog g lb p w) := hp
 have HR : Hid (Kd.C (Kd.int .i64) w A xs.length xs) := hr
 clear hp hr
 go_enter Try.func103, Try.ntmps103
 go_wp2
 go_loopg [5, 8] xs.length (fun gg _ s8 wr => ∃ (i : Int) (q : Nat), 0 ≤ i ∧ i ≤ xs.length ∧ xs.length - i.toNat ≤ gg ∧ s8 = .int .i64 i ∧ wr = w.drewN q ∧ Hid ((xs.take i.toNat).any p = false))
 case atStart => exact ⟨0, 0, by omega, by omega, by omega, rfl, rfl, rfl⟩
 case round =>
  obtain ⟨i, q, h0, h1, hg, rfl, rfl, hA⟩ := hrel
  by_cases hlt : i < xs.length
  ·obtain ⟨ad, hAd, hcell⟩ := Kd.at_int HR.out i (by omega) (by omega)
   subst hAd
   have HC := HP.out (rd xs i) 
   clear HP
   cases hq : p (rd xs i) with
   | true =>
    rw [hq] at HC
    have HQ : Hid (p (rd xs i) = true) := hq
    clear hq
    go_wp2_with (go_at_fn g; refine (HC _).mono ?_; rintro e w' ⟨rfl, rfl⟩)
    go_ret
    refine ⟨⟨i, rfl, ?_⟩, ⟨_, rfl⟩⟩
    have := XeY (p := p) h0 (i := i) (xs := xs) hlt
    rw [HQ.out, hA.out] at this
    rw [decide_eq_true h0, eq_comm, List.any_eq_true]
    obtain ⟨y, hy, hp⟩ := List.any_eq_true.1 (by rw [this]; rfl : (xs.take (i.toNat + 1)).any p = true)
    exact ⟨y, List.mem_of_mem_take hy, hp⟩
   | false =>
    rw [hq] at HC
    have HQ : Hid (p (rd xs i) = false) := hq
    clear hq
    go_wp2_with (go_at_fn g; refine (HC _).mono ?_; rintro e w' ⟨rfl, rfl⟩)
    go_roundg (xs.length - (i+1).toNat)
    case measure => omega
    case rel =>
     refine ⟨i + 1, _, by omega, by omega, by omega, rfl, rfl, ?_⟩
     have := XeY (p := p) h0 (i := i) (xs := xs) hlt
     rw [HQ.out, hA.out] at this
     show (xs.take (i + 1).toNat).any p = false
     rw [show (i + 1).toNat = i.toNat + 1 by omega, this]; rfl
  ·clear HP
   go_wp2
   go_ret
   refine ⟨⟨-1, rfl, ?_⟩, ⟨_, rfl⟩⟩
   have := hA.out
   rw [List.take_of_length_le (by omega)] at this
   rw [this]; rfl

theorem Xei (g : Nat) (lb : Array Value) (p : Int → Bool) (eg : ∀ args w, (callFunc g args).run Try.prog w = .ok (.enter g args) w) (A : Option Addr) (c : Nat) (xs : List Int) (w : World)
  (hr : Kd.C (Kd.int .i64) w A xs.length xs) (hb : xs.length ≤ 9223372036854775807) (hp : Xf0 Try.prog g lb p w) :
  Calls Try.prog 81 #[.slice A xs.length c, .func (.func g) #[] lb] w fun e w' => e = .returned (.bool (xs.any p)) ∧ Xq w w' := by
 have HP : Hid (Xf0 Try.prog g lb p w) := hp
 have HR : Hid (Kd.C (Kd.int .i64) w A xs.length xs) := hr
 clear hp hr
 go_enter Try.func81, Try.ntmps81
 go_wp2_with (go_at_call 103; refine (XhZ g lb p eg A c xs _ HR.out hb HP.out).mono ?_; rintro e w' ⟨⟨n, rfl, hn⟩, hd⟩; have HN := hid hn; have HD := hid hd; clear hn hd)
 go_ret
 exact ⟨by rw [← HN.out]; rfl, HD.out⟩

def Yd.f (a0 : Int) (a1 : Int) (l2 : List Int) : Option Bool := some (!(l2.any (outside a0 a1)))
theorem Yd.calls (a0 a1 : Int) (A2 : Option Addr) (c2 : Nat) (l2 : List Int) (r : Bool) (w : World) (hr2 : Kd.C (Kd.int .i64) w A2 l2.length l2) (hc2 : l2.length ≤ c2) (h : Yd.f a0 a1 l2 = some r) :
  Calls Try.prog 56 #[.int .i64 a0, .int .i64 a1, .slice A2 l2.length c2] w fun e w' => e = .returned (.bool r) ∧ Below w.heap.size w w' := by
 have hb : l2.length ≤ 9223372036854775807 := hr2.2.1
 obtain rfl : (!(l2.any (outside a0 a1))) = r := Option.some.inj h
 have HR := hid hr2
 clear h hr2 hc2
 go_enter Try.func56, Try.ntmps56
 go_wp2_with fail
 refine (Xei 82 _ (outside a0 a1) (enters_of Try.func82 (by kernel_rfl) rfl) A2 c2 l2 _ ?rd hb ?at_).mono ?_
 case rd => exact Kd.C_below HR.out (((Below.refl _ _).alloc (Nat.le_refl _) _).alloc (by simp) _)
 case at_ => exact fun x q => within_1.calls _ _ a0 a1 x _ (by simp) (by simp)
 rintro e w' ⟨rfl, hd⟩
 have HD := hid hd; clear hd
 go_wp2_with fail
 go_ret
 exact ⟨rfl, (((Below.refl _ _).alloc (Nat.le_refl _) _).alloc (by simp) _).trans (HD.out.below.mono (by simp; omega))⟩
end Go.Proofs.Ytiaiecfnpompcaa.T
namespace Go.Proofs.Ytiaiecfnpompcaa.T
open Go.RowKit Go.Proofs.YtiaiecfnpompcaaW.PrintWords
set_option linter.unusedVariables false
set_option linter.unusedSimpArgs false
def Ev {α : Type} (F : Nat → Option α) (v : α) : Prop := ∃ k0, ∀ k, k0 ≤ k → F k = some v
theorem Ev.of {α : Type} {F : Nat → Option α} {v : α} (h : ∀ k, F k = some v) : Ev F v := ⟨0, fun k _ => h k⟩
theorem Ev.pure {α : Type} (v : α) : Ev (fun _ => some v) v := ⟨0, fun _ _ => rfl⟩
theorem Ev.bind {α β : Type} {F : Nat → Option α} {G : Nat → α → Option β} {v : α} {u : β} (h : Ev F v) (h2 : Ev (fun k => G k v) u) : Ev (fun k => (F k).bind (G k)) u := by
 obtain ⟨a, ha⟩ := h
 obtain ⟨b, hb⟩ := h2
 exact ⟨max a b, fun k hk => by show (F k).bind (G k) = _; rw [ha k (by omega)]; exact hb k (by omega)⟩
theorem Ev.succ {α : Type} {F : Nat → Option α} {v : α} (h : Ev (fun k => F (k + 1)) v) : Ev F v := by
 obtain ⟨a, ha⟩ := h
 exact ⟨a + 1, fun k hk => by obtain ⟨j, rfl⟩ : ∃ j, k = j + 1 := ⟨k - 1, by omega⟩; exact ha j (by omega)⟩
theorem Ev.ite {α : Type} {p : Prop} [Decidable p] {F G : Nat → Option α} {v : α} (h1 : p → Ev F v) (h2 : ¬ p → Ev G v) : Ev (fun k => if p then F k else G k) v := by
 by_cases h : p
 ·simpa [h] using h1 h
 ·simpa [h] using h2 h
theorem Ev.ex {α : Type} {F : Nat → Option α} {v : α} (h : Ev F v) : ∃ k, F k = some v := by obtain ⟨a, ha⟩ := h; exact ⟨a, ha a (Nat.le_refl _)⟩
theorem YD {x : Int} (h0 : -9223372036854775808 ≤ x) (h1 : x ≤ 9223372036854775807) : wrap64 x = x := by unfold wrap64; omega

theorem J6 (a b x : Int) : Yd.f a b [x] = some (decide (a ≤ x ∧ x ≤ b)) := by
 unfold Yd.f
 congr 1
 simp only [List.any_cons, List.any_nil, Bool.or_false, outside]
 by_cases h1 : x < a
 ·have : ¬ (a ≤ x ∧ x ≤ b) := by omega
  simp [h1, this]
 ·by_cases h2 : b < x
  ·have : ¬ (a ≤ x ∧ x ≤ b) := by omega
   simp [h2, this]
  ·have : a ≤ x ∧ x ≤ b := by omega
   simp [h1, h2, this]
theorem XcA (a b x y : Int) : Yd.f a b [x, y] = some (decide ((a ≤ x ∧ x ≤ b) ∧ a ≤ y ∧ y ≤ b)) := by
 have h1 := J6 a b x
 have h2 := J6 a b y
 unfold Yd.f at *
 simp only [Option.some.injEq, List.any_cons, List.any_nil, Bool.or_false] at *
 rw [Bool.not_or, h1, h2]
 by_cases g1 : a ≤ x ∧ x ≤ b <;> by_cases g2 : a ≤ y ∧ y ≤ b <;> simp [g1, g2]
def okP (p : S46) : Prop := (1 ≤ p.f0 ∧ p.f0 ≤ 100000) ∧ 1 ≤ p.f1 ∧ p.f1 ≤ 10000000
instance (p : S46) : Decidable (okP p) := by unfold okP; infer_instance
end Go.Proofs.Ytiaiecfnpompcaa.T
namespace Go.Proofs.Ytiaiecfnpompcaa.T
open Go.RowKit Go.Proofs.YtiaiecfnpompcaaW.PrintWords Go.Proofs.YtiaiecfnpompcaaW.PrintLast Go.Proofs.YtiaiecfnpompcaaW.PrintMore
attribute [local go_sem] XX XW X6 X5 XQ XP X0 XZ
set_option linter.unusedVariables false
set_option linter.unusedSimpArgs false
attribute [local go_sem] XO

def XM.f (l0 : List Int) : Option (Bool) := (Yd.f 0 1000 l0).bind fun t151 => (some t151)
set_option maxHeartbeats 8000000 in
set_option maxRecDepth 100000 in
theorem XM.calls (A0 : Option Addr) (c0 : Nat) (l0 : List Int) (r : Bool) (w : World) (hr0 : Kd.C (Kd.int .i64) w A0 l0.length l0) (hc0 : l0.length ≤ c0) (h : XM.f l0 = some r) :
  Calls Try.prog 90 #[.slice A0 l0.length c0] w fun e w' => e = .returned (.bool r) ∧ Below w.heap.size w w' := by
 have HR0 := Xa.mk hr0
 have HC0 := Xa.mk hc0
 clear hr0 hc0
 have HB := Xa.mk (Below.refl w.heap.size w)
 have H : ((Yd.f 0 1000 l0).bind fun t151 => (some t151)) = some r := h
 clear h
 replace H := Option.bind_eq_some_iff.mp H
 obtain ⟨t151, A20, H⟩ := H; (try dsimp only at H)
 have A2 := Xa.mk A20
 clear A20
 obtain rfl := Option.some.inj H
 go_enter Try.func90, Try.ntmps90
 go_wp2_with (first | ((with_reducible refine Xp (f := 56) rfl ?_); refine XL (some 4) rfl rfl Try.func56 (by kernel_rfl) rfl #[.int .i64 0, .int .i64 1000, .slice A0 l0.length c0] rfl (by (try simp only [List.map_toArray, List.map_cons, List.map_nil]); first | done | rfl | (simp only [List.length_drop, List.length_take]; rfl)) ?_; (with_reducible refine (Yd.calls 0 1000 _ _ l0 t151 _ ?side1 ?side2 A2.out).mono ?_); (case side1 => repeat (first | exact HR0.out | (with_reducible refine Kd.C_alloc ?_ _) | (with_reducible refine Kd.C_drewN ?_ _) | (with_reducible refine Kd.C_drew ?_))); (case side2 => exact HC0.out); rintro e w3 ⟨rfl, hb⟩; refine ⟨_, rfl, ?_⟩; replace HB := Xa.mk (Xi HB.out hb); (try clear hb); (try clear hb2); (try clear hk); (try clear hi)))
 go_ret
 exact ⟨by first | rfl | (simp [errW_none, errW_some] <;> rfl) | (simp [*, errW_none, errW_some] <;> rfl), by repeat (first | (with_reducible first | exact HB.out | apply Xs | apply Xo | apply Xl) | exact HB.out)⟩

end Go.Proofs.Ytiaiecfnpompcaa.T
namespace Go.Proofs.Ytiaiecfnpompcaa.T
open Go.RowKit Go.Proofs.YtiaiecfnpompcaaW.PrintWords Go.Proofs.YtiaiecfnpompcaaW.PrintLast Go.Proofs.YtiaiecfnpompcaaW.PrintMore
attribute [local go_sem] XX XW X6 X5 XQ XP X0 XZ
set_option linter.unusedVariables false
set_option linter.unusedSimpArgs false
attribute [local go_sem] XO

def X4.f (a0 : Int) (a1 : Int) : Option (Bool) := (Yd.f 0 100000 (([a0, a1] : List Int))).bind fun t155 => (if t155 = true then (some (decide (a0 ≤ a1))) else (some false))
set_option maxHeartbeats 8000000 in
set_option maxRecDepth 100000 in
theorem X4.calls (a0 : Int) (a1 : Int) (r : Bool) (w : World) (h : X4.f a0 a1 = some r) :
  Calls Try.prog 91 #[.int .i64 a0, .int .i64 a1] w fun e w' => e = .returned (.bool r) ∧ Below w.heap.size w w' := by
 have HB := Xa.mk (Below.refl w.heap.size w)
 have H : ((Yd.f 0 100000 (([a0, a1] : List Int))).bind fun t155 => (if t155 = true then (some (decide (a0 ≤ a1))) else (some false))) = some r := h
 clear h
 obtain ⟨y152, hy152⟩ : ∃ y_ : List Int, y_ = (([a0, a1] : List Int)) := ⟨_, rfl⟩
 replace H : ((Yd.f 0 100000 y152).bind fun t155 => (if t155 = true then (some (decide (a0 ≤ a1))) else (some false))) = some r := by first | (rw [hy152]; with_reducible exact H) | (have H2_ := (Option.bind_some _ _).symm.trans H; rw [hy152]; with_reducible exact H2_) | (have H2_ := (Option.bind_some _ _).symm.trans H; with_reducible exact H2_) | with_reducible exact H | (rw [hy152]; exact H) | exact H
 have Ny152 := Xa.mk hy152
 clear hy152
 replace H := Option.bind_eq_some_iff.mp H
 obtain ⟨t155, A30, H⟩ := H; (try dsimp only at H)
 have A3 := Xa.mk A30
 clear A30
 by_cases c4 : t155 = true
 ·subst c4
  have H1 : (some (decide (a0 ≤ a1))) = some r := by rw [if_pos rfl] at H; exact H
  clear H
  have H := H1
  clear H1
  obtain rfl := Option.some.inj H
  go_enter Try.func91, Try.ntmps91
  go_wp2_with (first | ((with_reducible refine Xz (N := 7) rfl ?_); refine Kd.R_lit (Kd.int .i64) _ 3 ?hg (N := 7) ?hd (xs := ([a0, a1] : List Int)) (inner := [.int .i64 a0, .int .i64 a1]) (ok := fun _ => True) (okp := fun _ => True) ?hr ?hp (fun _ hk => hk) trivial (Below.refl _ _) (Nat.le_refl _) (by simp) ?_; (case hd => rfl); (case hg => rfl); (case hr => first | (go_simp; done) | (go_simp; rfl)); (case hp => exact (Reps.one (show Kd.M (Kd.int .i64) _ _ _ a0 [.int .i64 a0] from rfl) (Reps.one (show Kd.M (Kd.int .i64) _ _ _ a1 [.int .i64 a1] from rfl) (Reps.none _ _)))); intro v153 w5 ho6 hb hg_ hnew_; clear hg_ hnew_; (first | rw [← Ny152.out] at ho6 | (simp only [Int.reduceToNat] at ho6; rw [← Ny152.out] at ho6)); have HO154 := Xa.mk (Kd.R_lower ho6 (Xg HB.out)); replace HB := Xa.mk (Xi HB.out hb); clear hb ho6; obtain ⟨Ao7, co7, eo7⟩ := Kd.R_slice HO154.out; subst eo7) | ((with_reducible refine Xp (f := 56) rfl ?_); refine XL (some 8) rfl rfl Try.func56 (by kernel_rfl) rfl #[.int .i64 0, .int .i64 100000, .slice Ao7 y152.length co7] rfl (by (try simp only [List.map_toArray, List.map_cons, List.map_nil]); first | done | rfl | (simp only [List.length_drop, List.length_take]; rfl)) ?_; (with_reducible refine (Yd.calls 0 100000 _ _ y152 true _ ?side1 ?side2 A3.out).mono ?_); (case side1 => repeat (first | exact (Kd.R_reads' HO154.out).2.2 | (with_reducible refine Kd.C_alloc ?_ _) | (with_reducible refine Kd.C_drewN ?_ _) | (with_reducible refine Kd.C_drew ?_))); (case side2 => exact (Kd.R_reads' HO154.out).2.1); rintro e w8 ⟨rfl, hb⟩; refine ⟨_, rfl, ?_⟩; replace HO154 := Xa.mk (Kd.R_below (by (with_reducible repeat (first | apply Kd.R_alloc | apply Kd.R_drewN | apply Kd.R_drew)); exact HO154.out) hb); replace HB := Xa.mk (Xi HB.out hb); (try clear hb); (try clear hb2); (try clear hk); (try clear hi)))
  go_ret
  exact ⟨by first | rfl | (simp [errW_none, errW_some] <;> rfl) | (simp [*, errW_none, errW_some] <;> rfl), by repeat (first | (with_reducible first | exact HB.out | apply Xs | apply Xo | apply Xl) | exact HB.out)⟩
 ·replace c4 := Bool.eq_false_iff.mpr c4
  subst c4
  have H1 : (some false) = some r := by rw [if_neg (show ¬ (false = true) by decide)] at H; exact H
  clear H
  have H := H1
  clear H1
  obtain rfl := Option.some.inj H
  go_enter Try.func91, Try.ntmps91
  go_wp2_with (first | ((with_reducible refine Xz (N := 7) rfl ?_); refine Kd.R_lit (Kd.int .i64) _ 3 ?hg (N := 7) ?hd (xs := ([a0, a1] : List Int)) (inner := [.int .i64 a0, .int .i64 a1]) (ok := fun _ => True) (okp := fun _ => True) ?hr ?hp (fun _ hk => hk) trivial (Below.refl _ _) (Nat.le_refl _) (by simp) ?_; (case hd => rfl); (case hg => rfl); (case hr => first | (go_simp; done) | (go_simp; rfl)); (case hp => exact (Reps.one (show Kd.M (Kd.int .i64) _ _ _ a0 [.int .i64 a0] from rfl) (Reps.one (show Kd.M (Kd.int .i64) _ _ _ a1 [.int .i64 a1] from rfl) (Reps.none _ _)))); intro v153 w9 ho10 hb hg_ hnew_; clear hg_ hnew_; (first | rw [← Ny152.out] at ho10 | (simp only [Int.reduceToNat] at ho10; rw [← Ny152.out] at ho10)); have HO154 := Xa.mk (Kd.R_lower ho10 (Xg HB.out)); replace HB := Xa.mk (Xi HB.out hb); clear hb ho10; obtain ⟨Ao11, co11, eo11⟩ := Kd.R_slice HO154.out; subst eo11) | ((with_reducible refine Xp (f := 56) rfl ?_); refine XL (some 8) rfl rfl Try.func56 (by kernel_rfl) rfl #[.int .i64 0, .int .i64 100000, .slice Ao11 y152.length co11] rfl (by (try simp only [List.map_toArray, List.map_cons, List.map_nil]); first | done | rfl | (simp only [List.length_drop, List.length_take]; rfl)) ?_; (with_reducible refine (Yd.calls 0 100000 _ _ y152 false _ ?side1 ?side2 A3.out).mono ?_); (case side1 => repeat (first | exact (Kd.R_reads' HO154.out).2.2 | (with_reducible refine Kd.C_alloc ?_ _) | (with_reducible refine Kd.C_drewN ?_ _) | (with_reducible refine Kd.C_drew ?_))); (case side2 => exact (Kd.R_reads' HO154.out).2.1); rintro e w12 ⟨rfl, hb⟩; refine ⟨_, rfl, ?_⟩; replace HO154 := Xa.mk (Kd.R_below (by (with_reducible repeat (first | apply Kd.R_alloc | apply Kd.R_drewN | apply Kd.R_drew)); exact HO154.out) hb); replace HB := Xa.mk (Xi HB.out hb); (try clear hb); (try clear hb2); (try clear hk); (try clear hi)))
  go_ret
  exact ⟨by first | rfl | (simp [errW_none, errW_some] <;> rfl) | (simp [*, errW_none, errW_some] <;> rfl), by repeat (first | (with_reducible first | exact HB.out | apply Xs | apply Xo | apply Xl) | exact HB.out)⟩

end Go.Proofs.Ytiaiecfnpompcaa.T
