-- cut down, squeezed and laid together by pack.py (a program of this repository) out of this seat's texts
import Derived.RangeFuncNested
import Derived.Test.YtiaiecfnpompcaaZR16
namespace Go.Proofs.Ytiaiecfnpompcaa.Ab
open Go Go.RowKit
set_option linter.unusedVariables false
set_option linter.unusedSimpArgs false
section
variable {P : Program} {call : Nat → Tgt → List Value → St → Ans} {wr : FuncId → Bool} {ro : Nat} {ops : Array Oper}

theorem XgP : ∀ (l : List (Oper × Nat)) (i : Nat) (s r : DS), Xe2 P call wr ro ops l i s = some r →
    ∃ (S : Nat → DS) (V : Nat → Value), S i = s ∧ S (i + l.length) = r ∧ ∀ (k : Nat) o mask, l[k]? = some (o, mask) → dstep P call wr ro ops o mask (i + k) (S (i + k)) = some (V (i + k), S (i + k + 1)) := by
  intro l
  induction l with
  | nil =>
    intro i s r h
    simp only [Xe2, Option.some.injEq] at h
    exact ⟨fun _ => s, fun _ => undef, rfl, h, by simp⟩
  | cons p l ih =>
    intro i s r h
    change (match dstep P call wr ro ops p.1 p.2 i s with
      | some (_, s') => Xe2 P call wr ro ops l (i + 1) s'
      | none => none) = some r at h
    split at h
    · rename_i v s' hd
      obtain ⟨S, V, h1, h2, h3⟩ := ih (i + 1) s' r h
      refine ⟨fun j => if j = i then s else S j, fun j => if j = i then v else V j, if_pos rfl, ?_, fun k o mask hk => ?_⟩
      · simp only [List.length_cons]
        rw [if_neg (by omega), show i + (l.length + 1) = i + 1 + l.length by omega]
        exact h2
      · cases k with
        | zero =>
          simp only [List.getElem?_cons_zero, Option.some.injEq] at hk
          subst hk
          simp only [Nat.add_zero, if_true]
          rw [if_neg (by omega), h1]
          exact hd
        | succ k =>
          simp only [List.getElem?_cons_succ] at hk
          have := h3 k o mask hk
          simp only [if_neg (show ¬ i + (k + 1) = i by omega), if_neg (show ¬ i + (k + 1) + 1 = i by omega)]
          rwa [show i + (k + 1) = i + 1 + k by omega, show i + 1 + k + 1 = i + 1 + k + 1 from rfl]
    · simp at h

theorem XdT : ∀ (ns : List Mem) (j : Nat), (blank ns)[j]? = (ns[j]?).map fun _ => []
  | [], j => rfl
  | r :: rs, 0 => rfl
  | r :: rs, j + 1 => by simp only [blank, List.getElem?_cons_succ]; exact XdT rs j
theorem Y6 : ∀ (ns : List Mem), (blank ns).length = ns.length
  | [] => rfl
  | r :: rs => by simp only [blank, List.length_cons, Y6 rs]

theorem free_spec {o : Oper} {ro n : Nat} {base : Mem} {mask : Nat} {ns : List Mem} {ev : Operand → Value} {v : Value} {st' : St} {b : Nat} (h : aOp P call ro ev o ⟨n, Xao base mask 0 ns⟩ = some (v, st')) (hf : XbI ev o ns v = some b) :
    Xcb o ∧ gnd 8 v = true ∧ ∃ cs, Xr base b = some cs ∧ aOp P call ro ev o ⟨n, [(b, cs)]⟩ = some (v, ⟨n, [(b, cs)]⟩) := by
  unfold XbI at hf
  split at hf
  · rename_i t a ho
    split at hf
    · rename_i b1 off e
      split at hf
      · rename_i hg
        simp only [Option.some.injEq] at hf
        subst hf
        simp only [Bool.and_eq_true] at hg
        refine ⟨⟨t, a, ho⟩, hg.1, ?_⟩
        simp only [aOp, ho, XeF, e] at h ⊢
        have hC : Jt (Xao base mask 0 ns) b1 = Jt base b1 := by unfold Jt; rw [JC hg.2]
        rw [hC] at h
        split at h
        · rename_i cs hl
          split at h
          · rename_i u hv
            simp only [Option.some.injEq, Prod.mk.injEq] at h
            refine ⟨.c cs, Ja hl, ?_⟩
            have : Jt [(b1, .c cs)] b1 = some cs := by simp [Jt, Xr]
            simp only [this, hv, h.1]
          · simp at h
        · simp at h
      · simp at hf
    · simp at hf
  · simp at hf
theorem Xe5 {o : Oper} {ro : Nat} {ev : Operand → Value} {v : Value} {st st' : St} {b : Nat} (h : aOp P call ro ev o st = some (v, st')) (hw : XaI ev o = some b) : ∃ cs, st'.mem = put st.mem b cs := by
  unfold XaI at hw
  split at hw
  · rename_i t a x ho
    split at hw
    · rename_i b1 off e
      simp only [Option.some.injEq] at hw
      subst hw
      simp only [aOp, ho, Xd4, e] at h
      split at h
      · split at h
        · rename_i cs' hs
          rw [XdQ] at h
          simp only [Option.some.injEq, Prod.mk.injEq] at h
          exact ⟨.c cs', by rw [← h.2]⟩
        · simp at h
      · simp at h
    · simp at hw
  · rename_i t x k y ho
    split at hw
    · rename_i b1 e
      simp only [Option.some.injEq] at hw
      subst hw
      simp only [aOp, ho] at h
      unfold J7 at h
      split at h
      · rename_i kt el b2 _ _ e2
        have e3 : b2 = b1 := by
          rw [e] at e2
          simp only [Value.map.injEq, Option.some.injEq] at e2
          exact e2.symm
        subst e3
        split at h
        · split at h
          · split at h
            · simp only [Option.some.injEq, Prod.mk.injEq] at h
              exact ⟨_, by rw [← h.2]⟩
            · simp at h
          · simp only [Option.some.injEq, Prod.mk.injEq] at h
            exact ⟨_, by rw [← h.2]⟩
          · simp at h
        · simp at h
      · simp at h
    · simp at hw
  · simp at hw

theorem Ye {o : Oper} {mask i : Nat} {s s' : DS} {v : Value} (h : dstep P call wr ro ops o mask i s = some (v, s')) :
    s'.t = setT s.t o.dst v ∧ s.next ≤ s'.next ∧ ∃ N q, s'.rd = s.rd ++ [q] ∧
    ((s'.last = s.last ∧ s'.base = s.base ∧ s'.ns = s.ns ++ [N] ∧ ((q = none ∧ Yu ops s.t o = false ∧ v = undef ∧ N = [] ∧ s'.next = s.next) ∨
      (q = none ∧ Yu ops s.t o = true ∧ still o.op = true ∧ aOp P call s.next (evl s.t) o ⟨s.next, []⟩ = some (v, ⟨s.next, []⟩) ∧ N = [] ∧ s'.next = s.next) ∨
      (q = none ∧ behind mask s.last = true ∧ Yu ops s.t o = true ∧ still o.op = false ∧ ∃ st', aOp P call s.next (evl s.t) o ⟨s.next, Xao s.base mask 0 s.ns⟩ = some (v, st') ∧ N = XcU s.next st'.mem ∧ s'.next = st'.next) ∨
      (∃ b, q = some b ∧ behind mask s.last = true ∧ Yu ops s.t o = true ∧ Xcb o ∧ gnd 8 v = true ∧ N = [] ∧ s'.next = s.next ∧ ∃ cs, Xr s.base b = some cs ∧ aOp P call s.next (evl s.t) o ⟨s.next, [(b, cs)]⟩ = some (v, ⟨s.next, [(b, cs)]⟩)))) ∨
     (q = none ∧ still o.op = false ∧ Yu ops s.t o = true ∧ N = [] ∧ louds mask (XaI (evl s.t) o) s.ns 0 i ops.toList s.rd = true ∧ s'.last = some i ∧ s'.ns = blank s.ns ++ [N] ∧ aOp P call ro (evl s.t) o ⟨s.next, JW s.base s.ns⟩ = some (v, ⟨s'.next, s'.base⟩))) := by
  unfold dstep at h
  split at h
  · rename_i hw
    split at h
    · rename_i hs
      split at h
      · rename_i v1 st1 hop
        simp only [Option.some.injEq, Prod.mk.injEq] at h
        obtain ⟨rfl, rfl⟩ := h
        obtain ⟨q1, q2⟩ := XgW (P := P) (call2 := call) (ro2 := s.next) (st2 := ⟨s.next, []⟩) rfl hs hop
        exact ⟨rfl, Nat.le_refl _, [], none, rfl, .inl ⟨rfl, rfl, rfl, .inr (.inl ⟨rfl, hw, hs, q2, rfl, rfl⟩)⟩⟩
      · simp at h
    · rename_i hs
      split at h
      · split at h
        · rename_i hact
          split at h
          · rename_i v1 st1 hop
            split at h
            · rename_i hle
              simp only [Option.some.injEq, Prod.mk.injEq] at h
              obtain ⟨rfl, rfl⟩ := h
              cases hq : XbI (evl s.t) o s.ns v1 with
              | none => exact ⟨rfl, Nat.le_of_ble_eq_true hle, _, none, rfl, .inl ⟨rfl, rfl, rfl, .inr (.inr (.inl ⟨rfl, hact, hw, hs, st1, hop, rfl, rfl⟩))⟩⟩
              | some b =>
                obtain ⟨g1, g2, cs, g3, g4⟩ := free_spec hop hq
                exact ⟨rfl, Nat.le_refl _, [], some b, rfl, .inl ⟨rfl, rfl, rfl, .inr (.inr (.inr ⟨b, rfl, hact, hw, g1, g2, rfl, rfl, cs, g3, g4⟩))⟩⟩
            · simp at h
          · simp at h
        · simp at h
      · split at h
        · rename_i hl
          split at h
          · rename_i v1 st1 hop
            split at h
            · rename_i hle
              simp only [Option.some.injEq, Prod.mk.injEq] at h
              obtain ⟨rfl, rfl⟩ := h
              exact ⟨rfl, Nat.le_of_ble_eq_true hle, [], none, rfl, .inr ⟨rfl, hs, hw, rfl, hl, rfl, rfl, hop⟩⟩
            · simp at h
          · simp at h
        · simp at h
  · rename_i hw
    simp only [Option.some.injEq, Prod.mk.injEq] at h
    obtain ⟨rfl, rfl⟩ := h
    exact ⟨rfl, Nat.le_refl _, [], none, rfl, .inl ⟨rfl, rfl, rfl, .inl ⟨rfl, hw, rfl, rfl, rfl⟩⟩⟩

theorem Xh1 (hcall : JY P call) (hm : P.follows .mixedOrders = true) {nt : Nat} (hn : nt < 4095) (hok : XeD nt ops = true) {ms : List Nat} (hplan : plan ops ops.toList 0 [] = some ms)
    {t : Tr} {st : St} {r : DS} (hrun : Xe2 P call wr ro ops (ops.toList.zip ms) 0 ⟨t, st.next, [], st.mem, none, []⟩ = some r)
    {B : Nat} {U : Nat → Prop} {ρ : Nat → Pl} {a : Act} {w : World} (ht : TR U ρ nt t a) (hr : HR B ro U ρ st.next st.mem w) {id : Nat} {rd : Option Nat} {Q : Exit → Act → World → Prop}
    (hQ : ∀ a' w', CPost B ro nt U ρ st.next w a.defers r.t r.out a' w' → Q .normal a' w') : (Code.region id ops true).wpIn (Fw rd) 0 P Q a w := by
  obtain ⟨hd, hx⟩ := XcF hok
  obtain ⟨hml, _, hms⟩ := XdA hplan rfl
  simp only [Nat.zero_add, Array.length_toList] at hml hms
  obtain ⟨S, V, hS0, hSn, hstep⟩ := XgP _ _ _ _ hrun
  simp only [Nat.zero_add] at hSn hstep
  rw [List.length_zip, Array.length_toList, hml, Nat.min_self] at hSn
  -- one step at a time
  have hst : ∀ (i : Nat) o, ops[i]? = some o → ∃ m, ms[i]? = some m ∧ dstep P call wr ro ops o m i (S i) = some (V i, S (i + 1)) := by
    intro i o ho
    obtain ⟨m, h1, _⟩ := hms i o (by simpa using ho)
    refine ⟨m, h1, hstep i o m ?_⟩
    rw [List.getElem?_zip_eq_some]
    exact ⟨by simpa using ho, h1⟩
  have hget : ∀ i, i < ops.size → ∃ o, ops[i]? = some o := fun i hi => ⟨ops[i], Array.getElem?_eq_getElem hi⟩
  have hnsl : ∀ i, i ≤ ops.size → (S i).ns.length = i := by
    intro i
    induction i with
    | zero => intro _; rw [hS0]; rfl
    | succ i ih =>
      intro hi
      obtain ⟨o, ho⟩ := hget i (by omega)
      obtain ⟨m, _, h2⟩ := hst i o ho
      obtain ⟨_, _, N, q, hq, h3⟩ := Ye h2
      rcases h3 with ⟨_, _, h3, _⟩ | ⟨_, _, _, _, _, _, h3, _⟩
      · rw [h3]; simp [ih (by omega)]
      · rw [h3]; simp [Y6, ih (by omega)]
  let T : Tab := { ops := ops, nt := nt, t0 := t, E := fun i => decide (i < ops.size) && (S (i + 1)).last == some i, F := fun i => ((S (i + 1)).rd[i]?).getD none, la := fun i => (S (min i ops.size)).last, MB := fun c => (match c with | none => st.mem | some k => (S (k + 1)).base), V := V, N := fun i => ((S (i + 1)).ns[i]?).getD [], nx := fun i => (S (min i ops.size)).next, D := fun i => (ms[i]?).getD 0 }
  have hnx : ∀ i, i ≤ ops.size → T.nx i = (S i).next := fun i hi => by show (S (min i ops.size)).next = _; rw [Nat.min_eq_left hi]
  have htm : ∀ i, i ≤ ops.size → T.tm (fun _ => true) i = (S i).t := by
    intro i
    induction i with
    | zero => intro _; rw [hS0]; rfl
    | succ i ih =>
      intro hi
      obtain ⟨o, ho⟩ := hget i (by omega)
      obtain ⟨m, _, h2⟩ := hst i o ho
      obtain ⟨h3, _⟩ := Ye h2
      rw [Tab.tm, ih (by omega), show T.ops[i]? = some o from ho]
      exact h3.symm
  have hrdl : ∀ i, i ≤ ops.size → (S i).rd.length = i := by
    intro i
    induction i with
    | zero => intro _; rw [hS0]; rfl
    | succ i ih =>
      intro hi
      obtain ⟨o, ho⟩ := hget i (by omega)
      obtain ⟨m, _, h2⟩ := hst i o ho
      obtain ⟨_, _, N, q, hq, h3⟩ := Ye h2
      rw [hq]; simp [ih (by omega)]
  have hFq : ∀ i, i < ops.size → ∀ q, (S (i + 1)).rd = (S i).rd ++ [q] → T.F i = q := by
    intro i hi q hq
    show ((S (i + 1)).rd[i]?).getD none = q
    rw [hq, List.getElem?_append_right (by rw [hrdl i (by omega)]; omega)]; simp [hrdl i (by omega)]
  have hrd : ∀ i, i ≤ ops.size → ∀ j, j < i → (S i).rd[j]? = some (T.F j) := by
    intro i
    induction i with
    | zero => intro _ j hj; omega
    | succ i ih =>
      intro hi j hj
      obtain ⟨o, ho⟩ := hget i (by omega)
      obtain ⟨m, _, h2⟩ := hst i o ho
      obtain ⟨_, _, N, q, hq, h3⟩ := Ye h2
      by_cases h : j = i
      · subst h
        rw [hFq j (by omega) q hq, hq, List.getElem?_append_right (by rw [hrdl j (by omega)]; omega)]; simp [hrdl j (by omega)]
      · rw [hq, List.getElem?_append_left (by rw [hrdl i (by omega)]; omega)]
        exact ih (by omega) j (by omega)
  -- what acted last
  have hlt : ∀ i, i ≤ ops.size → ∀ k, (S i).last = some k → k < i := by
    intro i
    induction i with
    | zero => intro _ k hk; rw [hS0] at hk; simp at hk
    | succ i ih =>
      intro hi k hk
      obtain ⟨o, ho⟩ := hget i (by omega)
      obtain ⟨m, _, h2⟩ := hst i o ho
      obtain ⟨_, _, N, q, hq, h3⟩ := Ye h2
      rcases h3 with ⟨h3, _⟩ | ⟨_, _, _, _, _, h3, _⟩
      · rw [h3] at hk; have := ih (by omega) k hk; omega
      · rw [h3] at hk; simp only [Option.some.injEq] at hk; omega
  have hEq : ∀ i, i < ops.size → (S (i + 1)).last = (S i).last → T.E i = false := by
    intro i hi h
    show (decide (i < ops.size) && (S (i + 1)).last == some i) = false
    cases hl : (S (i + 1)).last with
    | none => simp
    | some k =>
      rw [h] at hl
      have := hlt i (by omega) k hl
      simp; omega
  have hEt : ∀ i, i < ops.size → (S (i + 1)).last = some i → T.E i = true := by
    intro i hi h
    show (decide (i < ops.size) && (S (i + 1)).last == some i) = true
    rw [h]; simp [hi]
  have hEl : ∀ i, T.E i = true → i < ops.size ∧ (S (i + 1)).last = some i := by
    intro i h
    have h : (decide (i < ops.size) && (S (i + 1)).last == some i) = true := h
    simp only [Bool.and_eq_true, decide_eq_true_eq, beq_iff_eq] at h
    exact h
  have hlaE : ∀ i, i ≤ ops.size → ∀ k, (S i).last = some k → T.E k = true := by
    intro i
    induction i with
    | zero => intro _ k hk; rw [hS0] at hk; simp at hk
    | succ i ih =>
      intro hi k hk
      obtain ⟨o, ho⟩ := hget i (by omega)
      obtain ⟨m, _, h2⟩ := hst i o ho
      obtain ⟨_, _, N, q, hq, h3⟩ := Ye h2
      rcases h3 with ⟨h3, _⟩ | ⟨_, _, _, _, _, h3, _⟩
      · rw [h3] at hk; exact ih (by omega) k hk
      · have h4 := h3
        rw [h3] at hk; simp only [Option.some.injEq] at hk; subst hk; exact hEt _ (by omega) h4
  have hgreat : ∀ i, i ≤ ops.size → ∀ k, k < i → T.E k = true → ∃ k', (S i).last = some k' ∧ k ≤ k' := by
    intro i
    induction i with
    | zero => intro _ k hk; omega
    | succ i ih =>
      intro hi k hk hE
      obtain ⟨o, ho⟩ := hget i (by omega)
      obtain ⟨m, _, h2⟩ := hst i o ho
      obtain ⟨_, _, N, q, hq, h3⟩ := Ye h2
      rcases h3 with ⟨h3, _⟩ | ⟨_, _, _, _, _, h3, _⟩
      · have hne : k ≠ i := fun q => by rw [q, hEq i (by omega) h3] at hE; simp at hE
        rw [h3]; exact ih (by omega) k (by omega) hE
      · exact ⟨i, h3, by omega⟩
  have hbase : ∀ i, i ≤ ops.size → (S i).base = T.MB (S i).last := by
    intro i
    induction i with
    | zero => intro _; rw [hS0]
    | succ i ih =>
      intro hi
      obtain ⟨o, ho⟩ := hget i (by omega)
      obtain ⟨m, _, h2⟩ := hst i o ho
      obtain ⟨_, _, N, q, hq, h3⟩ := Ye h2
      rcases h3 with ⟨h3, h4, _⟩ | ⟨_, _, _, _, _, h3, _⟩
      · rw [h3, h4]; exact ih (by omega)
      · rw [h3]
  have hla : ∀ i, i ≤ ops.size → T.la i = (S i).last := fun i hi => by show (S (min i ops.size)).last = _; rw [Nat.min_eq_left hi]
  have hNi : ∀ i, i < ops.size → ∀ ns N, (S (i + 1)).ns = ns ++ [N] → ns.length = i → T.N i = N := by
    intro i hi ns N h3 hl
    show ((S (i + 1)).ns[i]?).getD [] = N
    rw [h3, List.getElem?_append_right (by omega)]; simp [hl]
  have hns : ∀ i, i ≤ ops.size → ∀ j r b cs, (S i).ns[j]? = some r → Xr r b = some cs → j < i ∧ r = T.N j ∧ T.la j = (S i).last := by
    intro i
    induction i with
    | zero => intro _ j r b cs hj; rw [hS0] at hj; simp at hj
    | succ i ih =>
      intro hi j r b cs hj hb
      obtain ⟨o, ho⟩ := hget i (by omega)
      obtain ⟨m, _, h2⟩ := hst i o ho
      obtain ⟨_, _, N, q, hq, h3⟩ := Ye h2
      have hl := hnsl i (by omega)
      have hji : j < i + 1 := by have := (List.getElem?_eq_some_iff.1 hj).1; rw [hnsl (i + 1) hi] at this; exact this
      rcases h3 with ⟨h3, _, h4, _⟩ | ⟨_, _, _, h5, _, _, h4, _⟩
      · by_cases h : j = i
        · subst h
          have := hNi j (by omega) _ _ h4 hl
          rw [h4, List.getElem?_append_right (by omega)] at hj
          simp only [hl, Nat.sub_self, List.getElem?_cons_zero, Option.some.injEq] at hj
          exact ⟨hji, by rw [this, hj], by rw [h3]; exact hla j (by omega)⟩
        · rw [h4, List.getElem?_append_left (by omega)] at hj
          obtain ⟨g1, g2, g3⟩ := ih (by omega) j r b cs hj hb
          exact ⟨hji, g2, by rw [h3]; exact g3⟩
      · exfalso
        by_cases h : j = i
        · subst h
          rw [h4, List.getElem?_append_right (by rw [Y6]; omega)] at hj
          simp only [Y6, hl, Nat.sub_self, List.getElem?_cons_zero, Option.some.injEq] at hj
          rw [← hj, h5] at hb; simp [Xr] at hb
        · rw [h4, List.getElem?_append_left (by rw [Y6]; omega), XdT] at hj
          obtain ⟨q, _, hq⟩ := Option.map_eq_some_iff.1 hj
          rw [← hq] at hb; simp [Xr] at hb
  have hD : ∀ (i : Nat) m, ms[i]? = some m → T.D i = m := fun i m h => by show (ms[i]?).getD 0 = m; rw [h]; rfl
  have hDn : ∀ (i : Nat) j, (T.D i).testBit j = true → ∃ o m, ops[i]? = some o ∧ ms[i]? = some m ∧ T.D i = m := by
    intro i j h
    cases hmi : ms[i]? with
    | none => have : T.D i = 0 := by show (ms[i]?).getD 0 = 0; rw [hmi]; rfl
              rw [this] at h; simp at h
    | some m =>
      have := (List.getElem?_eq_some_iff.1 hmi).1
      obtain ⟨o, ho⟩ := hget i (by omega)
      exact ⟨o, m, ho, rfl, hD i m hmi⟩
  have hmask : ∀ (i : Nat) o m, ops[i]? = some o → ms[i]? = some m →
      (∀ e ∈ o.after, Region.binds .any e = true → e.on < i ∧ ∀ k, (T.D e.on).testBit k = true → m.testBit k = true) ∧
      (∀ j, m.testBit j = true → ∃ e ∈ o.after, Region.binds .any e = true ∧ (j = e.on ∨ (T.D e.on).testBit j = true)) ∧
      (∀ j q, j < i → ops[j]? = some q → m.testBit j = true ∨ q.apart ops o = true) := by
    intro i o m ho hmi
    obtain ⟨m', h1, h2, h3⟩ := hms i o (by simpa using ho)
    rw [hmi] at h1
    simp only [Option.some.injEq] at h1
    subst h1
    obtain ⟨g1, g2⟩ := Xaw h2
    have take : ∀ (k : Nat) r, (ms.take i)[k]? = some r → T.D k = r := fun k r h => hD k r (by
      rw [List.getElem?_take] at h
      split at h
      · exact h
      · simp at h)
    refine ⟨fun e he hb => ?_, fun j hj => ?_, fun j q hj hq => ?_⟩
    · obtain ⟨a1, r', a2, a3⟩ := g1 e (by simpa using he) hb
      exact ⟨a1, fun k hk => a3 k (by rw [← take _ _ a2]; exact hk)⟩
    · obtain ⟨e, a1, a2, a3⟩ := g2 j hj
      refine ⟨e, by simpa using a1, a2, ?_⟩
      rcases a3 with a3 | ⟨r', a3, a4⟩
      · exact .inl a3
      · exact .inr (by rw [take _ _ a3]; exact a4)
    · have := Xa5 h3 j hj q (by simpa using hq)
      rwa [Nat.zero_add] at this
  have hless : ∀ i j, (T.D i).testBit j = true → j < i := by
    intro i
    induction i using Nat.strongRecOn with
    | _ i ih =>
      intro j hj
      obtain ⟨o, m, ho, hmi, he⟩ := hDn i j hj
      rw [he] at hj
      obtain ⟨g1, g2, _⟩ := hmask i o m ho hmi
      obtain ⟨e, a1, a2, a3⟩ := g2 j hj
      have := (g1 e a1 a2).1
      rcases a3 with rfl | a3
      · exact this
      · have := ih e.on this j a3; omega
  have hp : Plan T := by
    refine ⟨hd, hx, hn, fun i o ho e he hb => ?_, fun i o ho j hj => ?_, fun j i oj oi hji hoj hoi => ?_, fun i => ?_, fun i => ?_, hless⟩
    · obtain ⟨m, hmi, _⟩ := hst i o ho
      exact ((hmask i o m ho hmi).1 e he hb).1
    · obtain ⟨m, hmi, _⟩ := hst i o ho
      rw [hD i m hmi] at hj
      exact (hmask i o m ho hmi).2.1 j hj
    · obtain ⟨m, hmi, _⟩ := hst i oi hoi
      rw [hD i m hmi]
      exact (hmask i oi m hoi hmi).2.2 j oj hji hoj
    · by_cases hi : i < ops.size
      · rw [hnx i (by omega), hnx (i + 1) (by omega)]
        obtain ⟨o, ho⟩ := hget i hi
        obtain ⟨m, _, h2⟩ := hst i o ho
        exact (Ye h2).2.1
      · show (S (min i ops.size)).next ≤ (S (min (i + 1) ops.size)).next
        rw [show min i ops.size = min (i + 1) ops.size by omega]
        exact Nat.le_refl _
    · induction i using Nat.strongRecOn with
      | _ i ih =>
        intro j k hj hk
        obtain ⟨o, m, ho, hmi, he⟩ := hDn i j hj
        rw [he] at hj ⊢
        obtain ⟨g1, g2, _⟩ := hmask i o m ho hmi
        obtain ⟨e, a1, a2, a3⟩ := g2 j hj
        rcases a3 with rfl | a3
        · exact (g1 e a1 a2).2 k hk
        · exact (g1 e a1 a2).2 k (ih e.on (g1 e a1 a2).1 j k a3 hk)
  -- the ones that act come one behind the other
  have hloud : ∀ i o m, ops[i]? = some o → ms[i]? = some m → T.E i = true → T.F i = none ∧ still o.op = false ∧ (∀ b, XaI (evl (S i).t) o = some b → ∃ cs, (S (i + 1)).base = put (JW (S i).base (S i).ns) b cs) ∧ louds m (XaI (evl (S i).t) o) (S i).ns 0 i ops.toList (S i).rd = true := by
    intro i o m ho hmi hE
    obtain ⟨hi, hE2⟩ := hEl i hE
    obtain ⟨m', hmi', h2⟩ := hst i o ho
    rw [hmi] at hmi'; simp only [Option.some.injEq] at hmi'; subst hmi'
    obtain ⟨_, _, N, q, hq, h3⟩ := Ye h2
    rcases h3 with ⟨h3, _⟩ | ⟨h6, h4, _, _, h5, _, _, h7⟩
    · rw [hEq i hi h3] at hE; simp at hE
    · exact ⟨by rw [hFq i hi q hq, h6], h4, fun b hb => Xe5 h7 hb, h5⟩
  -- an operation that acts comes behind all earlier ones that are loud
  have hbehind : ∀ k, T.E k = true → ∀ j oj, j < k → ops[j]? = some oj → (T.D k).testBit j = true ∨ still oj.op = true ∨ ∃ b, T.F j = some b ∧ ((S (k + 1)).base = (S (k + 1)).base → Xr (S (k + 1)).base b = Xr (S k).base b) := by
    intro k hE j oj hj hoj
    obtain ⟨hk, _⟩ := hEl k hE
    obtain ⟨o, ho⟩ := hget k hk
    obtain ⟨m, hm, _⟩ := hst k o ho
    obtain ⟨_, _, h5, h6⟩ := hloud k o m ho hm hE
    rcases XcN h6 j hj oj (by simpa using hoj) with h7 | h7 | ⟨b, bk, h7, h8, h9, h10⟩
    · rw [Nat.zero_add] at h7; exact .inl (by rw [hD k m hm]; exact h7)
    · exact .inr (.inl h7)
    · refine .inr (.inr ⟨b, ?_, fun _ => ?_⟩)
      · rw [hrd k (by omega) j hj] at h7; simpa using h7
      · obtain ⟨cs, h11⟩ := h5 bk h8
        rw [h11, XbB, if_neg h9, Xa2 h10]
  have hall : ∀ i, i < ops.size → ∀ k0, (S i).last = some k0 → (T.D i).testBit k0 = true → ∀ k, k < i → T.E k = true → (T.D i).testBit k = true := by
    intro i hi k0 hk0 hb k hk hE
    obtain ⟨k', h1, h2⟩ := hgreat i (by omega) k hk hE
    rw [hk0] at h1; simp only [Option.some.injEq] at h1; subst h1
    rcases Nat.lt_or_ge k k0 with h3 | h3
    · obtain ⟨o0, ho0⟩ := hget k0 (hEl k0 (hlaE i (by omega) k0 hk0)).1
      obtain ⟨m0, hm0, _⟩ := hst k0 o0 ho0
      obtain ⟨ok, hok⟩ := hget k (hEl k hE).1
      obtain ⟨mk, hmk, _⟩ := hst k ok hok
      rcases hbehind k0 (hlaE i (by omega) k0 hk0) k ok h3 hok with h6 | h6 | ⟨b, h6, _⟩
      · exact hp.trans i k0 k hb h6
      · rw [(hloud k ok mk hok hmk hE).2.1] at h6; simp at h6
      · rw [(hloud k ok mk hok hmk hE).1] at h6; simp at h6
    · rw [Nat.le_antisymm h2 h3]; exact hb
  have hacts : ∀ k k', k < k' → T.E k = true → T.E k' = true → (T.D k').testBit k = true := by
    intro k k' hk hE hE'
    obtain ⟨ok, hok⟩ := hget k (hEl k hE).1
    obtain ⟨mk, hmk, _⟩ := hst k ok hok
    rcases hbehind k' hE' k ok hk hok with h6 | h6 | ⟨b, h6, _⟩
    · exact h6
    · rw [(hloud k ok mk hok hmk hE).2.1] at h6; simp at h6
    · rw [(hloud k ok mk hok hmk hE).1] at h6; simp at h6
  have hfree : ∀ (i : Nat) o b, ops[i]? = some o → T.F i = some b → Free T P call i o b ∧ Xcb o ∧ T.E i = false := by
    intro i o b ho hf
    have hil := (Array.getElem?_eq_some_iff.1 ho).1
    have hil : i < ops.size := hil
    obtain ⟨m, hmi, h2⟩ := hst i o ho
    obtain ⟨_, _, N, q, hq, h4⟩ := Ye h2
    rw [hFq i hil q hq] at hf
    unfold Free
    rw [htm i (by omega), hnx i (by omega), hnx (i + 1) (by omega)]
    rcases h4 with ⟨hl, _, h3, h4⟩ | ⟨h6, _⟩
    · have hE : T.E i = false := hEq i hil hl
      have hN := hNi i hil _ N h3 (hnsl i (by omega))
      rw [hN]
      rcases h4 with ⟨q0, _⟩ | ⟨q0, _⟩ | ⟨q0, _⟩ | ⟨b', q0, q1, q2, q3, q4, q5, q6, cs, q7, q8⟩
      · rw [hf] at q0; simp at q0
      · rw [hf] at q0; simp at q0
      · rw [hf] at q0; simp at q0
      · rw [hf] at q0
        simp only [Option.some.injEq] at q0
        subst q0
        have hnotstill : still o.op = false := by obtain ⟨t1, a1, h9⟩ := q3; rw [h9]; rfl
        have hall1 : ∀ k, k < i → T.E k = true → (T.D i).testBit k = true := by
          intro k hk hEk
          obtain ⟨k0, h7, _⟩ := hgreat i (by omega) k hk hEk
          rw [h7] at q1
          exact hall i hil k0 h7 (by rw [hD i m hmi]; exact q1) k hk hEk
        have hlook : Xr (T.MB (T.la i)) b = some cs := by rw [hla i (by omega), ← hbase i (by omega)]; exact q7
        refine ⟨⟨q2, q5, q6, q4, hall1, cs, q8, hlook, fun k => ?_⟩, q3, hE⟩
        induction k using Nat.strongRecOn with
        | _ k ih =>
          intro hk hEk
          have hks := (hEl k hEk).1
          rcases hbehind k hEk i o hk ho with h6 | h6 | ⟨b2, h6, h7⟩
          · exact .inl h6
          · rw [hnotstill] at h6; simp at h6
          · have hfi : T.F i = some b := by rw [hFq i hil q hq]; exact hf
            rw [hfi] at h6
            simp only [Option.some.injEq] at h6
            subst h6
            have h8 : Xr (T.MB (some k)) b = Xr (T.MB (S k).last) b := by
              rw [← hbase k (by omega)]; exact h7 rfl
            cases hl : (S k).last with
            | none =>
              refine .inr ?_
              rw [h8, hl]
              cases hl2 : (S i).last with
              | none => rw [hla i (by omega), hl2] at hlook; exact hlook
              | some k3 =>
                have e1 := hlaE i (by omega) k3 hl2
                have e2 := hlt i (by omega) k3 hl2
                obtain ⟨k4, e3, _⟩ := hgreat k (by omega) k3 (by omega) e1
                rw [hl] at e3; simp at e3
            | some k2 =>
              have e1 := hlaE k (by omega) k2 hl
              have e2 := hlt k (by omega) k2 hl
              rcases Nat.lt_trichotomy k2 i with h9 | h9 | h9
              · refine .inr ?_
                rw [h8, hl]
                obtain ⟨k3, e3, e4⟩ := hgreat i (by omega) k2 h9 e1
                have e5 := hlaE i (by omega) k3 e3
                have e6 := hlt i (by omega) k3 e3
                obtain ⟨k4, e7, e8⟩ := hgreat k (by omega) k3 (by omega) e5
                rw [hl] at e7
                simp only [Option.some.injEq] at e7
                subst e7
                rw [hla i (by omega), e3, ← Nat.le_antisymm e4 e8] at hlook
                exact hlook
              · rw [h9, hE] at e1; simp at e1
              · rcases ih k2 e2 h9 e1 with h10 | h10
                · exact .inl (hp.trans k k2 i (hacts k2 k e2 e1 hEk) h10)
                · exact .inr (by rw [h8, hl]; exact h10)
    · rw [hf] at h6; simp at h6
  have hquiet : ∀ (i : Nat) o, ops[i]? = some o → T.E i = false → T.F i = none → Quiet T P call i o := by
    intro i o ho hE hf
    have hil := (Array.getElem?_eq_some_iff.1 ho).1
    obtain ⟨m, hmi, h2⟩ := hst i o ho
    obtain ⟨_, _, N, q, hq, h4⟩ := Ye h2
    unfold Quiet
    rw [htm i (by omega), hnx i (by omega), hnx (i + 1) (by omega)]
    have hil : i < ops.size := hil
    rw [hFq i hil q hq] at hf
    rcases h4 with ⟨_, _, h3, h4⟩ | ⟨_, _, _, _, _, h6, _⟩
    · have hN := hNi i hil _ N h3 (hnsl i (by omega))
      rw [hN]
      rcases h4 with ⟨_, q1, q2, q3, q4⟩ | ⟨_, q1, q2, q3, q4, q5⟩ | ⟨_, q0, q1, q2, st', q3, q4, q5⟩ | ⟨b, q0, _⟩
      · exact .inl ⟨q1, q2, q3, q4⟩
      · exact .inr ⟨q1, [], ⟨(S i).next, []⟩, q3, q5.symm, by simp [Xr], by rw [q4]; simp [Xr], .inl ⟨rfl, q4⟩⟩
      · refine .inr ⟨q1, _, st', q3, q5.symm, fun b cs hb => ?_, fun b cs hb => ?_, .inr ⟨q2, fun k hk hEk => ?_⟩⟩
        · rcases XcK hb with h | ⟨j, r', a1, a2, a3⟩
          · rw [hla i (by omega), ← hbase i (by omega)]; exact .inl h
          · obtain ⟨g1, g2, g3⟩ := hns i (by omega) j r' b cs a2 a3
            exact .inr ⟨j, by rw [hD i m hmi]; rwa [Nat.zero_add] at a1, by rw [g3, hla i (by omega)], by rw [← g2]; exact a3⟩
        · rw [q4] at hb; exact Xgv hb
        · obtain ⟨k0, h7, _⟩ := hgreat i (by omega) k hk hEk
          rw [h7] at q0
          exact hall i hil k0 h7 (by rw [hD i m hmi]; exact q0) k hk hEk
      · rw [hf] at q0; simp at q0
    · rw [hEt i hil h6] at hE; simp at hE
  have hF : Facts T P call ro := by
    refine ⟨hquiet, fun i o b ho hf => (hfree i o b ho hf).1, fun i o b ho hf => (hfree i o b ho hf).2.1, fun i b hf => ?_, fun i o ho hE => ?_, fun i o ho hs => ?_, fun i k hk => ?_, fun i k hk hi hE => ?_, fun k hE => (hEl k hE).1⟩
    · by_cases hi : i < ops.size
      · obtain ⟨o, ho⟩ := hget i hi
        exact (hfree i o b ho hf).2.2
      · show (decide (i < ops.size) && (S (i + 1)).last == some i) = false
        rw [decide_eq_false hi]; rfl
    · have hil := (Array.getElem?_eq_some_iff.1 ho).1
      have hil : i < ops.size := hil
      obtain ⟨m, hmi, h2⟩ := hst i o ho
      obtain ⟨_, _, N, q, hq, h4⟩ := Ye h2
      unfold Acts
      rw [htm i (by omega), hnx i (by omega), hnx (i + 1) (by omega)]
      rcases h4 with ⟨h3, _⟩ | ⟨_, q0, q1, q2, q3, q4, q5, q6⟩
      · rw [hEq i hil h3] at hE; simp at hE
      · have hN := hNi i hil _ N q5 (by rw [Y6]; exact hnsl i (by omega))
        rw [hN]
        refine ⟨q1, q2, q0, _, q6, fun b cs hb => ?_, fun j oj hj hoj => ?_⟩
        · rcases Xav hb with h | ⟨j, r', a2, a3⟩
          · rw [hla i (by omega), ← hbase i (by omega)]; exact .inl h
          · obtain ⟨g1, g2, g3⟩ := hns i (by omega) j r' b cs a2 a3
            exact .inr ⟨j, g1, by rw [g3, hla i (by omega)], by rw [← g2]; exact a3⟩
        · rcases hbehind i hE j oj hj hoj with h6 | h6 | ⟨b, h6, _⟩
          · exact .inl h6
          · exact .inr (.inl h6)
          · exact .inr (.inr ⟨b, h6⟩)
    · have hil := (Array.getElem?_eq_some_iff.1 ho).1
      have hil : i < ops.size := hil
      obtain ⟨m, hmi, h2⟩ := hst i o ho
      obtain ⟨_, _, N, q, hq, h4⟩ := Ye h2
      rcases h4 with ⟨_, _, h3, h4⟩ | ⟨_, q0, _⟩
      · rw [hNi i hil _ N h3 (hnsl i (by omega))]
        rcases h4 with ⟨_, _, _, h4, _⟩ | ⟨_, _, _, _, h4, _⟩ | ⟨_, _, _, h4, _⟩ | ⟨_, _, _, _, _, _, h4, _⟩
        · exact h4
        · exact h4
        · rw [hs] at h4; simp at h4
        · exact h4
      · rw [hs] at q0; simp at q0
    · have hk : (S (min i ops.size)).last = some k := hk
      have := hlt _ (Nat.min_le_right _ _) k hk
      exact ⟨by omega, hlaE _ (Nat.min_le_right _ _) k hk⟩
    · rw [hla i hi]; exact hgreat i hi k hk hE
  have hstart : ∀ x, x < T.nt → VR (T.UW U (T.wr (fun _ => false) x T.ops.size)) ρ (getT 12 (T.tm (fun _ => false) T.ops.size) x) (a.tmps.getD x undef) := by
    have e1 : ∀ k, T.tm (fun _ => false) k = t := by
      intro k
      induction k with
      | zero => rfl
      | succ k ih => rw [Tab.tm]; exact ih
    have e2 : ∀ x k, T.wr (fun _ => false) x k = none := by
      intro x k
      induction k with
      | zero => rfl
      | succ k ih => rw [Tab.wr]; exact ih
    intro x hx'
    rw [e1, e2]
    exact ht.get x hx'
  have hfalse : (fun j => (Array.replicate ops.size false).getD j false) = fun _ => false := by
    funext j
    by_cases hj : j < ops.size <;> simp [hj]
  have hltU : ∀ b, U b → b < T.nx 0 := fun b hb => by rw [hnx 0 (by omega), hS0]; exact hr.lt b hb
  have hdr : HR B ro U ρ st.next st.mem w.drew := ⟨hr.lt, hr.blk, hr.own, hr.inj, hr.base⟩
  refine wpIn_region_any hm ?_
  refine Xhn (T := T) (U0 := U) (B := B) (ρ0 := ρ) (w0 := w) (ds := a.defers) hcall hp hF (fun ρ' a' w' h => ?_) ops.size (Array.replicate ops.size false) ρ a w.drew (by simp [T]) ?_ ?_ ?_
  · have hfar : ∀ b, U b → ρ' b = ρ b := h.old
    have hnext : r.out.next = (S ops.size).next := by rw [hSn]; rfl
    refine hQ a' w' ⟨fun b => U b ∨ ∃ j, j < ops.size ∧ T.nx j ≤ b ∧ b < T.nx (j + 1), ρ', ⟨?_, fun b hb => ⟨.inl hb, hfar b hb⟩, fun b hb => ?_⟩, ?_, ?_, h.below, h.dfr⟩
    · rw [hnext, ← hnx ops.size (Nat.le_refl _)]
      have := hp.nx_le (Nat.zero_le ops.size)
      rw [hnx 0 (by omega), hS0] at this
      exact this
    · rcases hb with hb | ⟨j, hj, h1, h2⟩
      · exact .inl hb
      · refine .inr ⟨?_, ?_⟩
        · have := hp.nx_le (Nat.zero_le j); rw [hnx 0 (by omega), hS0] at this; have this : st.next ≤ T.nx j := this; omega
        · rw [hnext, ← hnx ops.size (Nat.le_refl _)]; have := hp.nx_le (show j + 1 ≤ ops.size by omega); omega
    · have hrt : r.t = T.tm (fun j => decide (j < T.ops.size)) T.ops.size := by
        have : ∀ k, k ≤ ops.size → T.tm (fun j => decide (j < T.ops.size)) k = T.tm (fun _ => true) k := by
          intro k
          induction k with
          | zero => intro _; rfl
          | succ k ih =>
            intro hk
            rw [Tab.tm, Tab.tm, ih (by omega)]
            rw [show decide (k < T.ops.size) = true from decide_eq_true (show k < ops.size by omega)]
        rw [show T.ops.size = ops.size from rfl] at *
        rw [this ops.size (Nat.le_refl _), htm ops.size (Nat.le_refl _), hSn]
      rw [hrt]
      refine ⟨h.size, fun x hx' => (h.val x hx').up fun b hb => ⟨?_, rfl⟩⟩
      have : ∀ k, k ≤ ops.size → T.UW U (T.wr (fun j => decide (j < T.ops.size)) x k) b → (U b ∨ ∃ j, j < ops.size ∧ T.nx j ≤ b ∧ b < T.nx (j + 1)) := by
        intro k
        induction k with
        | zero => intro _ h; exact .inl h
        | succ k ih =>
          intro hk h
          rw [Tab.wr] at h
          split at h
          · split at h
            · rcases h with h | ⟨j, h1, h2⟩
              · exact .inl h
              · refine .inr ⟨j, ?_, h2⟩
                rcases h1 with h1 | h1
                · have := hless k j h1; omega
                · omega
            · exact ih (by omega) h
          · exact ih (by omega) h
      exact this ops.size (Nat.le_refl _) hb
    · have hcur : Cur T (fun j => decide (j < T.ops.size)) (S ops.size).last := by
        refine ⟨fun k hk => ?_, fun k hE _ => hgreat ops.size (Nat.le_refl _) k (hEl k hE).1 hE⟩
        have := hlaE _ (Nat.le_refl _) k hk
        exact ⟨this, decide_eq_true (hEl k this).1⟩
      have hU1 : ∀ j, j < ops.size → ∀ b, T.UD U j b → (U b ∨ ∃ j, j < ops.size ∧ T.nx j ≤ b ∧ b < T.nx (j + 1)) := by
        intro j hj b hb
        rcases hb with hb | ⟨q, hq, h2⟩
        · exact .inl hb
        · refine .inr ⟨q, ?_, h2⟩
          rcases hq with hq | rfl
          · have := hless j q hq; omega
          · exact hj
      have hU2 : ∀ b, T.UW U (S ops.size).last b → (U b ∨ ∃ j, j < ops.size ∧ T.nx j ≤ b ∧ b < T.nx (j + 1)) := by
        intro b hb
        cases hl : (S ops.size).last with
        | none => rw [hl] at hb; exact .inl hb
        | some k => rw [hl] at hb; exact hU1 k (hEl k (hlaE _ (Nat.le_refl _) k hl)).1 b hb
      have hout : r.out.mem = JW (S ops.size).base (S ops.size).ns := by rw [hSn]; rfl
      have split1 : ∀ b cs, Xr r.out.mem b = some cs → Xr (T.MB (S ops.size).last) b = some cs ∨ ∃ j, (fun j => decide (j < T.ops.size)) j = true ∧ T.la j = (S ops.size).last ∧ Xr (T.N j) b = some cs := by
        intro b cs hb
        rw [hout] at hb
        rcases Xav hb with h1 | ⟨j, r', h1, h2⟩
        · rw [hbase _ (Nat.le_refl _)] at h1; exact .inl h1
        · obtain ⟨g1, g2, g3⟩ := hns _ (Nat.le_refl _) j r' b cs h1 h2
          exact .inr ⟨j, decide_eq_true g1, g3, by rw [← g2]; exact h2⟩
      rw [hnext]
      refine ⟨fun b hb => ?_, fun b cs hb => ?_, fun b cs hb hro => ?_, fun b b' cs cs' hb hb' he => h.inj _ hcur b b' cs cs' (split1 _ _ hb) (split1 _ _ hb') he, h.base⟩
      · rw [← hnx ops.size (Nat.le_refl _)]
        rcases hb with hb | ⟨j, hj, h1, h2⟩
        · have := hltU b hb; have := hp.nx_le (Nat.zero_le ops.size); omega
        · have := hp.nx_le (show j + 1 ≤ ops.size by omega); omega
      · rcases split1 b cs hb with h1 | ⟨j, hj, hjc, h1⟩
        · exact Y3.up (U' := fun b => U b ∨ ∃ j, j < ops.size ∧ T.nx j ≤ b ∧ b < T.nx (j + 1)) (h.mem0 _ hcur b cs h1).1 (fun b hb => ⟨hU2 b hb, rfl⟩) fun _ _ => rfl
        · exact Y3.up (U' := fun b => U b ∨ ∃ j, j < ops.size ∧ T.nx j ≤ b ∧ b < T.nx (j + 1)) (h.memN _ hcur j hj hjc b cs h1).2.1 (fun b hb => ⟨hU1 j (of_decide_eq_true hj) b hb, rfl⟩) fun _ _ => rfl
      · rcases split1 b cs hb with h1 | ⟨j, hj, hjc, h1⟩
        · exact (h.mem0 _ hcur b cs h1).2 hro
        · exact (h.memN _ hcur j hj hjc b cs h1).2.2
  · simp
  · rw [hfalse]; exact ⟨fun i j h => by simp at h, fun i h => by simp at h⟩
  · rw [hfalse]
    have hcn : ∀ c, Cur T (fun _ => false) c → c = none := by
      intro c hc
      cases c with
      | none => rfl
      | some k => have := (hc.is k rfl).2; simp at this
    refine ⟨ht.size, hstart, fun c hc b cs hb => ?_, fun c hc j hj => by simp at hj, fun c hc b b' cs cs' hb hb' he => ?_, hr.base, (Below.refl B w).drew, rfl, fun _ _ => rfl, hltU⟩
    · obtain rfl := hcn c hc
      exact ⟨hdr.blk b cs hb, fun hro => hdr.own b cs hb hro⟩
    · obtain rfl := hcn c hc
      rcases hb with hb | ⟨j, hj, _⟩
      · rcases hb' with hb' | ⟨j, hj, _⟩
        · exact hdr.inj b b' cs cs' hb hb' he
        · simp at hj
      · simp at hj
end
end Go.Proofs.Ytiaiecfnpompcaa.Ab
namespace Go.Proofs.Ytiaiecfnpompcaa.Ab
open Go Go.RowKit
set_option linter.unusedVariables false
set_option linter.unusedSimpArgs false
section
variable {P : Program} {call : Nat → Tgt → List Value → St → Ans} {wr : FuncId → Bool} {ro nt lf : Nat}
def conc : Ex → Exit
 | .normal => .normal
 | .exit id => .exit id
 | .ret => .ret
def RdOk (rd rr : Option Nat) (U : Nat → Prop) (ρ : Nat → Pl) : Prop := match rd with
 | none => rr = none
 | some l => U l ∧ rr = some (ρ l).g
theorem RdOk.up {rd rr : Option Nat} {U U' : Nat → Prop} {ρ ρ' : Nat → Pl} (h : RdOk rd rr U ρ) (hu : ∀ b, U b → U' b ∧ ρ' b = ρ b) : RdOk rd rr U' ρ' := by
 cases rd with
 | none => exact h
 | some l => exact ⟨(hu l h.1).1, by rw [(hu l h.1).2]; exact h.2⟩
def mk (ρ : Nat → Pl) (b : Nat) : Deferred := { target := .collected (ρ b).g, args := #[] }
def MK (U : Nat → Prop) (ρ : Nat → Pl) (ms : List Nat) (ds : List Deferred) (a : Act) : Prop := (∀ b ∈ ms, U b) ∧ a.defers = ms.map (mk ρ) ++ ds
theorem MK.up {U U' : Nat → Prop} {ρ ρ' : Nat → Pl} {ms : List Nat} {ds : List Deferred} {a a' : Act} (h : MK U ρ ms ds a) (hu : ∀ b, U b → U' b ∧ ρ' b = ρ b) (ha : a'.defers = a.defers) : MK U' ρ' ms ds a' := by
 refine ⟨fun b hb => (hu b (h.1 b hb)).1, ?_⟩
 rw [ha, h.2]
 congr 1
 refine List.map_congr_left fun b hb => ?_
 unfold mk
 rw [(hu b (h.1 b hb)).2]
def CP (B ro nt : Nat) (U : Nat → Prop) (ρ : Nat → Pl) (n : Nat) (w : World) (ds : List Deferred) (o : Out) (a' : Act) (w' : World) : Prop :=
 ∃ U' ρ', Ext U ρ n U' ρ' o.2.2.2.next ∧ TR U' ρ' nt o.2.1 a' ∧ HR B ro U' ρ' o.2.2.2.next o.2.2.2.mem w' ∧ Below B w w' ∧ MK U' ρ' o.2.2.1 ds a'
theorem CP.after {B ro nt n n1 : Nat} {U U1 : Nat → Prop} {ρ ρ1 : Nat → Pl} {w w1 : World} {ds : List Deferred} {o : Out} {a' : Act} {w' : World} (he : Ext U ρ n U1 ρ1 n1) (hb : Below B w w1)
  (h : CP B ro nt U1 ρ1 n1 w1 ds o a' w') : CP B ro nt U ρ n w ds o a' w' := by
 obtain ⟨U', ρ', h1, h2, h3, h4, h5⟩ := h
 exact ⟨U', ρ', he.trans h1, h2, h3, hb.trans h4, h5⟩

theorem Xfk (f : Tr → List Nat → St → Option (List Out)) (t : Tr) (ms : List Nat) (st : St) : XeK f 0 t ms st = none := rfl
theorem Xfl (f : Tr → List Nat → St → Option (List Out)) (n : Nat) (t : Tr) (ms : List Nat) (st : St) : XeK f (n + 1) t ms st = match f t ms st with
   | some os => Xcp os fun o => match o with
    | (.normal, t', ms', st') => XeK f n t' ms' st'
    | r => some [r]
   | none => none := rfl

theorem XgC {rd rr : Option Nat} {B : Nat} {U : Nat → Prop} {ρ : Nat → Pl} {a : Act} {w : World} {ds : List Deferred} {t : Tr} {ms : List Nat} {st : St} {ps : Array Tmp} {asg body : Code} {l : Nat} {ms' : List Nat} {st' : St}
  (he : Xeh rd nt t ps.toList asg body ms st = (l, ms', st')) (har : Xc4 rd st.mem = true) (hrd : RdOk rd rr U ρ) (ht : TR U ρ nt t a) (hr : HR B ro U ρ st.next st.mem w) (hmk : MK U ρ ms ds a) (fn : FuncId) :
  ∃ (mark : List Deferred) (w1 : World) (U1 : Nat → Prop) (ρ1 : Nat → Pl), (Instr.enterLoop fn a.tmps ps asg body rr).run P w = .ok ((ρ1 l).g, mark) w1 ∧ U1 l ∧ Ext U ρ st.next U1 ρ1 st'.next ∧ HR B ro U1 ρ1 st'.next st'.mem w1 ∧ Below B w w1 ∧
   MK U1 ρ1 ms' ds { a with defers := mark ++ a.defers } := by
 unfold Xeh at he
 cases rd with
 | some l0 =>
  simp only [Prod.mk.injEq] at he
  obtain ⟨rfl, rfl, rfl⟩ := he
  obtain ⟨hU0, hrr⟩ := hrd
  subst hrr
  simp only [Xc4] at har
  split at har
  ·rename_i r0 hl0
   obtain ⟨_, L0, hL0, _⟩ := hr.blk l0 _ hl0
   have hu := (HR.fresh_ext (ρ := ρ) hr.lt ⟨w.heap.size, 0, 0⟩)
   refine ⟨[], _, _, _, by rw [run_enterLoop_inner hL0]; congr 2; simp, .inr rfl, hu, hr.allocO (k := .lp ⟨.ready, none, nt, t, ps.toList, asg, body⟩) _ ⟨.inr rfl, ?_⟩, (Below.refl _ _).alloc hr.base _, ?_⟩
   ·refine ⟨_, by simp only [if_true]; exact World.alloc_heap_new w _, rfl, rfl, rfl, rfl, rfl, ?_⟩
    exact (TV.mk ht.size ht.get : TV U ρ nt t a.tmps).up hu.up
   ·exact hmk.up hu.up (by simp)
  ·simp at har
 | none =>
  simp only [Prod.mk.injEq] at he
  obtain ⟨rfl, rfl, rfl⟩ := he
  have hrr : rr = none := hrd
  subst hrr
  have hu1 := (HR.fresh_ext (ρ := ρ) hr.lt ⟨w.heap.size, 0, 0⟩)
  have h1 := hr.allocO (k := .df) (.deferred (some [])) ⟨.inr rfl, by show (w.alloc _).heap[(if st.next = st.next then _ else _ : Pl).g]? = _; rw [if_pos rfl]; exact World.alloc_heap_new w _⟩
  have hu2 := (HR.fresh_ext (ρ := fun b => if b = st.next then (⟨w.heap.size, 0, 0⟩ : Pl) else ρ b) h1.lt ⟨(w.alloc (.deferred (some []))).heap.size, 0, 0⟩)
  refine ⟨[{ target := .collected w.heap.size, args := #[] }], _, _, _, by rw [run_enterLoop_outer]; congr 2; simp, .inr rfl, hu1.trans hu2, h1.allocO (k := .lp ⟨.ready, none, nt, t, ps.toList, asg, body⟩) _ ⟨.inr rfl, ?_⟩, ((Below.refl _ _).alloc hr.base _).alloc h1.base _, ?_⟩
  ·refine ⟨_, by simp only [if_true]; exact World.alloc_heap_new _ _, rfl, rfl, rfl, rfl, rfl, ?_⟩
   exact (TV.mk ht.size ht.get : TV U ρ nt t a.tmps).up (hu1.trans hu2).up
  ·have hb := hmk.up (a' := a) (hu1.trans hu2).up rfl
   refine ⟨fun b hb2 => ?_, ?_⟩
   ·rcases List.mem_cons.1 hb2 with rfl | hb2
    ·exact .inl (.inr rfl)
    ·exact hb.1 b hb2
   ·show [_] ++ a.defers = _
    rw [hb.2]
    simp [mk]

set_option maxHeartbeats 1000000 in
theorem Xdc (hcall : JY P call) (hm : P.follows .mixedOrders = true) (hn : nt < 4095) {rd rr : Option Nat} : ∀ (c : Code) (t : Tr) (ms : List Nat) (st : St) (os : List Out), YZ P call wr nt lf ro rd c t ms st = some os →
  ∀ (B : Nat) (U : Nat → Prop) (ρ : Nat → Pl) (a : Act) (w : World) (ds : List Deferred), RdOk rd rr U ρ → TR U ρ nt t a → HR B ro U ρ st.next st.mem w → MK U ρ ms ds a →
   c.wpIn (Fw rr) 0 P (fun x a' w' => ∃ o ∈ os, x = conc o.1 ∧ CP B ro nt U ρ st.next w ds o a' w') a w := by
 intro c
 induction c with
 | skip =>
  intro t ms st os he B U ρ a w ds hrd ht hr hk
  simp only [YZ, Option.some.injEq] at he
  subst he
  exact wpIn_skip ⟨_, List.mem_singleton.2 rfl, rfl, U, ρ, Ext.refl _ _ _, ht, hr, Below.refl _ _, hk⟩
 | region id ops d =>
  intro t ms st os he B U ρ a w ds hrd ht hr hk
  have fin : ∀ (t' : Tr) (st' : St) (a' : Act) (w' : World), CPost B ro nt U ρ st.next w a.defers t' st' a' w' → CP B ro nt U ρ st.next w ds (.normal, t', ms, st') a' w' := by
   rintro t' st' a' w' ⟨U', ρ', h1, h2, h3, h4, h5⟩
   exact ⟨U', ρ', h1, h2, h3, h4, hk.up h1.up h5⟩
  simp only [YZ] at he
  split at he
  ·rename_i hok
   split at he
   ·rename_i os1 hrun
    simp only [Option.some.injEq] at he
    subst he
    exact wpIn_region_list (Xh5 hcall hn hok ops.toList (fun o ho => by simpa using ho) t st U ρ a w os1 ht hr hrun fun p hp a' w' hq => ⟨(.normal, p.1, ms, p.2), List.mem_map.2 ⟨p, hp, rfl⟩, rfl, fin _ _ _ _ hq⟩)
   ·simp at he
  ·rename_i hok
   split at he
   ·rename_i ps hplan
    split at he
    ·rename_i r hrun
     simp only [Option.some.injEq] at he
     subst he
     exact Xh1 hcall hm hn hok hplan hrun ht hr fun a' w' hp => ⟨_, List.mem_singleton.2 rfl, rfl, fin _ _ _ _ hp⟩
    ·simp at he
   ·simp at he
  ·simp at he
 | seq x y ihx ihy =>
  intro t ms st os he B U ρ a w ds hrd ht hr hk
  simp only [YZ] at he
  split at he
  ·rename_i os1 hx
   refine wpIn_seq (wpIn_mono (ihx t ms st _ hx B U ρ a w ds hrd ht hr hk) ?_)
   rintro ex a1 w1 ⟨⟨e1, t1, ms1, st1⟩, ho, rfl, hcp⟩
   obtain ⟨os2, h1, h2⟩ := Xaj he _ ho
   cases e1 with
   | normal =>
    obtain ⟨U1, ρ1, g1, g2, g3, g4, g5⟩ := hcp
    refine wpIn_mono (ihy t1 ms1 st1 os2 h1 B U1 ρ1 a1 w1 ds (hrd.up g1.up) g2 g3 g5) ?_
    rintro ex a2 w2 ⟨o2, ho2, h6, h7⟩
    exact ⟨o2, h2 o2 ho2, h6, h7.after g1 g4⟩
   | exit id =>
    simp only [Option.some.injEq] at h1
    subst h1
    exact ⟨_, h2 _ (List.mem_singleton.2 rfl), rfl, hcp⟩
   | ret =>
    simp only [Option.some.injEq] at h1
    subst h1
    exact ⟨_, h2 _ (List.mem_singleton.2 rfl), rfl, hcp⟩
  ·simp at he
 | cond c x y ihx ihy =>
  intro t ms st os he B U ρ a w ds hrd ht hr hk
  simp only [YZ] at he
  split at he
  ·rename_i h1 h2
   have hv := ht.eval h1
   rw [h2] at hv
   exact wpIn_cond_true hv.bool_inv (ihx t ms st os he B U ρ a w ds hrd ht hr hk)
  ·rename_i h1 h2
   have hv := ht.eval h1
   rw [h2] at hv
   exact wpIn_cond_false hv.bool_inv (ihy t ms st os he B U ρ a w ds hrd ht hr hk)
  ·simp at he
 | block id c ih =>
  intro t ms st os he B U ρ a w ds hrd ht hr hk
  simp only [YZ] at he
  split at he
  ·rename_i os1 hx
   simp only [Option.some.injEq] at he
   subst he
   refine wpIn_block (wpIn_mono (ih t ms st _ hx B U ρ a w ds hrd ht hr hk) ?_)
   rintro ex a1 w1 ⟨⟨e1, t1, ms1, st1⟩, ho, rfl, hcp⟩
   have hmem := List.mem_map_of_mem (f := fun o : Out => match o with
    | (.exit j, t', ms', st') => match Nat.beq j id with
     | true => ((.normal, t', ms', st') : Out)
     | false => (.exit j, t', ms', st')
    | r => r) ho
   cases e1 with
   | normal => exact ⟨_, hmem, rfl, hcp⟩
   | ret => exact ⟨_, hmem, rfl, hcp⟩
   | exit j =>
    by_cases q : j = id
    ·simp only [conc, Exit.inBlock, if_pos q]
     simp only [q, show Nat.beq id id = true from Nat.beq_refl id] at hmem
     exact ⟨_, hmem, rfl, hcp⟩
    ·simp only [conc, Exit.inBlock, if_neg q]
     simp only [show Nat.beq j id = false from Bool.eq_false_iff.mpr fun h => q (Nat.eq_of_beq_eq_true h)] at hmem
     exact ⟨_, hmem, rfl, hcp⟩
  ·simp at he
 | loop c ih =>
  intro t ms st os he B U ρ a w ds hrd ht hr hk
  simp only [YZ] at he
  refine Xde (fun k a1 w1 => ∃ t1 ms1 st1 U1 ρ1 os1, XeK (YZ P call wr nt lf ro rd c) k t1 ms1 st1 = some os1 ∧ (∀ o ∈ os1, o ∈ os) ∧ TR U1 ρ1 nt t1 a1 ∧ HR B ro U1 ρ1 st1.next st1.mem w1 ∧ Ext U ρ st.next U1 ρ1 st1.next ∧ Below B w w1 ∧ MK U1 ρ1 ms1 ds a1) ?_ lf a w ⟨t, ms, st, U, ρ, os, he, fun _ h => h, ht, hr, Ext.refl _ _ _, Below.refl _ _, hk⟩
  rintro k a1 w1 ⟨t1, ms1, st1, U1, ρ1, os1, h1, hin, h2, h3, h4, h5, h6⟩
  cases k with
  | zero => rw [Xfk] at h1; simp at h1
  | succ k =>
   rw [Xfl] at h1
   split at h1
   ·rename_i os2 hx
    refine wpIn_mono (ih t1 ms1 st1 _ hx B U1 ρ1 a1 w1 ds (hrd.up h4.up) h2 h3 h6) ?_
    rintro ex a2 w2 ⟨⟨e2, t2, ms2, st2⟩, ho, rfl, hcp⟩
    obtain ⟨os3, g1, g2⟩ := Xaj h1 _ ho
    cases e2 with
    | normal =>
     obtain ⟨U2, ρ2, c1, c2, c3, c4, c5⟩ := hcp
     exact ⟨k, Nat.lt_succ_self k, t2, ms2, st2, U2, ρ2, os3, g1, fun o h => hin o (g2 o h), c2, c3, h4.trans c1, h5.trans c4, c5⟩
    | exit id =>
     simp only [Option.some.injEq] at g1
     subst g1
     exact ⟨_, hin _ (g2 _ (List.mem_singleton.2 rfl)), rfl, hcp.after h4 h5⟩
    | ret =>
     simp only [Option.some.injEq] at g1
     subst g1
     exact ⟨_, hin _ (g2 _ (List.mem_singleton.2 rfl)), rfl, hcp.after h4 h5⟩
   ·simp at h1
 | exit id =>
  intro t ms st os he B U ρ a w ds hrd ht hr hk
  simp only [YZ, Option.some.injEq] at he
  subst he
  exact wpIn_exit ⟨_, List.mem_singleton.2 rfl, rfl, U, ρ, Ext.refl _ _ _, ht, hr, Below.refl _ _, hk⟩
 | label l =>
  intro t ms st os he B U ρ a w ds hrd ht hr hk
  simp only [YZ, Option.some.injEq] at he
  subst he
  exact wpIn_label ⟨_, List.mem_singleton.2 rfl, rfl, U, ρ, Ext.refl _ _ _, ht, hr, Below.refl _ _, hk⟩
 | ret =>
  intro t ms st os he B U ρ a w ds hrd ht hr hk
  simp only [YZ, Option.some.injEq] at he
  subst he
  exact wpIn_ret ⟨_, List.mem_singleton.2 rfl, rfl, U, ρ, Ext.refl _ _ _, ht, hr, Below.refl _ _, hk⟩
 | rangeFunc f ps x y _ _ =>
  intro t ms st os he B U ρ a w ds hrd ht hr hk
  simp only [YZ] at he
  split at he
  ·rename_i g first captured hop hev har
   have hv := ht.eval hop
   rw [hev] at hv
   obtain ⟨xs', ys', e1, v1, v2⟩ := hv.fn_inv
   generalize hel : Xeh rd nt t ps.toList x y ms st = el at he
   obtain ⟨l, ms', st1⟩ := el
   simp only at he
   rw [XdQ] at he
   split at he
   ·rename_i u st2 hcl
    refine wpIn_rangeFunc fun fn _ => ?_
    obtain ⟨mark, w1, U1, ρ1, k1, k2, k3, k4, k5, k6⟩ := XgC (P := P) hel har hrd ht hr hk fn
    obtain ⟨⟨fnc, q1, q2, q3⟩, hC⟩ := hcall _ _ _ _ _ _ hcl
    have hvl : VL U1 ρ1 (first ++ [.func (.yield l) ⟨[]⟩ ⟨[]⟩] ++ captured) (xs' ++ [.func (.yield (ρ1 l).g) #[] #[]] ++ ys') :=
     ((v1.up k3.up).append (.cons _ _ _ _ (.yld l k2) .nil)).append (v2.up k3.up)
    have hcalls := hC B U1 ρ1 w1 _ k4 hvl
    have q3' : fnc.body.isNone = false := by cases hb : fnc.body <;> simp_all
    refine ⟨(ρ1 l).g, mark, w1, { target := .fn (.func g) ⟨ys'⟩, args := ⟨xs'⟩ ++ #[.func (.yield (ρ1 l).g) #[] #[]] }, w1, g, ⟨xs' ++ [.func (.yield (ρ1 l).g) #[] #[]] ++ ys'⟩, w1, k1, ?_, fun _ _ => trivial, ?_, fun q => by simp [Fence.wide] at q, ?_⟩
    ·have hm1 : (#[Operand.const (.func (.yield (ρ1 l).g) #[] #[])].map a.eval) = #[.func (.yield (ρ1 l).g) #[] #[]] := by
      simp only [List.map_toArray, List.map_cons, List.map_nil]; rfl
     simp only [resolve, rangeCall, e1, Deferred.ofValue, Sem.run_pure, hm1]
    ·have hargs : ((⟨xs'⟩ : Array Value) ++ #[.func (.yield (ρ1 l).g) #[] #[]]) ++ ⟨ys'⟩ = ⟨xs' ++ [.func (.yield (ρ1 l).g) #[] #[]] ++ ys'⟩ := by apply Array.ext'; simp
     simp only [invoke, callFunc, hargs, Sem.run_bind, run_program, Result.andThen_ok, q1, q2, q3', Bool.false_eq_true, if_false, Sem.run_pure]
    ·refine CallsIn.mono (XfR (r := rr) (n := 0 - 1) hcalls) ?_
     rintro e w3 ⟨v', rfl, U2, ρ2, p1, p2, p3, p4⟩
     show ∃ jump w₄, (Instr.endLoop (ρ1 l).g).run P w3 = .ok jump w₄ ∧ _
     unfold Xhb at he
     split at he
     ·rename_i r hro hlk
      have hro := Nat.le_of_ble_eq_true hro
      obtain ⟨hU2, L, hL, s1, s2, s3, s4, s5, s6⟩ := p2.blk l _ hlk
      split at he
      ·simp at he
      ·rename_i hbusy
       have hnb : L.state ≠ .busy := by rw [s1]; intro q; rw [q] at hbusy; simp [LoopState.isBusy] at hbusy
       have hlg : (ρ2 l).g = (ρ1 l).g := by rw [(p1.up l k2).2]
       have hend := run_endLoop (P := P) hL hnb
       rw [hlg] at hend hL
       have hlt := (Array.getElem?_eq_some_iff.1 hL).1
       have hp := p2.setO (st := st2) (k' := .lp { r with state := .exhausted }) hlk hro (.loop { L with state := .exhausted }) ⟨hU2, ⟨{ L with state := .exhausted }, by rw [hlg]; exact World.putObj_heap_same hlt, rfl, s2, s3, s4, s5, s6⟩⟩ undef undef (.tup _ _ .nil)
       rw [hlg] at hp
       generalize w3.putObj (ρ1 l).g (.loop { L with state := .exhausted }) = W4 at hend hp
       obtain ⟨U3, ρ3, d1, d2, d3, d4⟩ := hp
       have hx := k3.trans (p1.trans d1)
       have htr : TR U3 ρ3 nt t { a with defers := mark ++ a.defers } := ⟨ht.size, fun i hi => (ht.get i hi).up hx.up⟩
       have hbel := k5.trans (p4.trans d4)
       have hmk3 := k6.up (p1.trans d1).up rfl
       have hcp : ∀ ex, CP B ro nt U ρ st.next w ds (ex, t, ms', ⟨st2.next, put st2.mem l (.lp { r with state := .exhausted })⟩) { a with defers := mark ++ a.defers } W4 :=
        fun ex => ⟨U3, ρ3, hx, htr, d2, hbel, hmk3⟩
       split at he
       ·rename_i hpe
        simp only [Option.some.injEq] at he
        subst he
        refine ⟨none, W4, by rw [hend, s2, hpe]; rfl, ?_⟩
        exact ⟨_, List.mem_singleton.2 rfl, rfl, hcp _⟩
       ·rename_i ex hpe
        simp only [Option.some.injEq] at he
        subst he
        refine ⟨some (Xhk ex), W4, by rw [hend, s2, hpe]; rfl, ?_⟩
        cases ex with
        | normal => exact wpIn_skip ⟨_, List.mem_singleton.2 rfl, rfl, hcp _⟩
        | exit id => exact wpIn_exit ⟨_, List.mem_singleton.2 rfl, rfl, hcp _⟩
        | ret => exact wpIn_ret ⟨_, List.mem_singleton.2 rfl, rfl, hcp _⟩
     ·simp at he
   ·simp at he
  ·simp at he
 | scope b _ => intro t ms st os he; simp [YZ] at he
 | goto l => intro t ms st os he; simp [YZ] at he
 | refuse why => intro t ms st os he; simp [YZ] at he
end

section
variable {P : Program}
theorem XdV : ∀ (l : List Value) (i : Nat) (t : Tr) (x : Nat), i + l.length < 4095 → getT 12 (XfT l i t) x = if i ≤ x ∧ x < i + l.length then (l[x - i]?).getD undef else getT 12 t x
 | [], i, t, x, _ => by
  rw [if_neg (by simp only [List.length_nil]; omega)]; rfl
 | v :: l, i, t, x, h => by
  simp only [List.length_cons] at h ⊢
  show getT 12 (XfT l (i + 1) (putT 12 t i v)) x = _
  rw [XdV l (i + 1) _ x (by omega), JD 12 t i v x (by omega)]
  by_cases h1 : x = i
  ·subst h1
   rw [if_neg (by omega), if_pos rfl, if_pos (by omega)]
   simp
  ·by_cases h2 : i + 1 ≤ x ∧ x < i + 1 + l.length
   ·rw [if_pos h2, if_pos (by omega), show x - i = (x - (i + 1)) + 1 by omega]
    simp
   ·rw [if_neg h2, if_neg h1, if_neg (by omega)]

def resF (a : Act) : ResultVar → Sem Value
 | .tmp t => pure (a.tmps.getD t undef)
 | .cell x t => do loadVar t (← asAddr (a.tmps.getD x undef))
theorem XbS {nt : Nat} {m : Mem} {t : Tr} {B ro n : Nat} {U : Nat → Prop} {ρ : Nat → Pl} {a : Act} {w : World} (ht : TR U ρ nt t a) (hr : HR B ro U ρ n m w) : ∀ (rs : List ResultVar) (vs : List Value), aRes P nt m t rs = some vs →
  ∃ vs', (rs.mapM (resF a)).run P w = .ok vs' w ∧ VL U ρ vs vs'
 | [], vs, h => by
  simp only [aRes, Option.some.injEq] at h
  subst h
  exact ⟨[], rfl, .nil⟩
 | .tmp i :: rs, vs, h => by
  simp only [aRes] at h
  split at h
  ·rename_i vs0 hi h0
   simp only [Option.some.injEq] at h
   subst h
   obtain ⟨vs', h1, h2⟩ := XbS ht hr rs vs0 h0
   refine ⟨a.tmps.getD i undef :: vs', ?_, .cons _ _ _ _ (ht.get i (Nat.le_of_ble_eq_true hi)) h2⟩
   rw [List.mapM_cons]
   simp only [resF, Sem.run_bind, Sem.run_pure, Result.andThen_ok, h1]
  ·simp at h
 | .cell x ty :: rs, vs, h => by
  simp only [aRes] at h
  split at h
  ·rename_i b off hi hp
   have hv := ht.get x (Nat.le_of_ble_eq_true hi)
   rw [hp] at hv
   obtain ⟨_, e1⟩ := hv.ptr_inv
   split at h
   ·rename_i cs hb
    split at h
    ·rename_i v0 vs0 hl h0
     simp only [Option.some.injEq] at h
     subst h
     obtain ⟨vs', h1, h2⟩ := XbS ht hr rs vs0 h0
     obtain ⟨v', h3, h4⟩ := XdX (P := P) hr hb hl
     refine ⟨v' :: vs', ?_, .cons _ _ _ _ h4 h2⟩
     rw [List.mapM_cons]
     simp only [resF, Sem.run_bind, e1, asAddr, Sem.run_pure, Result.andThen_ok, h3, h1]
    ·simp at h
   ·simp at h
  ·simp at h

end
end Go.Proofs.Ytiaiecfnpompcaa.Ab
namespace Go.Proofs.Ytiaiecfnpompcaa.Ab
open Go Go.RowKit
set_option linter.unusedVariables false
set_option linter.unusedSimpArgs false
theorem HR.still {B ro n : Nat} {U : Nat → Prop} {ρ : Nat → Pl} {m : Mem} {w w' : World} (h : HR B ro U ρ n m w) (hb : Below w.heap.size w w') : HR B ro U ρ n m w' :=
 ⟨h.lt, fun b cs hl => Y3.up (h.blk b cs hl) (fun b hb => ⟨hb, rfl⟩) fun k hk => hb.block k hk, h.own, h.inj, Nat.le_trans h.base hb.size⟩
theorem Post.sub {B ro n : Nat} {U : Nat → Prop} {ρ : Nat → Pl} {w : World} {v : Value} {st1 st2 : St} {v' : Value} {w' : World} (hp : Post B ro U ρ n w v st1 v' w') (hn : st1.next ≤ st2.next) (hm : ∀ b k, Xr st2.mem b = some k → Xr st1.mem b = some k) : Post B ro U ρ n w v st2 v' w' := by
 obtain ⟨U', ρ', h1, h2, h3, h4⟩ := hp
 refine ⟨U', ρ', ⟨Nat.le_trans h1.le hn, h1.up, fun b hb => ?_⟩, (h2.sub hm).mono hn, h3, h4⟩
 rcases h1.new b hb with h5 | h5
 ·exact .inl h5
 ·exact .inr ⟨h5.1, Nat.lt_of_lt_of_le h5.2 hn⟩

theorem XdI : ∀ {m : Mem} {b : Nat} {k : Blk}, Xr m b = some k → (b, k) ∈ m
 | [], b, k, h => by simp [Xr] at h
 | (i, c) :: m, b, k, h => by
  simp only [Xr] at h
  split at h
  ·rename_i q
   simp only [Option.some.injEq] at h
   rw [← Nat.eq_of_beq_eq_true q, h]
   exact List.mem_cons_self
  ·exact List.mem_cons_of_mem _ (XdI h)
theorem Xbh {next : Nat} {seen : List Nat} {b : Nat} (hb : (Nat.ble next b && !mem1 b seen) = true) : ∀ m : Mem, Xr (XbC next seen m) b = none
 | [] => rfl
 | (i, c) :: m => by
  simp only [XbC]
  split
  ·exact Xbh hb m
  ·rename_i q
   simp only [Xr]
   rw [show Nat.beq i b = false from Bool.eq_false_iff.mpr fun e => by rw [Nat.eq_of_beq_eq_true e] at q; rw [hb] at q; simp at q]
   exact Xbh hb m
theorem Xab {next : Nat} {seen : List Nat} : ∀ {m : Mem} {b : Nat} {k : Blk}, Xr (XbC next seen m) b = some k → Xr m b = some k
 | [], b, k, h => by simp [XbC, Xr] at h
 | (i, c) :: m, b, k, h => by
  simp only [XbC] at h
  split at h
  ·rename_i q
   simp only [Xr]
   by_cases e : i = b
   ·subst e
    rw [Xbh q m] at h
    simp at h
   ·rw [show Nat.beq i b = false from Bool.eq_false_iff.mpr fun q2 => e (Nat.eq_of_beq_eq_true q2)]
    exact Xab h
  ·simp only [Xr] at h ⊢
   split at h
   ·exact h
   ·exact Xab h
theorem XfG {B ro n : Nat} {U : Nat → Prop} {ρ : Nat → Pl} {w : World} {wf : Bool} {nx : Nat} {v : Value} {st1 : St} {u : Value} {st' : St} (h : tidy wf nx v st1 = some (u, st')) {v' : Value} {w' : World} (hp : Post B ro U ρ n w v st1 v' w') : Post B ro U ρ n w u st' v' w' := by
 unfold tidy at h
 split at h
 ·simp only [Option.some.injEq, Prod.mk.injEq] at h
  obtain ⟨rfl, rfl⟩ := h
  exact hp.sub (Nat.le_refl _) fun b k hb => Xab hb
 ·split at h
  ·simp only [Option.some.injEq, Prod.mk.injEq] at h
   obtain ⟨rfl, rfl⟩ := h
   exact hp.sub (Nat.le_refl _) fun b k hb => Xgu hb
  ·simp only [Option.some.injEq, Prod.mk.injEq] at h
   obtain ⟨rfl, rfl⟩ := h
   exact hp.sub (Nat.le_refl _) fun b k hb => Xab hb

theorem Xbj {α : Type} {f : α → α → Bool} (hf : ∀ x y, f x y = true → x = y) : ∀ {xs ys : List α}, eqL f xs ys = true → xs = ys
 | [], [], _ => rfl
 | x :: xs, y :: ys, h => by
  simp only [eqL, Bool.and_eq_true] at h
  rw [hf x y h.1, Xbj hf h.2]
 | [], _ :: _, h => by simp [eqL] at h
 | _ :: _, [], h => by simp [eqL] at h
theorem Xhm {a b : Option Addr} (h : eqA a b = true) : a = b := by
 unfold eqA at h
 split at h
 ·rfl
 ·simp only [Bool.and_eq_true] at h
  rw [Nat.eq_of_beq_eq_true h.1, Nat.eq_of_beq_eq_true h.2]
 ·simp at h
theorem XcX : ∀ (n : Nat) (a b : Value), eqV n a b = true → a = b := by
 intro n
 induction n with
 | zero => intro a b h; simp [eqV] at h
 | succ n ih =>
  intro a b h
  unfold eqV at h
  split at h
  all_goals try (rename_i hn; first | (injection hn with hn; subst hn) | skip)
  ·simp only [beq_iff_eq] at h; rw [h]
  ·simp only [Bool.and_eq_true, decide_eq_true_eq, beq_iff_eq] at h; rw [h.1, h.2]
  ·rw [Xhm h]
  ·simp only [Bool.and_eq_true] at h; rw [Xhm h.1.1, Nat.eq_of_beq_eq_true h.1.2, Nat.eq_of_beq_eq_true h.2]
  ·rw [Nat.eq_of_beq_eq_true h]
  ·rfl
  ·rw [Xbj ih h]
  ·rw [Xbj ih h]
  ·simp at h
theorem Xhl {a b : Blk} (h : eqB a b = true) : a = b := by
 unfold eqB at h
 split at h
 ·rw [Xbj (XcX 8) h]
 ·simp only [Bool.and_eq_true] at h
  rw [Xbj (fun x y q => ?_) h.1, Nat.eq_of_beq_eq_true h.2]
  simp only [Bool.and_eq_true] at q
  obtain ⟨k1, v1, b1⟩ := x
  obtain ⟨k2, v2, b2⟩ := y
  simp only at q
  rw [XcX 8 _ _ q.1.1, XcX 8 _ _ q.1.2, Nat.eq_of_beq_eq_true q.2]
 ·simp at h
theorem Xbd {l : List (Value × St)} : ∀ {m : Mem} {b : Nat} {k : Blk}, (b, k) ∈ XcL l m → ∀ p ∈ l, Xr p.2.mem b = some k
 | [], b, k, h, p, hp => by simp [XcL] at h
 | (i, c) :: m, b, k, h, p, hp => by
  simp only [XcL] at h
  split at h
  ·rename_i q
   rcases List.mem_cons.1 h with h | h
   ·simp only [Prod.mk.injEq] at h
    obtain ⟨rfl, rfl⟩ := h
    rw [List.all_eq_true] at q
    have := q p hp
    split at this
    ·rename_i k' hk'; rw [hk', Xhl this]
    ·simp at this
   ·exact Xbd h p hp
  ·exact Xbd h p hp
theorem XfK : ∀ (l : List (Value × St)) (n : Nat), n ≤ maxN n l ∧ ∀ p ∈ l, p.2.next ≤ maxN n l
 | [], n => ⟨Nat.le_refl _, fun p hp => by simp at hp⟩
 | q :: l, n => by
  simp only [maxN]
  obtain ⟨h1, h2⟩ := XfK l (match Nat.ble n q.2.next with | true => q.2.next | false => n)
  have h3 : n ≤ (match Nat.ble n q.2.next with | true => q.2.next | false => n) ∧ q.2.next ≤ (match Nat.ble n q.2.next with | true => q.2.next | false => n) := by
   cases e : Nat.ble n q.2.next with
   | true => exact ⟨Nat.le_of_ble_eq_true e, Nat.le_refl _⟩
   | false =>
    refine ⟨Nat.le_refl _, ?_⟩
    have : ¬ n ≤ q.2.next := fun h => by rw [Nat.ble_eq_true_of_le h] at e; simp at e
    show q.2.next ≤ n
    omega
  refine ⟨Nat.le_trans h3.1 h1, fun p hp => ?_⟩
  rcases List.mem_cons.1 hp with rfl | hp
  ·exact Nat.le_trans h3.2 h1
  ·exact h2 p hp
theorem Xax {B ro n : Nat} {U : Nat → Prop} {ρ : Nat → Pl} {w : World} {l : List (Value × St)} {u : Value} {st2 : St} (h : XfN l = some (u, st2)) {p : Value × St} (hp : p ∈ l) {v' : Value} {w' : World} (hq : Post B ro U ρ n w p.1 p.2 v' w') : Post B ro U ρ n w u st2 v' w' := by
 unfold XfN at h
 split at h
 ·simp at h
 ·simp only [List.mem_singleton] at hp
  subst hp
  simp only [Option.some.injEq] at h
  rw [h] at hq
  exact hq
 ·rename_i v st l' _
  split at h
  ·rename_i hall
   simp only [Option.some.injEq, Prod.mk.injEq] at h
   obtain ⟨rfl, rfl⟩ := h
   have hv : p.1 = v := by
    rcases List.mem_cons.1 hp with rfl | hp
    ·rfl
    ·rw [List.all_eq_true] at hall
     exact XcX 8 _ _ (hall p hp)
   have := hq.sub (st2 := ⟨maxN 0 ((v, st) :: l'), XcL ((v, st) :: l') st.mem⟩) ((XfK _ 0).2 p hp) fun b k hb => Xbd (XdI hb) p hp
   rw [hv] at this
   exact this
  ·simp at h
theorem Xb8 {α : Type} {f : α → Ans} : ∀ {os : List α} {l : List (Value × St)}, allA os f = some l → ∀ o ∈ os, ∃ p, f o = some p ∧ p ∈ l
 | [], l, h, o, ho => by simp at ho
 | x :: xs, l, h, o, ho => by
  simp only [allA] at h
  split at h
  ·rename_i p ps h1 h2
   simp only [Option.some.injEq] at h
   subst h
   rcases List.mem_cons.1 ho with rfl | ho
   ·exact ⟨p, h1, List.mem_cons_self⟩
   ·obtain ⟨q, h3, h4⟩ := Xb8 h2 o ho
    exact ⟨q, h3, List.mem_cons_of_mem _ h4⟩
  ·simp at h

section
variable {P : Program}
theorem XdJ {fn : Func} {tmps : Array Value} {R : Ending → World → Prop} {B ro n : Nat} {U : Nat → Prop} {ρ : Nat → Pl} {w0 : World} : ∀ (ms : List Nat) (m m' : Mem) (w : World), Xbg ro ms m = some m' → HR B ro U ρ n m w → Below B w0 w →
  (∀ w', HR B ro U ρ n m' w' → Below B w0 w' → ∃ v, (results fn tmps).run P w' = .ok v w' ∧ R (.returned v) w') → LeavesInM (Fw none) 0 P fn tmps R (ms.map (mk ρ)) .returning w
 | [], m, m', w, h, hr, hb, hf => by
  simp only [Xbg, Option.some.injEq] at h
  subst h
  exact hf w hr hb
 | b :: bs, m, m', w, h, hr, hb, hf => by
  simp only [Xbg] at h
  split at h
  ·rename_i hro hl
   have hro := Nat.le_of_ble_eq_true hro
   have hg : w.heap[(ρ b).g]? = some (.deferred (some [])) := (hr.blk b _ hl).2
   refine ⟨by simp, .inl ⟨(ρ b).g, w.putObj (ρ b).g (.deferred none), rfl, run_takeDeferred hg, ?_⟩⟩
   have hr' : HR B ro U ρ n (Xap m b) (w.putObj (ρ b).g (.deferred none)) := by
    refine ⟨hr.lt, fun b' k hb' => ?_, fun b' k hb' => hr.own b' k (Jc hb').2, fun b1 b2 k1 k2 h1 h2 => hr.inj b1 b2 k1 k2 (Jc h1).2 (Jc h2).2, by simpa using hr.base⟩
    obtain ⟨h1, h2⟩ := Jc hb'
    exact (hr.blk b' k h2).move (fun b hb => ⟨hb, rfl⟩) (World.putObj_heap_other fun q => h1 (hr.inj _ _ _ _ h2 hl q))
   refine XdJ bs _ m' _ h hr' (hb.trans ⟨rfl, rfl, rfl, by simp, fun j hj => World.putObj_heap_other ?_⟩) hf
   have := hr.own _ _ hl hro
   omega
  ·simp at h

def XfV (P : Program) (orc : FuncId → Option (Nat → List Value → St → Ans)) : Prop :=
 ∀ f g, orc f = some g → ∀ ro args (st : St) v st', g ro args st = some (v, st') → (∃ fn, P.funcs[f]? = some fn ∧ fn.body.isSome = true) ∧
  ∀ B U ρ w args', HR B ro U ρ st.next st.mem w → VL U ρ args args' → Calls P f ⟨args'⟩ w fun e w' => ∃ v', e = .returned v' ∧ Post B ro U ρ st.next w v st' v' w'

theorem Xez {U : Nat → Prop} {ρ : Nat → Pl} {nt : Nat} (hn : nt < 4095) : ∀ (ps : List Tmp) (vs vs' : List Value) (t : Tr) (tmps : Array Value), VL U ρ vs vs' → vs.length = ps.length → (∀ p ∈ ps, p < nt) → TV U ρ nt t tmps →
  TV U ρ nt (XeA ps vs t) ((ps.zip vs').foldl (fun tmps x => tmps.setIfInBounds x.1 x.2) tmps)
 | [], vs, vs', t, tmps, h, hl, hp, ht => by cases vs <;> exact ht
 | p :: ps, [], vs', t, tmps, h, hl, hp, ht => by simp at hl
 | p :: ps, v :: vs, _, t, tmps, .cons _ v' _ vs' h1 h2, hl, hp, ht => by
  simp only [XeA, List.zip_cons_cons, List.foldl_cons]
  have hpn : @LT.lt Nat instLTNat p nt := hp p (by simp)
  refine Xez hn ps vs vs' _ _ h2 (by simpa using hl) (fun q hq => hp q (by simp [hq])) ⟨by simp [ht.size], fun i hi => ?_⟩
  rw [JD 12 t p v i (by omega)]
  by_cases e : i = p
  ·subst e
   rw [if_pos rfl]
   simp [ht.size, hi, h1]
  ·rw [if_neg e]
   simp only [Array.getD_eq_getD_getElem?, Array.getElem?_setIfInBounds_ne (show p ≠ i from fun q => e q.symm)]
   simpa using ht.get i hi

theorem Xe3 (hm : P.follows .mixedOrders = true) (hng : ∀ (f : Nat) fn, P.funcs[f]? = some fn → (fn.name == "runtime.NumGoroutine") = false) {orc : FuncId → Option (Nat → List Value → St → Ans)} {wr : FuncId → Bool} (horc : XfV P orc) (lf : Nat) :
  ∀ n, JY P (JL P orc wr lf n) := by
 intro n
 induction n with
 | zero => intro ro g args st v st' he; simp [JL] at he
 | succ n ih =>
  intro ro g args st v st' he
  cases g with
  | fn f =>
   simp only [JL] at he
   split at he
   ·rename_i g hg
    obtain ⟨⟨fn, h1, h2⟩, h3⟩ := horc f g hg ro args st v st' he
    exact ⟨⟨fn, h1, hng f fn h1, h2⟩, h3⟩
   ·split at he
    ·rename_i fn hfn
     split at he
     ·rename_i c hc hcond
      simp only [Bool.and_eq_true] at hcond
      have hn : fn.ntmps < 4095 := Nat.le_of_ble_eq_true hcond.1
      have hal : args.length ≤ fn.ntmps := Nat.le_of_ble_eq_true hcond.2
      refine ⟨⟨fn, hfn, hng f fn hfn, by rw [hc]; rfl⟩, fun B U ρ w args' hr hl => ?_⟩
      have hlen := hl.len
      have ht : TR U ρ fn.ntmps (XfT args 0 .nil) { tmps := ⟨args'⟩ ++ Array.replicate (fn.ntmps - (⟨args'⟩ : Array Value).size) undef, defers := [] } := by
       refine ⟨by simp; omega, fun i hi => ?_⟩
       rw [XdV args 0 .nil i (by omega)]
       simp only [Nat.zero_le, true_and, Nat.zero_add, Nat.sub_zero, JH]
       by_cases h1 : i < args.length
       ·rw [if_pos h1]
        obtain ⟨y, hy, hv⟩ := hl.get (List.getElem?_eq_getElem h1)
        rw [List.getElem?_eq_getElem h1]
        have : ((⟨args'⟩ : Array Value) ++ Array.replicate (fn.ntmps - (⟨args'⟩ : Array Value).size) undef).getD i undef = y := by
         rw [Array.getD_eq_getD_getElem?, Array.getElem?_append_left (by simp; omega)]
         simp [hy]
        rw [this]
        exact hv
       ·rw [if_neg h1]
        have : ((⟨args'⟩ : Array Value) ++ Array.replicate (fn.ntmps - (⟨args'⟩ : Array Value).size) undef).getD i undef = undef := by
         rw [Array.getD_eq_getD_getElem?, Array.getElem?_append_right (by simp; omega)]
         simp only [Array.getElem?_replicate]
         split <;> rfl
        rw [this]
        exact .tup _ _ .nil
      split at he
      ·rename_i os hrun
       split at he
       ·rename_i l hall
        refine (callsIn_wide (n := 0)).1 (callsIn_of_wp_marks (F := Fw none) hfn hc trivial (wpIn_mono (Xdc ih hm hn (rd := none) (rr := none) c _ [] st _ hrun B U ρ _ w [] rfl ht hr ⟨fun _ h => by simp at h, rfl⟩) ?_))
        rintro x a1 w1 ⟨⟨ex, t1, ms1, st1⟩, ho, rfl, U1, ρ1, h1, h2, h3, h4, h5, h6⟩
        obtain ⟨p, hend, hpl⟩ := Xb8 hall _ ho
        simp only [List.append_nil] at h6
        have key : ex ≠ .exit 0 → (∃ m, Xbg ro ms1 st1.mem = some m ∧ ∀ w', HR B ro U1 ρ1 st1.next m w' → Below B w w' → ∃ v1, (results fn a1.tmps).run P w' = .ok v1 w' ∧ ∃ v2, (Ending.returned v1) = .returned v2 ∧ Post B ro U ρ st.next w v st' v2 w') ∨ True := fun _ => .inr trivial
        have main : ∀ m, Xbg ro ms1 st1.mem = some m → (match aRes P fn.ntmps m t1 fn.results.toList with
          | some [v] => tidy (wr f) st.next v ⟨st1.next, m⟩
          | some vs => tidy (wr f) st.next (.tuple ⟨vs⟩) ⟨st1.next, m⟩
          | none => none) = some p → LeavesInM (Fw none) 0 P fn a1.tmps (fun e w' => ∃ v', e = .returned v' ∧ Post B ro U ρ st.next w v st' v' w') a1.defers .returning w1 := by
         intro m hlv hp
         rw [h6]
         refine XdJ (w0 := w) ms1 _ m w1 hlv h3 h4 fun w' hr' hb' => ?_
         have hres : ∀ vs vs', (fn.results.toList.mapM (resF a1)).run P w' = .ok vs' w' → VL U1 ρ1 vs vs' → (results fn a1.tmps).run P w' = .ok (if h : vs'.toArray.size = 1 then vs'.toArray[0] else .tuple vs'.toArray) w' := by
          intro vs vs' hv _
          have e : results fn a1.tmps = (do let vs ← fn.results.mapM (resF a1); pure (if h : vs.size = 1 then vs[0] else .tuple vs) : Sem Value) := by
           unfold results
           congr 2
          rw [e, Array.mapM_eq_mapM_toList]
          simp only [Sem.run_bind, Sem.run_map, hv, Result.andThen_ok, Sem.run_pure]
         obtain ⟨pv, pst⟩ := p
         split at hp
         ·rename_i u hu
          obtain ⟨vs', g1, g2⟩ := XbS (P := P) h2 hr' _ _ hu
          have hr1 := hres _ vs' g1 g2
          cases g2 with
          | cons _ x' _ xs' g3 g4 =>
           cases g4
           exact ⟨x', by simpa using hr1, x', rfl, Xax he hpl (XfG hp ⟨U1, ρ1, h1, hr', g3, hb'⟩)⟩
         ·rename_i vs hne hu
          obtain ⟨vs', g1, g2⟩ := XbS (P := P) h2 hr' _ _ hu
          have hr1 := hres _ vs' g1 g2
          have hl2 := g2.len
          have : vs'.toArray.size ≠ 1 := by
           intro q
           have : vs.length = 1 := by rw [hl2]; simpa using q
           match vs, this with
           | [z], _ => exact hne z rfl
          refine ⟨.tuple ⟨vs'⟩, ?_, _, rfl, Xax he hpl (XfG hp ⟨U1, ρ1, h1, hr', .tup _ _ g2, hb'⟩)⟩
          rw [dif_neg this] at hr1
          exact hr1
         ·simp at hp
        cases ex with
        | exit id => simp [endF] at hend
        | normal =>
         simp only [endF] at hend
         split at hend
         ·rename_i m hlv; exact main m hlv hend
         ·simp at hend
        | ret =>
         simp only [endF] at hend
         split at hend
         ·rename_i m hlv; exact main m hlv hend
         ·simp at hend
       ·simp at he
      ·simp at he
     ·simp at he
    ·simp at he
  | yld l =>
   simp only [JL] at he
   split at he
   ·rename_i r hro hlk
    have hro := Nat.le_of_ble_eq_true hro
    split at he
    ·rename_i hcond
     simp only [Bool.and_eq_true, List.all_eq_true] at hcond
     obtain ⟨⟨hn, hal⟩, hps⟩ := hcond
     have hn : r.nt < 4095 := Nat.le_of_ble_eq_true hn
     have hal := Nat.eq_of_beq_eq_true hal
     split at he
     ·rename_i t1 st1 hasg
      split at he
      ·rename_i r1 hlk1
       split at he
       ·rename_i hready
        split at he
        ·rename_i os hbody
         split at he
         ·rename_i lst hall
          intro B U ρ w args' hr hl
          obtain ⟨hU, L, hL, s1, s2, s3, s4, s5, s6⟩ := hr.blk l _ hlk
          have hlen := hl.len
          refine ⟨L, hL, by rw [s3]; simp; omega, ?_⟩
          rw [s4, s5]
          have htm : (L.params.zip ⟨args'⟩).foldl (fun tmps (x : Tmp × Value) => tmps.setIfInBounds x.1 x.2) L.tmps = (r.ps.zip args').foldl (fun tmps x => tmps.setIfInBounds x.1 x.2) L.tmps := by
           rw [s3, ← Array.foldl_toList]
           simp
          have htv : TV U ρ r.nt (XeA r.ps args r.t) ((r.ps.zip args').foldl (fun tmps x => tmps.setIfInBounds x.1 x.2) L.tmps) := Xez hn r.ps args args' r.t L.tmps hl hal (fun p hp => Nat.le_of_ble_eq_true (hps p hp)) s6
          refine roundIn_of_wpIn trivial ?_
          show r.asg.wpIn (Fw (some (ρ l).g)) 0 P _ { tmps := (L.params.zip ⟨args'⟩).foldl (fun tmps (x : Tmp × Value) => tmps.setIfInBounds x.1 x.2) L.tmps, defers := [] } w
          rw [htm]
          have hrd : RdOk (some l) (some (ρ l).g) U ρ := ⟨hU, rfl⟩
          refine wpIn_mono (Xdc ih hm hn (rd := some l) (rr := some (ρ l).g) r.asg _ [] st _ hasg B U ρ { tmps := (r.ps.zip args').foldl (fun tmps x => tmps.setIfInBounds x.1 x.2) L.tmps, defers := [] } w [] hrd ⟨htv.size, htv.get⟩ hr ⟨fun _ h => by simp at h, rfl⟩) ?_
          rintro x a1 w1 ⟨o, ho, rfl, hcp⟩
          simp only [List.mem_singleton] at ho
          subst ho
          obtain ⟨U1, ρ1, c1, c2, c3, c4, c5⟩ := hcp
          have hlg1 : (ρ1 l).g = (ρ l).g := by rw [(c1.up l hU).2]
          obtain ⟨hU1, L1, hL1, e1, e2, e3, e4, e5, e6⟩ := c3.blk l _ hlk1
          have hst : L1.state = .ready := by rw [e1]; cases hs : r1.state <;> simp [hs, LoopState.isReady] at hready ⊢
          have hbeg := run_beginRound (P := P) hL1 hst
          have hlt1 := (Array.getElem?_eq_some_iff.1 hL1).1
          have hp := c3.setO (st := st1) (k' := .lp { r1 with state := .busy }) hlk1 hro (.loop { L1 with state := .busy }) ⟨hU1, ⟨{ L1 with state := .busy }, World.putObj_heap_same hlt1, rfl, e2, e3, e4, e5, e6⟩⟩ undef undef (.tup _ _ .nil)
          rw [hlg1] at hbeg hp
          refine ⟨_, hbeg, ?_⟩
          generalize w1.putObj (ρ l).g (.loop { L1 with state := .busy }) = w2 at hp ⊢
          obtain ⟨U2, ρ2, d1, d2, d3, d4⟩ := hp
          have hx2 := c1.trans d1
          refine wpIn_mono (Xdc ih hm hn (rd := some l) (rr := some (ρ l).g) r.body _ [] ⟨st1.next, put st1.mem l (.lp { r1 with state := .busy })⟩ _ hbody B U2 ρ2 a1 w2 [] (hrd.up hx2.up) ⟨c2.size, fun i hi => (c2.get i hi).up d1.up⟩ d2 (c5.up d1.up rfl)) ?_
          rintro x a3 w3 ⟨⟨ex, t3, ms3, st3⟩, ho, rfl, hcp⟩
          obtain ⟨p, hend, hpl⟩ := Xb8 hall _ ho
          obtain ⟨U3, ρ3, f1, f2, f3, f4, f5⟩ := hcp
          have hx3 := hx2.trans f1
          have hlg3 : (ρ3 l).g = (ρ l).g := by rw [(hx3.up l hU).2]
          simp only [endR] at hend
          split at hend
          ·rename_i _ r3 hro3 hlk3
           obtain ⟨hU3, L3, hL3, y1, y2, y3, y4, y5, y6⟩ := f3.blk l _ hlk3
           have hlt3 := (Array.getElem?_eq_some_iff.1 hL3).1
           have hb3 := c4.trans (d4.trans f4)
           cases ex with
           | normal =>
            simp only [Option.some.injEq] at hend
            subst hend
            have hp := f3.setO (st := st3) (k' := .lp { r3 with state := .ready, pend := none }) hlk3 hro (.loop { L3 with state := .ready, pending := none }) ⟨hU3, ⟨{ L3 with state := .ready, pending := none }, World.putObj_heap_same hlt3, rfl, rfl, y3, y4, y5, y6⟩⟩ (.bool true) (.bool true) (.bool _)
            have her := run_endRound (P := P) none hL3
            rw [hlg3] at hp her
            refine ⟨_, _, her, _, rfl, Xax he hpl ?_⟩
            obtain ⟨U4, ρ4, z1, z2, z3, z4⟩ := hp
            exact ⟨U4, ρ4, hx3.trans z1, z2, z3, hb3.trans z4⟩
           | exit id =>
            simp only [Option.some.injEq] at hend
            subst hend
            have hp := f3.setO (st := st3) (k' := .lp { r3 with state := .done, pend := some (.exit id) }) hlk3 hro (.loop { L3 with state := .done, pending := some (.exit id) }) ⟨hU3, ⟨{ L3 with state := .done, pending := some (.exit id) }, World.putObj_heap_same hlt3, rfl, rfl, y3, y4, y5, y6⟩⟩ (.bool false) (.bool false) (.bool _)
            have her := run_endRound (P := P) (some (.exit id)) hL3
            rw [hlg3] at hp her
            refine ⟨_, _, her, _, rfl, Xax he hpl ?_⟩
            obtain ⟨U4, ρ4, z1, z2, z3, z4⟩ := hp
            exact ⟨U4, ρ4, hx3.trans z1, z2, z3, hb3.trans z4⟩
           | ret =>
            simp only [Option.some.injEq] at hend
            subst hend
            have hp := f3.setO (st := st3) (k' := .lp { r3 with state := .done, pend := some .ret }) hlk3 hro (.loop { L3 with state := .done, pending := some .ret }) ⟨hU3, ⟨{ L3 with state := .done, pending := some .ret }, World.putObj_heap_same hlt3, rfl, rfl, y3, y4, y5, y6⟩⟩ (.bool false) (.bool false) (.bool _)
            have her := run_endRound (P := P) (some .ret) hL3
            rw [hlg3] at hp her
            refine ⟨_, _, her, _, rfl, Xax he hpl ?_⟩
            obtain ⟨U4, ρ4, z1, z2, z3, z4⟩ := hp
            exact ⟨U4, ρ4, hx3.trans z1, z2, z3, hb3.trans z4⟩
          ·simp at hend
         ·simp at he
        ·simp at he
       ·simp at he
      ·simp at he
     ·simp at he
    ·simp at he
   ·simp at he

theorem Xf8 (hm : P.follows .mixedOrders = true) (hng : ∀ (f : Nat) fn, P.funcs[f]? = some fn → (fn.name == "runtime.NumGoroutine") = false) {orc : FuncId → Option (Nat → List Value → St → Ans)} {wr : FuncId → Bool} (horc : XfV P orc) {lf n : Nat} {f : FuncId} {args : List Value} {v : Value} {st' : St}
  (ha : args.all (gnd 8) = true) (hv : gnd 8 v = true) (h : JL P orc wr lf n 0 (.fn f) args ⟨0, []⟩ = some (v, st')) (w : World) : Calls P f ⟨args⟩ w fun e w' => e = .returned v ∧ Below w.heap.size w w' := by
 obtain ⟨_, h1⟩ := Xe3 (wr := wr) hm hng horc lf n 0 (.fn f) args ⟨0, []⟩ v st' h
 have hr : HR w.heap.size 0 (fun _ => False) (fun _ => ⟨0, 0, 0⟩) 0 [] w :=
  ⟨fun b hb => hb.elim, fun b cs hb => by simp [Xr] at hb, fun b cs hb => by simp [Xr] at hb, fun b b' cs cs' hb => by simp [Xr] at hb, Nat.le_refl _⟩
 refine (h1 w.heap.size _ _ w args hr (VL.refl_of (VR.refl 8) args ha)).mono ?_
 rintro e w' ⟨v', rfl, U', ρ', _, _, g3, g4⟩
 exact ⟨by rw [VR.eq 8 v v' hv g3], g4⟩
end
end Go.Proofs.Ytiaiecfnpompcaa.Ab
