-- cut down, squeezed and laid together by pack.py (a program of this repository) out of this seat's texts
import Derived.Test.YticbhgjenidjlaaZG12
namespace Go.Proofs.Yticbhgjenidjlaa.Ab
open Go Go.RowKit
set_option linter.unusedVariables false
set_option linter.unusedSimpArgs false
section
variable {P : Program} {call : Nat → FuncId → List Value → St → Ans} {wr : FuncId → Bool} {ro : Nat} {ops : Array Oper}

theorem aDraw_run : ∀ (l : List (Oper × Nat)) (i : Nat) (s r : DS), aDraw P call wr ro ops l i s = some r →
    ∃ (S : Nat → DS) (V : Nat → Value), S i = s ∧ S (i + l.length) = r ∧ ∀ (k : Nat) o mask, l[k]? = some (o, mask) → dstep P call wr ro ops o mask (i + k) (S (i + k)) = some (V (i + k), S (i + k + 1)) := by
  intro l
  induction l with
  | nil =>
    intro i s r h
    simp only [aDraw, Option.some.injEq] at h
    exact ⟨fun _ => s, fun _ => undef, rfl, h, by simp⟩
  | cons p l ih =>
    intro i s r h
    change (match dstep P call wr ro ops p.1 p.2 i s with
      | some (_, s') => aDraw P call wr ro ops l (i + 1) s'
      | none => none) = some r at h
    split at h
    · rename_i v s' hd
      obtain ⟨S, V, h1, h2, h3⟩ := ih (i + 1) s' r h
      refine ⟨fun j => if j = i then s else S j, fun j => if j = i then v else V j, if_pos rfl, ?_, fun k o mask hk => ?_⟩
      · simp only [List.length_cons]
        rw [if_neg (by omega), show i + (l.length + 1) = i + 1 + l.length by omega]
        exact h2
      · cases k with
        | zero =>
          simp only [List.getElem?_cons_zero, Option.some.injEq] at hk
          subst hk
          simp only [Nat.add_zero, if_true]
          rw [if_neg (by omega), h1]
          exact hd
        | succ k =>
          simp only [List.getElem?_cons_succ] at hk
          have := h3 k o mask hk
          simp only [if_neg (show ¬ i + (k + 1) = i by omega), if_neg (show ¬ i + (k + 1) + 1 = i by omega)]
          rwa [show i + (k + 1) = i + 1 + k by omega, show i + 1 + k + 1 = i + 1 + k + 1 from rfl]
    · simp at h

theorem blank_get : ∀ (ns : List Mem) (j : Nat), (blank ns)[j]? = (ns[j]?).map fun _ => []
  | [], j => rfl
  | r :: rs, 0 => rfl
  | r :: rs, j + 1 => by simp only [blank, List.getElem?_cons_succ]; exact blank_get rs j
theorem blank_length : ∀ (ns : List Mem), (blank ns).length = ns.length
  | [] => rfl
  | r :: rs => by simp only [blank, List.length_cons, blank_length rs]

theorem free_spec {o : Oper} {ro n : Nat} {base : Mem} {mask : Nat} {ns : List Mem} {ev : Operand → Value} {v : Value} {st' : St} {b : Nat} (h : aOp P call ro ev o ⟨n, memOf base mask 0 ns⟩ = some (v, st')) (hf : freeRead ev o ns v = some b) :
    IsLoad o ∧ gnd 8 v = true ∧ ∃ cs, look base b = some cs ∧ aOp P call ro ev o ⟨n, [(b, cs)]⟩ = some (v, ⟨n, [(b, cs)]⟩) := by
  unfold freeRead at hf
  split at hf
  · rename_i t a ho
    split at hf
    · rename_i b1 off e
      split at hf
      · rename_i hg
        simp only [Option.some.injEq] at hf
        subst hf
        simp only [Bool.and_eq_true] at hg
        refine ⟨⟨t, a, ho⟩, hg.1, ?_⟩
        simp only [aOp, ho, oLoad, e] at h ⊢
        rw [memOf_absent hg.2] at h
        split at h
        · rename_i cs hl
          split at h
          · rename_i u hv
            simp only [Option.some.injEq, Prod.mk.injEq] at h
            refine ⟨cs, hl, ?_⟩
            have : look [(b1, cs)] b1 = some cs := by simp [look]
            simp only [this, hv, h.1]
          · simp at h
        · simp at h
      · simp at hf
    · simp at hf
  · simp at hf
theorem write_spec {o : Oper} {ro : Nat} {ev : Operand → Value} {v : Value} {st st' : St} {b : Nat} (h : aOp P call ro ev o st = some (v, st')) (hw : writeOf ev o = some b) : ∃ cs, st'.mem = put st.mem b cs := by
  unfold writeOf at hw
  split at hw
  · rename_i t a x ho
    split at hw
    · rename_i b1 off e
      simp only [Option.some.injEq] at hw
      subst hw
      simp only [aOp, ho, oStore, e] at h
      split at h
      · split at h
        · rename_i cs' hs
          rw [fl_eq] at h
          simp only [Option.some.injEq, Prod.mk.injEq] at h
          exact ⟨cs', by rw [← h.2]⟩
        · simp at h
      · simp at h
    · simp at hw
  · simp at hw

theorem dstep_shape {o : Oper} {mask i : Nat} {s s' : DS} {v : Value} (h : dstep P call wr ro ops o mask i s = some (v, s')) :
    s'.t = setT s.t o.dst v ∧ s.next ≤ s'.next ∧ ∃ N q, s'.rd = s.rd ++ [q] ∧
    ((s'.last = s.last ∧ s'.base = s.base ∧ s'.ns = s.ns ++ [N] ∧ ((q = none ∧ wantedT ops s.t o = false ∧ v = undef ∧ N = [] ∧ s'.next = s.next) ∨
      (q = none ∧ wantedT ops s.t o = true ∧ still o.op = true ∧ aOp P call s.next (evl s.t) o ⟨s.next, []⟩ = some (v, ⟨s.next, []⟩) ∧ N = [] ∧ s'.next = s.next) ∨
      (q = none ∧ behind mask s.last = true ∧ wantedT ops s.t o = true ∧ still o.op = false ∧ ∃ st', aOp P call s.next (evl s.t) o ⟨s.next, memOf s.base mask 0 s.ns⟩ = some (v, st') ∧ N = from1 s.next st'.mem ∧ s'.next = st'.next) ∨
      (∃ b, q = some b ∧ behind mask s.last = true ∧ wantedT ops s.t o = true ∧ IsLoad o ∧ gnd 8 v = true ∧ N = [] ∧ s'.next = s.next ∧ ∃ cs, look s.base b = some cs ∧ aOp P call s.next (evl s.t) o ⟨s.next, [(b, cs)]⟩ = some (v, ⟨s.next, [(b, cs)]⟩)))) ∨
     (q = none ∧ still o.op = false ∧ wantedT ops s.t o = true ∧ N = [] ∧ louds mask (writeOf (evl s.t) o) s.ns 0 i ops.toList s.rd = true ∧ s'.last = some i ∧ s'.ns = blank s.ns ++ [N] ∧ aOp P call ro (evl s.t) o ⟨s.next, memAll s.base s.ns⟩ = some (v, ⟨s'.next, s'.base⟩))) := by
  unfold dstep at h
  split at h
  · rename_i hw
    split at h
    · rename_i hs
      split at h
      · rename_i v1 st1 hop
        simp only [Option.some.injEq, Prod.mk.injEq] at h
        obtain ⟨rfl, rfl⟩ := h
        obtain ⟨q1, q2⟩ := still_ok (P := P) (call2 := call) (ro2 := s.next) (st2 := ⟨s.next, []⟩) hs hop
        exact ⟨rfl, Nat.le_refl _, [], none, rfl, .inl ⟨rfl, rfl, rfl, .inr (.inl ⟨rfl, hw, hs, q2, rfl, rfl⟩)⟩⟩
      · simp at h
    · rename_i hs
      split at h
      · split at h
        · rename_i hact
          split at h
          · rename_i v1 st1 hop
            split at h
            · rename_i hle
              simp only [Option.some.injEq, Prod.mk.injEq] at h
              obtain ⟨rfl, rfl⟩ := h
              cases hq : freeRead (evl s.t) o s.ns v1 with
              | none => exact ⟨rfl, Nat.le_of_ble_eq_true hle, _, none, rfl, .inl ⟨rfl, rfl, rfl, .inr (.inr (.inl ⟨rfl, hact, hw, hs, st1, hop, rfl, rfl⟩))⟩⟩
              | some b =>
                obtain ⟨g1, g2, cs, g3, g4⟩ := free_spec hop hq
                exact ⟨rfl, Nat.le_refl _, [], some b, rfl, .inl ⟨rfl, rfl, rfl, .inr (.inr (.inr ⟨b, rfl, hact, hw, g1, g2, rfl, rfl, cs, g3, g4⟩))⟩⟩
            · simp at h
          · simp at h
        · simp at h
      · split at h
        · rename_i hl
          split at h
          · rename_i v1 st1 hop
            split at h
            · rename_i hle
              simp only [Option.some.injEq, Prod.mk.injEq] at h
              obtain ⟨rfl, rfl⟩ := h
              exact ⟨rfl, Nat.le_of_ble_eq_true hle, [], none, rfl, .inr ⟨rfl, hs, hw, rfl, hl, rfl, rfl, hop⟩⟩
            · simp at h
          · simp at h
        · simp at h
  · rename_i hw
    simp only [Option.some.injEq, Prod.mk.injEq] at h
    obtain ⟨rfl, rfl⟩ := h
    exact ⟨rfl, Nat.le_refl _, [], none, rfl, .inl ⟨rfl, rfl, rfl, .inl ⟨rfl, hw, rfl, rfl, rfl⟩⟩⟩

theorem draw_ok (hcall : CallOK P call) (hm : P.follows .mixedOrders = true) {nt : Nat} (hn : nt < 4095) (hok : okOps nt ops = true) {ms : List Nat} (hplan : plan ops ops.toList 0 [] = some ms)
    {t : Tr} {st : St} {r : DS} (hrun : aDraw P call wr ro ops (ops.toList.zip ms) 0 ⟨t, st.next, [], st.mem, none, []⟩ = some r)
    {B : Nat} {U : Nat → Prop} {ρ : Nat → Pl} {a : Act} {w : World} (ht : TR U ρ nt t a) (hr : HR B ro U ρ st.next st.mem w) {id : Nat} {Q : Exit → Act → World → Prop}
    (hQ : ∀ a' w', CPost B ro nt U ρ st.next w a.defers r.t r.out a' w' → Q .normal a' w') : (Code.region id ops true).wp P Q a w := by
  obtain ⟨hd, hx⟩ := okOps_spec hok
  obtain ⟨hml, _, hms⟩ := plan_spec hplan rfl
  simp only [Nat.zero_add, Array.length_toList] at hml hms
  obtain ⟨S, V, hS0, hSn, hstep⟩ := aDraw_run _ _ _ _ hrun
  simp only [Nat.zero_add] at hSn hstep
  rw [List.length_zip, Array.length_toList, hml, Nat.min_self] at hSn
  -- one step at a time
  have hst : ∀ (i : Nat) o, ops[i]? = some o → ∃ m, ms[i]? = some m ∧ dstep P call wr ro ops o m i (S i) = some (V i, S (i + 1)) := by
    intro i o ho
    obtain ⟨m, h1, _⟩ := hms i o (by simpa using ho)
    refine ⟨m, h1, hstep i o m ?_⟩
    rw [List.getElem?_zip_eq_some]
    exact ⟨by simpa using ho, h1⟩
  have hget : ∀ i, i < ops.size → ∃ o, ops[i]? = some o := fun i hi => ⟨ops[i], Array.getElem?_eq_getElem hi⟩
  have hnsl : ∀ i, i ≤ ops.size → (S i).ns.length = i := by
    intro i
    induction i with
    | zero => intro _; rw [hS0]; rfl
    | succ i ih =>
      intro hi
      obtain ⟨o, ho⟩ := hget i (by omega)
      obtain ⟨m, _, h2⟩ := hst i o ho
      obtain ⟨_, _, N, q, hq, h3⟩ := dstep_shape h2
      rcases h3 with ⟨_, _, h3, _⟩ | ⟨_, _, _, _, _, _, h3, _⟩
      · rw [h3]; simp [ih (by omega)]
      · rw [h3]; simp [blank_length, ih (by omega)]
  let T : Tab := { ops := ops, nt := nt, t0 := t, E := fun i => decide (i < ops.size) && (S (i + 1)).last == some i, F := fun i => ((S (i + 1)).rd[i]?).getD none, la := fun i => (S (min i ops.size)).last, MB := fun c => (match c with | none => st.mem | some k => (S (k + 1)).base), V := V, N := fun i => ((S (i + 1)).ns[i]?).getD [], nx := fun i => (S (min i ops.size)).next, D := fun i => (ms[i]?).getD 0 }
  have hnx : ∀ i, i ≤ ops.size → T.nx i = (S i).next := fun i hi => by show (S (min i ops.size)).next = _; rw [Nat.min_eq_left hi]
  have htm : ∀ i, i ≤ ops.size → T.tm (fun _ => true) i = (S i).t := by
    intro i
    induction i with
    | zero => intro _; rw [hS0]; rfl
    | succ i ih =>
      intro hi
      obtain ⟨o, ho⟩ := hget i (by omega)
      obtain ⟨m, _, h2⟩ := hst i o ho
      obtain ⟨h3, _⟩ := dstep_shape h2
      rw [Tab.tm, ih (by omega), show T.ops[i]? = some o from ho]
      exact h3.symm
  have hrdl : ∀ i, i ≤ ops.size → (S i).rd.length = i := by
    intro i
    induction i with
    | zero => intro _; rw [hS0]; rfl
    | succ i ih =>
      intro hi
      obtain ⟨o, ho⟩ := hget i (by omega)
      obtain ⟨m, _, h2⟩ := hst i o ho
      obtain ⟨_, _, N, q, hq, h3⟩ := dstep_shape h2
      rw [hq]; simp [ih (by omega)]
  have hFq : ∀ i, i < ops.size → ∀ q, (S (i + 1)).rd = (S i).rd ++ [q] → T.F i = q := by
    intro i hi q hq
    show ((S (i + 1)).rd[i]?).getD none = q
    rw [hq, List.getElem?_append_right (by rw [hrdl i (by omega)]; omega)]; simp [hrdl i (by omega)]
  have hrd : ∀ i, i ≤ ops.size → ∀ j, j < i → (S i).rd[j]? = some (T.F j) := by
    intro i
    induction i with
    | zero => intro _ j hj; omega
    | succ i ih =>
      intro hi j hj
      obtain ⟨o, ho⟩ := hget i (by omega)
      obtain ⟨m, _, h2⟩ := hst i o ho
      obtain ⟨_, _, N, q, hq, h3⟩ := dstep_shape h2
      by_cases h : j = i
      · subst h
        rw [hFq j (by omega) q hq, hq, List.getElem?_append_right (by rw [hrdl j (by omega)]; omega)]; simp [hrdl j (by omega)]
      · rw [hq, List.getElem?_append_left (by rw [hrdl i (by omega)]; omega)]
        exact ih (by omega) j (by omega)
  -- what acted last
  have hlt : ∀ i, i ≤ ops.size → ∀ k, (S i).last = some k → k < i := by
    intro i
    induction i with
    | zero => intro _ k hk; rw [hS0] at hk; simp at hk
    | succ i ih =>
      intro hi k hk
      obtain ⟨o, ho⟩ := hget i (by omega)
      obtain ⟨m, _, h2⟩ := hst i o ho
      obtain ⟨_, _, N, q, hq, h3⟩ := dstep_shape h2
      rcases h3 with ⟨h3, _⟩ | ⟨_, _, _, _, _, h3, _⟩
      · rw [h3] at hk; have := ih (by omega) k hk; omega
      · rw [h3] at hk; simp only [Option.some.injEq] at hk; omega
  have hEq : ∀ i, i < ops.size → (S (i + 1)).last = (S i).last → T.E i = false := by
    intro i hi h
    show (decide (i < ops.size) && (S (i + 1)).last == some i) = false
    cases hl : (S (i + 1)).last with
    | none => simp
    | some k =>
      rw [h] at hl
      have := hlt i (by omega) k hl
      simp; omega
  have hEt : ∀ i, i < ops.size → (S (i + 1)).last = some i → T.E i = true := by
    intro i hi h
    show (decide (i < ops.size) && (S (i + 1)).last == some i) = true
    rw [h]; simp [hi]
  have hEl : ∀ i, T.E i = true → i < ops.size ∧ (S (i + 1)).last = some i := by
    intro i h
    have h : (decide (i < ops.size) && (S (i + 1)).last == some i) = true := h
    simp only [Bool.and_eq_true, decide_eq_true_eq, beq_iff_eq] at h
    exact h
  have hlaE : ∀ i, i ≤ ops.size → ∀ k, (S i).last = some k → T.E k = true := by
    intro i
    induction i with
    | zero => intro _ k hk; rw [hS0] at hk; simp at hk
    | succ i ih =>
      intro hi k hk
      obtain ⟨o, ho⟩ := hget i (by omega)
      obtain ⟨m, _, h2⟩ := hst i o ho
      obtain ⟨_, _, N, q, hq, h3⟩ := dstep_shape h2
      rcases h3 with ⟨h3, _⟩ | ⟨_, _, _, _, _, h3, _⟩
      · rw [h3] at hk; exact ih (by omega) k hk
      · have h4 := h3
        rw [h3] at hk; simp only [Option.some.injEq] at hk; subst hk; exact hEt _ (by omega) h4
  have hgreat : ∀ i, i ≤ ops.size → ∀ k, k < i → T.E k = true → ∃ k', (S i).last = some k' ∧ k ≤ k' := by
    intro i
    induction i with
    | zero => intro _ k hk; omega
    | succ i ih =>
      intro hi k hk hE
      obtain ⟨o, ho⟩ := hget i (by omega)
      obtain ⟨m, _, h2⟩ := hst i o ho
      obtain ⟨_, _, N, q, hq, h3⟩ := dstep_shape h2
      rcases h3 with ⟨h3, _⟩ | ⟨_, _, _, _, _, h3, _⟩
      · have hne : k ≠ i := fun q => by rw [q, hEq i (by omega) h3] at hE; simp at hE
        rw [h3]; exact ih (by omega) k (by omega) hE
      · exact ⟨i, h3, by omega⟩
  have hbase : ∀ i, i ≤ ops.size → (S i).base = T.MB (S i).last := by
    intro i
    induction i with
    | zero => intro _; rw [hS0]
    | succ i ih =>
      intro hi
      obtain ⟨o, ho⟩ := hget i (by omega)
      obtain ⟨m, _, h2⟩ := hst i o ho
      obtain ⟨_, _, N, q, hq, h3⟩ := dstep_shape h2
      rcases h3 with ⟨h3, h4, _⟩ | ⟨_, _, _, _, _, h3, _⟩
      · rw [h3, h4]; exact ih (by omega)
      · rw [h3]
  have hla : ∀ i, i ≤ ops.size → T.la i = (S i).last := fun i hi => by show (S (min i ops.size)).last = _; rw [Nat.min_eq_left hi]
  have hNi : ∀ i, i < ops.size → ∀ ns N, (S (i + 1)).ns = ns ++ [N] → ns.length = i → T.N i = N := by
    intro i hi ns N h3 hl
    show ((S (i + 1)).ns[i]?).getD [] = N
    rw [h3, List.getElem?_append_right (by omega)]; simp [hl]
  have hns : ∀ i, i ≤ ops.size → ∀ j r b cs, (S i).ns[j]? = some r → look r b = some cs → j < i ∧ r = T.N j ∧ T.la j = (S i).last := by
    intro i
    induction i with
    | zero => intro _ j r b cs hj; rw [hS0] at hj; simp at hj
    | succ i ih =>
      intro hi j r b cs hj hb
      obtain ⟨o, ho⟩ := hget i (by omega)
      obtain ⟨m, _, h2⟩ := hst i o ho
      obtain ⟨_, _, N, q, hq, h3⟩ := dstep_shape h2
      have hl := hnsl i (by omega)
      have hji : j < i + 1 := by have := (List.getElem?_eq_some_iff.1 hj).1; rw [hnsl (i + 1) hi] at this; exact this
      rcases h3 with ⟨h3, _, h4, _⟩ | ⟨_, _, _, h5, _, _, h4, _⟩
      · by_cases h : j = i
        · subst h
          have := hNi j (by omega) _ _ h4 hl
          rw [h4, List.getElem?_append_right (by omega)] at hj
          simp only [hl, Nat.sub_self, List.getElem?_cons_zero, Option.some.injEq] at hj
          exact ⟨hji, by rw [this, hj], by rw [h3]; exact hla j (by omega)⟩
        · rw [h4, List.getElem?_append_left (by omega)] at hj
          obtain ⟨g1, g2, g3⟩ := ih (by omega) j r b cs hj hb
          exact ⟨hji, g2, by rw [h3]; exact g3⟩
      · exfalso
        by_cases h : j = i
        · subst h
          rw [h4, List.getElem?_append_right (by rw [blank_length]; omega)] at hj
          simp only [blank_length, hl, Nat.sub_self, List.getElem?_cons_zero, Option.some.injEq] at hj
          rw [← hj, h5] at hb; simp [look] at hb
        · rw [h4, List.getElem?_append_left (by rw [blank_length]; omega), blank_get] at hj
          obtain ⟨q, _, hq⟩ := Option.map_eq_some_iff.1 hj
          rw [← hq] at hb; simp [look] at hb
  have hD : ∀ (i : Nat) m, ms[i]? = some m → T.D i = m := fun i m h => by show (ms[i]?).getD 0 = m; rw [h]; rfl
  have hDn : ∀ (i : Nat) j, (T.D i).testBit j = true → ∃ o m, ops[i]? = some o ∧ ms[i]? = some m ∧ T.D i = m := by
    intro i j h
    cases hmi : ms[i]? with
    | none => have : T.D i = 0 := by show (ms[i]?).getD 0 = 0; rw [hmi]; rfl
              rw [this] at h; simp at h
    | some m =>
      have := (List.getElem?_eq_some_iff.1 hmi).1
      obtain ⟨o, ho⟩ := hget i (by omega)
      exact ⟨o, m, ho, rfl, hD i m hmi⟩
  have hmask : ∀ (i : Nat) o m, ops[i]? = some o → ms[i]? = some m →
      (∀ e ∈ o.after, Region.binds .any e = true → e.on < i ∧ ∀ k, (T.D e.on).testBit k = true → m.testBit k = true) ∧
      (∀ j, m.testBit j = true → ∃ e ∈ o.after, Region.binds .any e = true ∧ (j = e.on ∨ (T.D e.on).testBit j = true)) ∧
      (∀ j q, j < i → ops[j]? = some q → m.testBit j = true ∨ q.apart ops o = true) := by
    intro i o m ho hmi
    obtain ⟨m', h1, h2, h3⟩ := hms i o (by simpa using ho)
    rw [hmi] at h1
    simp only [Option.some.injEq] at h1
    subst h1
    obtain ⟨g1, g2⟩ := maskOf_spec h2
    have take : ∀ (k : Nat) r, (ms.take i)[k]? = some r → T.D k = r := fun k r h => hD k r (by
      rw [List.getElem?_take] at h
      split at h
      · exact h
      · simp at h)
    refine ⟨fun e he hb => ?_, fun j hj => ?_, fun j q hj hq => ?_⟩
    · obtain ⟨a1, r', a2, a3⟩ := g1 e (by simpa using he) hb
      exact ⟨a1, fun k hk => a3 k (by rw [← take _ _ a2]; exact hk)⟩
    · obtain ⟨e, a1, a2, a3⟩ := g2 j hj
      refine ⟨e, by simpa using a1, a2, ?_⟩
      rcases a3 with a3 | ⟨r', a3, a4⟩
      · exact .inl a3
      · exact .inr (by rw [take _ _ a3]; exact a4)
    · have := apartAll_spec h3 j hj q (by simpa using hq)
      rwa [Nat.zero_add] at this
  have hless : ∀ i j, (T.D i).testBit j = true → j < i := by
    intro i
    induction i using Nat.strongRecOn with
    | _ i ih =>
      intro j hj
      obtain ⟨o, m, ho, hmi, he⟩ := hDn i j hj
      rw [he] at hj
      obtain ⟨g1, g2, _⟩ := hmask i o m ho hmi
      obtain ⟨e, a1, a2, a3⟩ := g2 j hj
      have := (g1 e a1 a2).1
      rcases a3 with rfl | a3
      · exact this
      · have := ih e.on this j a3; omega
  have hp : Plan T := by
    refine ⟨hd, hx, hn, fun i o ho e he hb => ?_, fun i o ho j hj => ?_, fun j i oj oi hji hoj hoi => ?_, fun i => ?_, fun i => ?_, hless⟩
    · obtain ⟨m, hmi, _⟩ := hst i o ho
      exact ((hmask i o m ho hmi).1 e he hb).1
    · obtain ⟨m, hmi, _⟩ := hst i o ho
      rw [hD i m hmi] at hj
      exact (hmask i o m ho hmi).2.1 j hj
    · obtain ⟨m, hmi, _⟩ := hst i oi hoi
      rw [hD i m hmi]
      exact (hmask i oi m hoi hmi).2.2 j oj hji hoj
    · by_cases hi : i < ops.size
      · rw [hnx i (by omega), hnx (i + 1) (by omega)]
        obtain ⟨o, ho⟩ := hget i hi
        obtain ⟨m, _, h2⟩ := hst i o ho
        exact (dstep_shape h2).2.1
      · show (S (min i ops.size)).next ≤ (S (min (i + 1) ops.size)).next
        rw [show min i ops.size = min (i + 1) ops.size by omega]
        exact Nat.le_refl _
    · induction i using Nat.strongRecOn with
      | _ i ih =>
        intro j k hj hk
        obtain ⟨o, m, ho, hmi, he⟩ := hDn i j hj
        rw [he] at hj ⊢
        obtain ⟨g1, g2, _⟩ := hmask i o m ho hmi
        obtain ⟨e, a1, a2, a3⟩ := g2 j hj
        rcases a3 with rfl | a3
        · exact (g1 e a1 a2).2 k hk
        · exact (g1 e a1 a2).2 k (ih e.on (g1 e a1 a2).1 j k a3 hk)
  -- the ones that act come one behind the other
  have hloud : ∀ i o m, ops[i]? = some o → ms[i]? = some m → T.E i = true → T.F i = none ∧ still o.op = false ∧ (∀ b, writeOf (evl (S i).t) o = some b → ∃ cs, (S (i + 1)).base = put (memAll (S i).base (S i).ns) b cs) ∧ louds m (writeOf (evl (S i).t) o) (S i).ns 0 i ops.toList (S i).rd = true := by
    intro i o m ho hmi hE
    obtain ⟨hi, hE2⟩ := hEl i hE
    obtain ⟨m', hmi', h2⟩ := hst i o ho
    rw [hmi] at hmi'; simp only [Option.some.injEq] at hmi'; subst hmi'
    obtain ⟨_, _, N, q, hq, h3⟩ := dstep_shape h2
    rcases h3 with ⟨h3, _⟩ | ⟨h6, h4, _, _, h5, _, _, h7⟩
    · rw [hEq i hi h3] at hE; simp at hE
    · exact ⟨by rw [hFq i hi q hq, h6], h4, fun b hb => write_spec h7 hb, h5⟩
  -- an operation that acts comes behind all earlier ones that are loud
  have hbehind : ∀ k, T.E k = true → ∀ j oj, j < k → ops[j]? = some oj → (T.D k).testBit j = true ∨ still oj.op = true ∨ ∃ b, T.F j = some b ∧ ((S (k + 1)).base = (S (k + 1)).base → look (S (k + 1)).base b = look (S k).base b) := by
    intro k hE j oj hj hoj
    obtain ⟨hk, _⟩ := hEl k hE
    obtain ⟨o, ho⟩ := hget k hk
    obtain ⟨m, hm, _⟩ := hst k o ho
    obtain ⟨_, _, h5, h6⟩ := hloud k o m ho hm hE
    rcases louds_spec h6 j hj oj (by simpa using hoj) with h7 | h7 | ⟨b, bk, h7, h8, h9, h10⟩
    · rw [Nat.zero_add] at h7; exact .inl (by rw [hD k m hm]; exact h7)
    · exact .inr (.inl h7)
    · refine .inr (.inr ⟨b, ?_, fun _ => ?_⟩)
      · rw [hrd k (by omega) j hj] at h7; simpa using h7
      · obtain ⟨cs, h11⟩ := h5 bk h8
        rw [h11, look_put, if_neg h9, memAll_absent h10]
  have hall : ∀ i, i < ops.size → ∀ k0, (S i).last = some k0 → (T.D i).testBit k0 = true → ∀ k, k < i → T.E k = true → (T.D i).testBit k = true := by
    intro i hi k0 hk0 hb k hk hE
    obtain ⟨k', h1, h2⟩ := hgreat i (by omega) k hk hE
    rw [hk0] at h1; simp only [Option.some.injEq] at h1; subst h1
    rcases Nat.lt_or_ge k k0 with h3 | h3
    · obtain ⟨o0, ho0⟩ := hget k0 (hEl k0 (hlaE i (by omega) k0 hk0)).1
      obtain ⟨m0, hm0, _⟩ := hst k0 o0 ho0
      obtain ⟨ok, hok⟩ := hget k (hEl k hE).1
      obtain ⟨mk, hmk, _⟩ := hst k ok hok
      rcases hbehind k0 (hlaE i (by omega) k0 hk0) k ok h3 hok with h6 | h6 | ⟨b, h6, _⟩
      · exact hp.trans i k0 k hb h6
      · rw [(hloud k ok mk hok hmk hE).2.1] at h6; simp at h6
      · rw [(hloud k ok mk hok hmk hE).1] at h6; simp at h6
    · rw [Nat.le_antisymm h2 h3]; exact hb
  have hacts : ∀ k k', k < k' → T.E k = true → T.E k' = true → (T.D k').testBit k = true := by
    intro k k' hk hE hE'
    obtain ⟨ok, hok⟩ := hget k (hEl k hE).1
    obtain ⟨mk, hmk, _⟩ := hst k ok hok
    rcases hbehind k' hE' k ok hk hok with h6 | h6 | ⟨b, h6, _⟩
    · exact h6
    · rw [(hloud k ok mk hok hmk hE).2.1] at h6; simp at h6
    · rw [(hloud k ok mk hok hmk hE).1] at h6; simp at h6
  have hfree : ∀ (i : Nat) o b, ops[i]? = some o → T.F i = some b → Free T P call i o b ∧ IsLoad o ∧ T.E i = false := by
    intro i o b ho hf
    have hil := (Array.getElem?_eq_some_iff.1 ho).1
    have hil : i < ops.size := hil
    obtain ⟨m, hmi, h2⟩ := hst i o ho
    obtain ⟨_, _, N, q, hq, h4⟩ := dstep_shape h2
    rw [hFq i hil q hq] at hf
    unfold Free
    rw [htm i (by omega), hnx i (by omega), hnx (i + 1) (by omega)]
    rcases h4 with ⟨hl, _, h3, h4⟩ | ⟨h6, _⟩
    · have hE : T.E i = false := hEq i hil hl
      have hN := hNi i hil _ N h3 (hnsl i (by omega))
      rw [hN]
      rcases h4 with ⟨q0, _⟩ | ⟨q0, _⟩ | ⟨q0, _⟩ | ⟨b', q0, q1, q2, q3, q4, q5, q6, cs, q7, q8⟩
      · rw [hf] at q0; simp at q0
      · rw [hf] at q0; simp at q0
      · rw [hf] at q0; simp at q0
      · rw [hf] at q0
        simp only [Option.some.injEq] at q0
        subst q0
        have hnotstill : still o.op = false := by obtain ⟨t1, a1, h9⟩ := q3; rw [h9]; rfl
        have hall1 : ∀ k, k < i → T.E k = true → (T.D i).testBit k = true := by
          intro k hk hEk
          obtain ⟨k0, h7, _⟩ := hgreat i (by omega) k hk hEk
          rw [h7] at q1
          exact hall i hil k0 h7 (by rw [hD i m hmi]; exact q1) k hk hEk
        have hlook : look (T.MB (T.la i)) b = some cs := by rw [hla i (by omega), ← hbase i (by omega)]; exact q7
        refine ⟨⟨q2, q5, q6, q4, hall1, cs, q8, hlook, fun k => ?_⟩, q3, hE⟩
        induction k using Nat.strongRecOn with
        | _ k ih =>
          intro hk hEk
          have hks := (hEl k hEk).1
          rcases hbehind k hEk i o hk ho with h6 | h6 | ⟨b2, h6, h7⟩
          · exact .inl h6
          · rw [hnotstill] at h6; simp at h6
          · have hfi : T.F i = some b := by rw [hFq i hil q hq]; exact hf
            rw [hfi] at h6
            simp only [Option.some.injEq] at h6
            subst h6
            have h8 : look (T.MB (some k)) b = look (T.MB (S k).last) b := by
              rw [← hbase k (by omega)]; exact h7 rfl
            cases hl : (S k).last with
            | none =>
              refine .inr ?_
              rw [h8, hl]
              cases hl2 : (S i).last with
              | none => rw [hla i (by omega), hl2] at hlook; exact hlook
              | some k3 =>
                have e1 := hlaE i (by omega) k3 hl2
                have e2 := hlt i (by omega) k3 hl2
                obtain ⟨k4, e3, _⟩ := hgreat k (by omega) k3 (by omega) e1
                rw [hl] at e3; simp at e3
            | some k2 =>
              have e1 := hlaE k (by omega) k2 hl
              have e2 := hlt k (by omega) k2 hl
              rcases Nat.lt_trichotomy k2 i with h9 | h9 | h9
              · refine .inr ?_
                rw [h8, hl]
                obtain ⟨k3, e3, e4⟩ := hgreat i (by omega) k2 h9 e1
                have e5 := hlaE i (by omega) k3 e3
                have e6 := hlt i (by omega) k3 e3
                obtain ⟨k4, e7, e8⟩ := hgreat k (by omega) k3 (by omega) e5
                rw [hl] at e7
                simp only [Option.some.injEq] at e7
                subst e7
                rw [hla i (by omega), e3, ← Nat.le_antisymm e4 e8] at hlook
                exact hlook
              · rw [h9, hE] at e1; simp at e1
              · rcases ih k2 e2 h9 e1 with h10 | h10
                · exact .inl (hp.trans k k2 i (hacts k2 k e2 e1 hEk) h10)
                · exact .inr (by rw [h8, hl]; exact h10)
    · rw [hf] at h6; simp at h6
  have hquiet : ∀ (i : Nat) o, ops[i]? = some o → T.E i = false → T.F i = none → Quiet T P call i o := by
    intro i o ho hE hf
    have hil := (Array.getElem?_eq_some_iff.1 ho).1
    obtain ⟨m, hmi, h2⟩ := hst i o ho
    obtain ⟨_, _, N, q, hq, h4⟩ := dstep_shape h2
    unfold Quiet
    rw [htm i (by omega), hnx i (by omega), hnx (i + 1) (by omega)]
    have hil : i < ops.size := hil
    rw [hFq i hil q hq] at hf
    rcases h4 with ⟨_, _, h3, h4⟩ | ⟨_, _, _, _, _, h6, _⟩
    · have hN := hNi i hil _ N h3 (hnsl i (by omega))
      rw [hN]
      rcases h4 with ⟨_, q1, q2, q3, q4⟩ | ⟨_, q1, q2, q3, q4, q5⟩ | ⟨_, q0, q1, q2, st', q3, q4, q5⟩ | ⟨b, q0, _⟩
      · exact .inl ⟨q1, q2, q3, q4⟩
      · exact .inr ⟨q1, [], ⟨(S i).next, []⟩, q3, q5.symm, by simp [look], by rw [q4]; simp [look], .inl ⟨rfl, q4⟩⟩
      · refine .inr ⟨q1, _, st', q3, q5.symm, fun b cs hb => ?_, fun b cs hb => ?_, .inr ⟨q2, fun k hk hEk => ?_⟩⟩
        · rcases memOf_look hb with h | ⟨j, r', a1, a2, a3⟩
          · rw [hla i (by omega), ← hbase i (by omega)]; exact .inl h
          · obtain ⟨g1, g2, g3⟩ := hns i (by omega) j r' b cs a2 a3
            exact .inr ⟨j, by rw [hD i m hmi]; rwa [Nat.zero_add] at a1, by rw [g3, hla i (by omega)], by rw [← g2]; exact a3⟩
        · rw [q4] at hb; exact look_from hb
        · obtain ⟨k0, h7, _⟩ := hgreat i (by omega) k hk hEk
          rw [h7] at q0
          exact hall i hil k0 h7 (by rw [hD i m hmi]; exact q0) k hk hEk
      · rw [hf] at q0; simp at q0
    · rw [hEt i hil h6] at hE; simp at hE
  have hF : Facts T P call ro := by
    refine ⟨hquiet, fun i o b ho hf => (hfree i o b ho hf).1, fun i o b ho hf => (hfree i o b ho hf).2.1, fun i b hf => ?_, fun i o ho hE => ?_, fun i o ho hs => ?_, fun i k hk => ?_, fun i k hk hi hE => ?_, fun k hE => (hEl k hE).1⟩
    · by_cases hi : i < ops.size
      · obtain ⟨o, ho⟩ := hget i hi
        exact (hfree i o b ho hf).2.2
      · show (decide (i < ops.size) && (S (i + 1)).last == some i) = false
        rw [decide_eq_false hi]; rfl
    · have hil := (Array.getElem?_eq_some_iff.1 ho).1
      have hil : i < ops.size := hil
      obtain ⟨m, hmi, h2⟩ := hst i o ho
      obtain ⟨_, _, N, q, hq, h4⟩ := dstep_shape h2
      unfold Acts
      rw [htm i (by omega), hnx i (by omega), hnx (i + 1) (by omega)]
      rcases h4 with ⟨h3, _⟩ | ⟨_, q0, q1, q2, q3, q4, q5, q6⟩
      · rw [hEq i hil h3] at hE; simp at hE
      · have hN := hNi i hil _ N q5 (by rw [blank_length]; exact hnsl i (by omega))
        rw [hN]
        refine ⟨q1, q2, q0, _, q6, fun b cs hb => ?_, fun j oj hj hoj => ?_⟩
        · rcases memAll_look hb with h | ⟨j, r', a2, a3⟩
          · rw [hla i (by omega), ← hbase i (by omega)]; exact .inl h
          · obtain ⟨g1, g2, g3⟩ := hns i (by omega) j r' b cs a2 a3
            exact .inr ⟨j, g1, by rw [g3, hla i (by omega)], by rw [← g2]; exact a3⟩
        · rcases hbehind i hE j oj hj hoj with h6 | h6 | ⟨b, h6, _⟩
          · exact .inl h6
          · exact .inr (.inl h6)
          · exact .inr (.inr ⟨b, h6⟩)
    · have hil := (Array.getElem?_eq_some_iff.1 ho).1
      have hil : i < ops.size := hil
      obtain ⟨m, hmi, h2⟩ := hst i o ho
      obtain ⟨_, _, N, q, hq, h4⟩ := dstep_shape h2
      rcases h4 with ⟨_, _, h3, h4⟩ | ⟨_, q0, _⟩
      · rw [hNi i hil _ N h3 (hnsl i (by omega))]
        rcases h4 with ⟨_, _, _, h4, _⟩ | ⟨_, _, _, _, h4, _⟩ | ⟨_, _, _, h4, _⟩ | ⟨_, _, _, _, _, _, h4, _⟩
        · exact h4
        · exact h4
        · rw [hs] at h4; simp at h4
        · exact h4
      · rw [hs] at q0; simp at q0
    · have hk : (S (min i ops.size)).last = some k := hk
      have := hlt _ (Nat.min_le_right _ _) k hk
      exact ⟨by omega, hlaE _ (Nat.min_le_right _ _) k hk⟩
    · rw [hla i hi]; exact hgreat i hi k hk hE
  have hstart : ∀ x, x < T.nt → VR (T.UW U (T.wr (fun _ => false) x T.ops.size)) ρ (getT 12 (T.tm (fun _ => false) T.ops.size) x) (a.tmps.getD x undef) := by
    have e1 : ∀ k, T.tm (fun _ => false) k = t := by
      intro k
      induction k with
      | zero => rfl
      | succ k ih => rw [Tab.tm]; exact ih
    have e2 : ∀ x k, T.wr (fun _ => false) x k = none := by
      intro x k
      induction k with
      | zero => rfl
      | succ k ih => rw [Tab.wr]; exact ih
    intro x hx'
    rw [e1, e2]
    exact ht.get x hx'
  have hfalse : (fun j => (Array.replicate ops.size false).getD j false) = fun _ => false := by
    funext j
    by_cases hj : j < ops.size <;> simp [hj]
  have hltU : ∀ b, U b → b < T.nx 0 := fun b hb => by rw [hnx 0 (by omega), hS0]; exact hr.lt b hb
  have hdr : HR B ro U ρ st.next st.mem w.drew := ⟨hr.lt, hr.blk, hr.own, hr.inj, hr.base⟩
  refine wp_region_any hm ?_
  refine draw_any (T := T) (U0 := U) (B := B) (ρ0 := ρ) (w0 := w) (ds := a.defers) hcall hp hF (fun ρ' a' w' h => ?_) ops.size (Array.replicate ops.size false) ρ a w.drew (by simp [T]) ?_ ?_ ?_
  · have hfar : ∀ b, U b → ρ' b = ρ b := h.old
    have hnext : r.out.next = (S ops.size).next := by rw [hSn]; rfl
    refine hQ a' w' ⟨fun b => U b ∨ ∃ j, j < ops.size ∧ T.nx j ≤ b ∧ b < T.nx (j + 1), ρ', ⟨?_, fun b hb => ⟨.inl hb, hfar b hb⟩, fun b hb => ?_⟩, ?_, ?_, h.below, h.dfr⟩
    · rw [hnext, ← hnx ops.size (Nat.le_refl _)]
      have := hp.nx_le (Nat.zero_le ops.size)
      rw [hnx 0 (by omega), hS0] at this
      exact this
    · rcases hb with hb | ⟨j, hj, h1, h2⟩
      · exact .inl hb
      · refine .inr ⟨?_, ?_⟩
        · have := hp.nx_le (Nat.zero_le j); rw [hnx 0 (by omega), hS0] at this; have this : st.next ≤ T.nx j := this; omega
        · rw [hnext, ← hnx ops.size (Nat.le_refl _)]; have := hp.nx_le (show j + 1 ≤ ops.size by omega); omega
    · have hrt : r.t = T.tm (fun j => decide (j < T.ops.size)) T.ops.size := by
        have : ∀ k, k ≤ ops.size → T.tm (fun j => decide (j < T.ops.size)) k = T.tm (fun _ => true) k := by
          intro k
          induction k with
          | zero => intro _; rfl
          | succ k ih =>
            intro hk
            rw [Tab.tm, Tab.tm, ih (by omega)]
            rw [show decide (k < T.ops.size) = true from decide_eq_true (show k < ops.size by omega)]
        rw [show T.ops.size = ops.size from rfl] at *
        rw [this ops.size (Nat.le_refl _), htm ops.size (Nat.le_refl _), hSn]
      rw [hrt]
      refine ⟨h.size, fun x hx' => (h.val x hx').up fun b hb => ⟨?_, rfl⟩⟩
      have : ∀ k, k ≤ ops.size → T.UW U (T.wr (fun j => decide (j < T.ops.size)) x k) b → (U b ∨ ∃ j, j < ops.size ∧ T.nx j ≤ b ∧ b < T.nx (j + 1)) := by
        intro k
        induction k with
        | zero => intro _ h; exact .inl h
        | succ k ih =>
          intro hk h
          rw [Tab.wr] at h
          split at h
          · split at h
            · rcases h with h | ⟨j, h1, h2⟩
              · exact .inl h
              · refine .inr ⟨j, ?_, h2⟩
                rcases h1 with h1 | h1
                · have := hless k j h1; omega
                · omega
            · exact ih (by omega) h
          · exact ih (by omega) h
      exact this ops.size (Nat.le_refl _) hb
    · have hcur : Cur T (fun j => decide (j < T.ops.size)) (S ops.size).last := by
        refine ⟨fun k hk => ?_, fun k hE _ => hgreat ops.size (Nat.le_refl _) k (hEl k hE).1 hE⟩
        have := hlaE _ (Nat.le_refl _) k hk
        exact ⟨this, decide_eq_true (hEl k this).1⟩
      have hU1 : ∀ j, j < ops.size → ∀ b, T.UD U j b → (U b ∨ ∃ j, j < ops.size ∧ T.nx j ≤ b ∧ b < T.nx (j + 1)) := by
        intro j hj b hb
        rcases hb with hb | ⟨q, hq, h2⟩
        · exact .inl hb
        · refine .inr ⟨q, ?_, h2⟩
          rcases hq with hq | rfl
          · have := hless j q hq; omega
          · exact hj
      have hU2 : ∀ b, T.UW U (S ops.size).last b → (U b ∨ ∃ j, j < ops.size ∧ T.nx j ≤ b ∧ b < T.nx (j + 1)) := by
        intro b hb
        cases hl : (S ops.size).last with
        | none => rw [hl] at hb; exact .inl hb
        | some k => rw [hl] at hb; exact hU1 k (hEl k (hlaE _ (Nat.le_refl _) k hl)).1 b hb
      have hout : r.out.mem = memAll (S ops.size).base (S ops.size).ns := by rw [hSn]; rfl
      have split1 : ∀ b cs, look r.out.mem b = some cs → look (T.MB (S ops.size).last) b = some cs ∨ ∃ j, (fun j => decide (j < T.ops.size)) j = true ∧ T.la j = (S ops.size).last ∧ look (T.N j) b = some cs := by
        intro b cs hb
        rw [hout] at hb
        rcases memAll_look hb with h1 | ⟨j, r', h1, h2⟩
        · rw [hbase _ (Nat.le_refl _)] at h1; exact .inl h1
        · obtain ⟨g1, g2, g3⟩ := hns _ (Nat.le_refl _) j r' b cs h1 h2
          exact .inr ⟨j, decide_eq_true g1, g3, by rw [← g2]; exact h2⟩
      rw [hnext]
      refine ⟨fun b hb => ?_, fun b cs hb => ?_, fun b cs hb hro => ?_, fun b b' cs cs' hb hb' he => h.inj _ hcur b b' cs cs' (split1 _ _ hb) (split1 _ _ hb') he, h.base⟩
      · rw [← hnx ops.size (Nat.le_refl _)]
        rcases hb with hb | ⟨j, hj, h1, h2⟩
        · have := hltU b hb; have := hp.nx_le (Nat.zero_le ops.size); omega
        · have := hp.nx_le (show j + 1 ≤ ops.size by omega); omega
      · rcases split1 b cs hb with h1 | ⟨j, hj, hjc, h1⟩
        · exact BlkAt.up (U' := fun b => U b ∨ ∃ j, j < ops.size ∧ T.nx j ≤ b ∧ b < T.nx (j + 1)) (h.mem0 _ hcur b cs h1).1 (fun b hb => ⟨hU2 b hb, rfl⟩) fun _ _ => rfl
        · exact BlkAt.up (U' := fun b => U b ∨ ∃ j, j < ops.size ∧ T.nx j ≤ b ∧ b < T.nx (j + 1)) (h.memN _ hcur j hj hjc b cs h1).2.1 (fun b hb => ⟨hU1 j (of_decide_eq_true hj) b hb, rfl⟩) fun _ _ => rfl
      · rcases split1 b cs hb with h1 | ⟨j, hj, hjc, h1⟩
        · exact (h.mem0 _ hcur b cs h1).2 hro
        · exact (h.memN _ hcur j hj hjc b cs h1).2.2
  · simp
  · rw [hfalse]; exact ⟨fun i j h => by simp at h, fun i h => by simp at h⟩
  · rw [hfalse]
    have hcn : ∀ c, Cur T (fun _ => false) c → c = none := by
      intro c hc
      cases c with
      | none => rfl
      | some k => have := (hc.is k rfl).2; simp at this
    refine ⟨ht.size, hstart, fun c hc b cs hb => ?_, fun c hc j hj => by simp at hj, fun c hc b b' cs cs' hb hb' he => ?_, hr.base, (Below.refl B w).drew, rfl, fun _ _ => rfl, hltU⟩
    · obtain rfl := hcn c hc
      exact ⟨hdr.blk b cs hb, fun hro => hdr.own b cs hb hro⟩
    · obtain rfl := hcn c hc
      rcases hb with hb | ⟨j, hj, _⟩
      · rcases hb' with hb' | ⟨j, hj, _⟩
        · exact hdr.inj b b' cs cs' hb hb' he
        · simp at hj
      · simp at hj
end
end Go.Proofs.Yticbhgjenidjlaa.Ab
namespace Go.Proofs.Yticbhgjenidjlaa.Ab
open Go Go.RowKit
set_option linter.unusedVariables false
set_option linter.unusedSimpArgs false
section
variable {P : Program} {call : Nat → FuncId → List Value → St → Ans} {wr : FuncId → Bool} {ro nt lf : Nat}
def conc : Ex → Exit
  | .normal => .normal
  | .exit id => .exit id
  | .ret => .ret

theorem loopN_zero (f : Tr → St → Option (Ex × Tr × St)) (t : Tr) (st : St) : loopN f 0 t st = none := rfl
theorem loopN_succ (f : Tr → St → Option (Ex × Tr × St)) (n : Nat) (t : Tr) (st : St) : loopN f (n + 1) t st = match f t st with
      | some (.normal, t', st') => loopN f n t' st'
      | r => r := rfl

theorem aCode_ok (hcall : CallOK P call) (hm : P.follows .mixedOrders = true) (hn : nt < 4095) : ∀ (c : Code) (t : Tr) (st : St) (e : Ex) (t' : Tr) (st' : St), aCode P call wr nt lf ro c t st = some (e, t', st') →
    ∀ (B : Nat) (U : Nat → Prop) (ρ : Nat → Pl) (a : Act) (w : World), TR U ρ nt t a → HR B ro U ρ st.next st.mem w → c.wp P (fun x a' w' => x = conc e ∧ CPost B ro nt U ρ st.next w a.defers t' st' a' w') a w := by
  intro c
  induction c with
  | skip =>
    intro t st e t' st' he B U ρ a w ht hr
    simp only [aCode, Option.some.injEq, Prod.mk.injEq] at he
    obtain ⟨rfl, rfl, rfl⟩ := he
    exact wp_skip ⟨rfl, U, ρ, Ext.refl _ _ _, ht, hr, Below.refl _ _, rfl⟩
  | region id ops d =>
    intro t st e t' st' he B U ρ a w ht hr
    simp only [aCode] at he
    split at he
    · rename_i hok
      split at he
      · rename_i t1 st1 hrun
        simp only [Option.some.injEq, Prod.mk.injEq] at he
        obtain ⟨rfl, rfl, rfl⟩ := he
        exact wp_region_list (aOps_ok hcall hn hok ops.toList (fun o ho => by simpa using ho) t st U ρ a w ht hr hrun fun a' w' hp => ⟨rfl, hp⟩)
      · simp at he
    · rename_i hok
      split at he
      · rename_i ms hplan
        split at he
        · rename_i r hrun
          simp only [Option.some.injEq, Prod.mk.injEq] at he
          obtain ⟨rfl, rfl, rfl⟩ := he
          exact draw_ok hcall hm hn hok hplan hrun ht hr fun a' w' hp => ⟨rfl, hp⟩
        · simp at he
      · simp at he
    · simp at he
  | seq x y ihx ihy =>
    intro t st e t' st' he B U ρ a w ht hr
    simp only [aCode] at he
    split at he
    · rename_i t1 st1 hx
      refine wp_seq (wp_mono (ihx t st _ t1 st1 hx B U ρ a w ht hr) ?_)
      rintro ex a1 w1 ⟨rfl, U1, ρ1, h1, h2, h3, h4, h5⟩
      refine wp_mono (ihy t1 st1 e t' st' he B U1 ρ1 a1 w1 h2 h3) ?_
      rintro ex a2 w2 ⟨h6, h7⟩
      exact ⟨h6, h5 ▸ h7.after h1 h4⟩
    · rename_i hne
      have hne' : e ≠ .normal := fun q => hne t' st' (by rw [he, q])
      refine wp_seq (wp_mono (ihx t st e t' st' he B U ρ a w ht hr) ?_)
      rintro ex a1 w1 ⟨rfl, h7⟩
      cases e with
      | normal => exact absurd rfl hne'
      | exit id => exact ⟨rfl, h7⟩
      | ret => exact ⟨rfl, h7⟩
  | cond c x y ihx ihy =>
    intro t st e t' st' he B U ρ a w ht hr
    simp only [aCode] at he
    split at he
    · rename_i h1 h2
      have hv := ht.eval h1
      rw [h2] at hv
      exact wp_cond_true hv.bool_inv (ihx t st e t' st' he B U ρ a w ht hr)
    · rename_i h1 h2
      have hv := ht.eval h1
      rw [h2] at hv
      exact wp_cond_false hv.bool_inv (ihy t st e t' st' he B U ρ a w ht hr)
    · simp at he
  | block id c ih =>
    intro t st e t' st' he B U ρ a w ht hr
    simp only [aCode] at he
    split at he
    · rename_i j t1 st1 hx
      refine wp_block (wp_mono (ih t st _ t1 st1 hx B U ρ a w ht hr) ?_)
      rintro ex a1 w1 ⟨rfl, h7⟩
      split at he
      · rename_i hq
        have hq := Nat.eq_of_beq_eq_true hq
        simp only [Option.some.injEq, Prod.mk.injEq] at he
        obtain ⟨rfl, rfl, rfl⟩ := he
        simp only [conc, Exit.inBlock, if_pos hq]
        exact ⟨trivial, h7⟩
      · rename_i hq
        simp only [Option.some.injEq, Prod.mk.injEq] at he
        obtain ⟨rfl, rfl, rfl⟩ := he
        simp only [conc, Exit.inBlock, if_neg (fun q : j = id => by rw [q, Nat.beq_refl] at hq; simp at hq)]
        exact ⟨trivial, h7⟩
    · rename_i hne
      have hne' : ∀ id, e ≠ .exit id := fun id q => hne id t' st' (by rw [he, q])
      refine wp_block (wp_mono (ih t st e t' st' he B U ρ a w ht hr) ?_)
      rintro ex a1 w1 ⟨rfl, h7⟩
      cases e with
      | normal => exact ⟨rfl, h7⟩
      | exit id => exact absurd rfl (hne' id)
      | ret => exact ⟨rfl, h7⟩
  | loop c ih =>
    intro t st e t' st' he B U ρ a w ht hr
    simp only [aCode] at he
    refine wp_loop_ind (fun k a1 w1 => ∃ t1 st1 U1 ρ1, loopN (aCode P call wr nt lf ro c) k t1 st1 = some (e, t', st') ∧ TR U1 ρ1 nt t1 a1 ∧ HR B ro U1 ρ1 st1.next st1.mem w1 ∧ Ext U ρ st.next U1 ρ1 st1.next ∧ Below B w w1 ∧ a1.defers = a.defers) ?_ lf a w ⟨t, st, U, ρ, he, ht, hr, Ext.refl _ _ _, Below.refl _ _, rfl⟩
    rintro k a1 w1 ⟨t1, st1, U1, ρ1, h1, h2, h3, h4, h5, h6⟩
    cases k with
    | zero => rw [loopN_zero] at h1; simp at h1
    | succ k =>
      rw [loopN_succ] at h1
      split at h1
      · rename_i t2 st2 hx
        refine wp_mono (ih t1 st1 _ t2 st2 hx B U1 ρ1 a1 w1 h2 h3) ?_
        rintro ex a2 w2 ⟨rfl, U2, ρ2, g1, g2, g3, g4, g5⟩
        exact ⟨k, Nat.lt_succ_self k, t2, st2, U2, ρ2, h1, g2, g3, h4.trans g1, h5.trans g4, g5.trans h6⟩
      · rename_i hne
        have hne' : e ≠ .normal := fun q => hne t' st' (by rw [h1, q])
        refine wp_mono (ih t1 st1 e t' st' h1 B U1 ρ1 a1 w1 h2 h3) ?_
        rintro ex a2 w2 ⟨rfl, h7⟩
        have h8 := h6 ▸ h7.after h4 h5
        cases e with
        | normal => exact absurd rfl hne'
        | exit id => exact ⟨rfl, h8⟩
        | ret => exact ⟨rfl, h8⟩
  | exit id =>
    intro t st e t' st' he B U ρ a w ht hr
    simp only [aCode, Option.some.injEq, Prod.mk.injEq] at he
    obtain ⟨rfl, rfl, rfl⟩ := he
    exact wp_exit ⟨rfl, U, ρ, Ext.refl _ _ _, ht, hr, Below.refl _ _, rfl⟩
  | label l =>
    intro t st e t' st' he B U ρ a w ht hr
    simp only [aCode, Option.some.injEq, Prod.mk.injEq] at he
    obtain ⟨rfl, rfl, rfl⟩ := he
    exact wp_label ⟨rfl, U, ρ, Ext.refl _ _ _, ht, hr, Below.refl _ _, rfl⟩
  | ret =>
    intro t st e t' st' he B U ρ a w ht hr
    simp only [aCode, Option.some.injEq, Prod.mk.injEq] at he
    obtain ⟨rfl, rfl, rfl⟩ := he
    exact wp_ret ⟨rfl, U, ρ, Ext.refl _ _ _, ht, hr, Below.refl _ _, rfl⟩
  | rangeFunc f ps x y _ _ => intro t st e t' st' he; simp [aCode] at he
  | scope b _ => intro t st e t' st' he; simp [aCode] at he
  | goto l => intro t st e t' st' he; simp [aCode] at he
  | refuse why => intro t st e t' st' he; simp [aCode] at he
end

section
variable {P : Program}
theorem args1_get : ∀ (l : List Value) (i : Nat) (t : Tr) (x : Nat), i + l.length < 4095 → getT 12 (args1 l i t) x = if i ≤ x ∧ x < i + l.length then (l[x - i]?).getD undef else getT 12 t x
  | [], i, t, x, _ => by
    rw [if_neg (by simp only [List.length_nil]; omega)]; rfl
  | v :: l, i, t, x, h => by
    simp only [List.length_cons] at h ⊢
    show getT 12 (args1 l (i + 1) (putT 12 t i v)) x = _
    rw [args1_get l (i + 1) _ x (by omega), get_put 12 t i v x (by omega)]
    by_cases h1 : x = i
    · subst h1
      rw [if_neg (by omega), if_pos rfl, if_pos (by omega)]
      simp
    · by_cases h2 : i + 1 ≤ x ∧ x < i + 1 + l.length
      · rw [if_pos h2, if_pos (by omega), show x - i = (x - (i + 1)) + 1 by omega]
        simp
      · rw [if_neg h2, if_neg h1, if_neg (by omega)]

def resF (a : Act) : ResultVar → Sem Value
  | .tmp t => pure (a.tmps.getD t undef)
  | .cell x t => do loadVar t (← asAddr (a.tmps.getD x undef))
theorem aRes_run {nt : Nat} {m : Mem} {t : Tr} {B ro n : Nat} {U : Nat → Prop} {ρ : Nat → Pl} {a : Act} {w : World} (ht : TR U ρ nt t a) (hr : HR B ro U ρ n m w) : ∀ (rs : List ResultVar) (vs : List Value), aRes P nt m t rs = some vs →
    ∃ vs', (rs.mapM (resF a)).run P w = .ok vs' w ∧ VL U ρ vs vs'
  | [], vs, h => by
    simp only [aRes, Option.some.injEq] at h
    subst h
    exact ⟨[], rfl, .nil⟩
  | .tmp i :: rs, vs, h => by
    simp only [aRes] at h
    split at h
    · rename_i vs0 hi h0
      simp only [Option.some.injEq] at h
      subst h
      obtain ⟨vs', h1, h2⟩ := aRes_run ht hr rs vs0 h0
      refine ⟨a.tmps.getD i undef :: vs', ?_, .cons _ _ _ _ (ht.get i (Nat.le_of_ble_eq_true hi)) h2⟩
      rw [List.mapM_cons]
      simp only [resF, Sem.run_bind, Sem.run_pure, Result.andThen_ok, h1]
    · simp at h
  | .cell x ty :: rs, vs, h => by
    simp only [aRes] at h
    split at h
    · rename_i b off hi hp
      have hv := ht.get x (Nat.le_of_ble_eq_true hi)
      rw [hp] at hv
      obtain ⟨_, e1⟩ := hv.ptr_inv
      split at h
      · rename_i cs hb
        split at h
        · rename_i v0 vs0 hl h0
          simp only [Option.some.injEq] at h
          subst h
          obtain ⟨vs', h1, h2⟩ := aRes_run ht hr rs vs0 h0
          obtain ⟨v', h3, h4⟩ := aLoad_run (P := P) hr hb hl
          refine ⟨v' :: vs', ?_, .cons _ _ _ _ h4 h2⟩
          rw [List.mapM_cons]
          simp only [resF, Sem.run_bind, e1, asAddr, Sem.run_pure, Result.andThen_ok, h3, h1]
        · simp at h
      · simp at h
    · simp at h

theorem HR.still {B ro n : Nat} {U : Nat → Prop} {ρ : Nat → Pl} {m : Mem} {w w' : World} (h : HR B ro U ρ n m w) (hb : Below w.heap.size w w') : HR B ro U ρ n m w' :=
  ⟨h.lt, fun b cs hl => BlkAt.up (h.blk b cs hl) (fun b hb => ⟨hb, rfl⟩) fun k hk => hb.block k hk, h.own, h.inj, Nat.le_trans h.base hb.size⟩

theorem tidy_ok {B ro n : Nat} {U : Nat → Prop} {ρ : Nat → Pl} {w : World} {nx : Nat} {v : Value} {st1 : St} {u : Value} {st' : St} (h : tidy nx v st1 = some (u, st')) {v' : Value} {w' : World} (hp : Post B ro U ρ n w v st1 v' w') : Post B ro U ρ n w u st' v' w' := by
  unfold tidy at h
  split at h
  · simp only [Option.some.injEq, Prod.mk.injEq] at h
    obtain ⟨rfl, rfl⟩ := h
    obtain ⟨U', ρ', h1, h2, h3, h4⟩ := hp
    exact ⟨U', ρ', h1, h2.sub fun b cs hb => look_upto hb, h3, h4⟩
  · simp only [Option.some.injEq, Prod.mk.injEq] at h
    obtain ⟨rfl, rfl⟩ := h
    exact hp

def OrcOK (P : Program) (orc : FuncId → Option (List Value → Option Value)) : Prop :=
  ∀ f g args v, orc f = some g → g args = some v → (∃ fn, P.funcs[f]? = some fn ∧ fn.body.isSome = true) ∧ args.all (gnd 8) = true ∧ gnd 8 v = true ∧
    ∀ w, Calls P f ⟨args⟩ w fun e w' => e = .returned v ∧ Below w.heap.size w w'

theorem aCall_ok (hm : P.follows .mixedOrders = true) (hng : ∀ (f : Nat) fn, P.funcs[f]? = some fn → (fn.name == "runtime.NumGoroutine") = false) {orc : FuncId → Option (List Value → Option Value)} {wr : FuncId → Bool} (horc : OrcOK P orc) (lf : Nat) :
    ∀ n, CallOK P (aCall P orc wr lf n) := by
  intro n
  induction n with
  | zero => intro ro f args st v st' he; simp [aCall] at he
  | succ n ih =>
    intro ro f args st v st' he
    simp only [aCall] at he
    split at he
    · rename_i g hg
      split at he
      case h_2 => simp at he
      rename_i u hu
      simp only [Option.some.injEq, Prod.mk.injEq] at he
      obtain ⟨rfl, rfl⟩ := he
      obtain ⟨⟨fn, h1, h2⟩, h3, h4, h5⟩ := horc f g args u hg hu
      refine ⟨⟨fn, h1, hng f fn h1, h2⟩, fun B U ρ w args' hr hl => ?_⟩
      rw [VL.eq_of (VR.eq 8) hl h3]
      refine (h5 w).mono ?_
      rintro e w' ⟨rfl, hb⟩
      exact ⟨u, rfl, U, ρ, Ext.refl _ _ _, hr.still hb, VR.refl 8 u h4, hb.mono hr.base⟩
    · split at he
      · rename_i fn hfn
        split at he
        · rename_i c hc hcond
          simp only [Bool.and_eq_true] at hcond
          have hn : fn.ntmps < 4095 := Nat.le_of_ble_eq_true hcond.1
          have hal : args.length ≤ fn.ntmps := Nat.le_of_ble_eq_true hcond.2
          refine ⟨⟨fn, hfn, hng f fn hfn, by rw [hc]; rfl⟩, fun B U ρ w args' hr hl => ?_⟩
          have hlen := hl.len
          have ht : TR U ρ fn.ntmps (args1 args 0 .nil) { tmps := ⟨args'⟩ ++ Array.replicate (fn.ntmps - (⟨args'⟩ : Array Value).size) undef, defers := [] } := by
            refine ⟨by simp; omega, fun i hi => ?_⟩
            rw [args1_get args 0 .nil i (by omega)]
            simp only [Nat.zero_le, true_and, Nat.zero_add, Nat.sub_zero, getT_nil]
            by_cases h1 : i < args.length
            · rw [if_pos h1]
              obtain ⟨y, hy, hv⟩ := hl.get (List.getElem?_eq_getElem h1)
              rw [List.getElem?_eq_getElem h1]
              have : ((⟨args'⟩ : Array Value) ++ Array.replicate (fn.ntmps - (⟨args'⟩ : Array Value).size) undef).getD i undef = y := by
                rw [Array.getD_eq_getD_getElem?, Array.getElem?_append_left (by simp; omega)]
                simp [hy]
              rw [this]
              exact hv
            · rw [if_neg h1]
              have : ((⟨args'⟩ : Array Value) ++ Array.replicate (fn.ntmps - (⟨args'⟩ : Array Value).size) undef).getD i undef = undef := by
                rw [Array.getD_eq_getD_getElem?, Array.getElem?_append_right (by simp; omega)]
                simp only [Array.getElem?_replicate]
                split <;> rfl
              rw [this]
              exact .tup _ _ .nil
          split at he
          · simp at he
          · rename_i ex t1 st1 hnex hrun
            refine calls_of_wp hfn hc (wp_mono (aCode_ok ih hm hn c _ st _ _ _ hrun B U ρ _ w ht hr) ?_)
            rintro x a1 w1 ⟨rfl, U1, ρ1, h1, h2, h3, h4, h5⟩
            have key : ∃ v1, (results fn a1.tmps).run P w1 = .ok v1 w1 ∧ Post B ro U ρ st.next w v st' v1 w1 := by
              have hres : ∀ vs vs', (fn.results.toList.mapM (resF a1)).run P w1 = .ok vs' w1 → VL U1 ρ1 vs vs' → (results fn a1.tmps).run P w1 = .ok (if h : vs'.toArray.size = 1 then vs'.toArray[0] else .tuple vs'.toArray) w1 := by
                intro vs vs' hv _
                have e : results fn a1.tmps = (do let vs ← fn.results.mapM (resF a1); pure (if h : vs.size = 1 then vs[0] else .tuple vs) : Sem Value) := by
                  unfold results
                  congr 2
                rw [e, Array.mapM_eq_mapM_toList]
                simp only [Sem.run_bind, Sem.run_map, hv, Result.andThen_ok, Sem.run_pure]
              split at he
              · rename_i u hu
                obtain ⟨vs', g1, g2⟩ := aRes_run (P := P) h2 h3 _ _ hu
                have hr1 := hres _ vs' g1 g2
                cases g2 with
                | cons _ x' _ xs' g3 g4 =>
                  cases g4
                  exact ⟨x', by simpa using hr1, tidy_ok he ⟨U1, ρ1, h1, h3, g3, h4⟩⟩
              · rename_i vs hne hu
                obtain ⟨vs', g1, g2⟩ := aRes_run (P := P) h2 h3 _ _ hu
                have hr1 := hres _ vs' g1 g2
                have hl2 := g2.len
                have : vs'.toArray.size ≠ 1 := by
                  intro q
                  have : vs.length = 1 := by rw [hl2]; simpa using q
                  match vs, this with
                  | [z], _ => exact hne z rfl
                refine ⟨.tuple ⟨vs'⟩, ?_, tidy_ok he ⟨U1, ρ1, h1, h3, .tup _ _ g2, h4⟩⟩
                rw [dif_neg this] at hr1
                exact hr1
              · simp at he
            obtain ⟨v1, k1, k2⟩ := key
            cases ex with
            | exit id => exact (hnex id rfl).elim
            | normal => exact ⟨h5, v1, k1, v1, rfl, k2⟩
            | ret => exact ⟨h5, v1, k1, v1, rfl, k2⟩
          · simp at he
        · simp at he
      · simp at he

theorem run_calls (hm : P.follows .mixedOrders = true) (hng : ∀ (f : Nat) fn, P.funcs[f]? = some fn → (fn.name == "runtime.NumGoroutine") = false) {orc : FuncId → Option (List Value → Option Value)} {wr : FuncId → Bool} (horc : OrcOK P orc) {lf n : Nat} {f : FuncId} {args : List Value} {v : Value} {st' : St}
    (ha : args.all (gnd 8) = true) (hv : gnd 8 v = true) (h : aCall P orc wr lf n 0 f args ⟨0, []⟩ = some (v, st')) (w : World) : Calls P f ⟨args⟩ w fun e w' => e = .returned v ∧ Below w.heap.size w w' := by
  obtain ⟨_, h1⟩ := aCall_ok (wr := wr) hm hng horc lf n 0 f args ⟨0, []⟩ v st' h
  have hr : HR w.heap.size 0 (fun _ => False) (fun _ => ⟨0, 0, 0⟩) 0 [] w :=
    ⟨fun b hb => hb.elim, fun b cs hb => by simp [look] at hb, fun b cs hb => by simp [look] at hb, fun b b' cs cs' hb => by simp [look] at hb, Nat.le_refl _⟩
  refine (h1 w.heap.size _ _ w args hr (VL.refl_of (VR.refl 8) args ha)).mono ?_
  rintro e w' ⟨v', rfl, U', ρ', _, _, g3, g4⟩
  exact ⟨by rw [VR.eq 8 v v' hv g3], g4⟩
end
end Go.Proofs.Yticbhgjenidjlaa.Ab
