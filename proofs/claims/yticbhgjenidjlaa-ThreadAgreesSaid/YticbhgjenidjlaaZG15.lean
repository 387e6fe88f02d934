-- cut down, squeezed and laid together by pack.py (a program of this repository) out of this seat's texts
import Derived.Test.YticbhgjenidjlaaZG12
import Derived.Test.YticbhgjenidjlaaZG13
namespace Go.Proofs.Yticbhgjenidjlaa.Ab
open Go Go.RowKit
set_option linter.unusedVariables false
set_option linter.unusedSimpArgs false

section
variable {R : Type} (P : Program) (callK : Nat → FuncId → List Value → St → (Value → St → Option R) → Option R) (wr : FuncId → Bool)
def oDivK (op : BinOp) (x y : Value) (c : Value → Option R) : Option R :=
  match x, y with
  | .int k a, .int k' b => match decide (k = k') with
    | true => match decide (b = 0) with
      | true => none
      | false => match op with
        | .quo => c (.int k (k.wrap (a.tdiv b)))
        | .rem => c (.int k (a.tmod b))
        | _ => none
    | false => none
  | _, _ => none
def aOpK (ro : Nat) (ev : Operand → Value) (o : Oper) (st : St) (c : Value → St → Option R) : Option R :=
  match o.op with
  | .pick x a b => match ev x with
    | .bool true => c (ev a) st
    | .bool false => c (ev b) st
    | _ => none
  | .binOp .quo _ x y _ => oDivK .quo (ev x) (ev y) fun v => c v st
  | .binOp .rem _ x y _ => oDivK .rem (ev x) (ev y) fun v => c v st
  | .call { callee := .value f, args, .. } => match ev f with
    | .func (.func g) ⟨first⟩ ⟨captured⟩ => fl (first ++ args.toList.map ev ++ captured) fun l => callK ro g l st c
    | _ => none
  | _ => match aOp P (fun _ _ _ _ => none) ro ev o st with
    | some (v, st') => c v st'
    | none => none
noncomputable def wantK (ops : Array Oper) (t : Tr) (o : Oper) (yes no : Tr → Option R) : Option R :=
  match o.guard with
  | none => yes t
  | some (j, want) => match (ops[j]?).bind (·.dst) with
    | some d => match getT 12 t d with
      | .bool true => match want with
        | true => yes (putT 12 t d (.bool true))
        | false => no (putT 12 t d (.bool true))
      | .bool false => match want with
        | true => no (putT 12 t d (.bool false))
        | false => yes (putT 12 t d (.bool false))
      | _ => no t
    | none => no t
noncomputable def aOpsK (ro : Nat) (ops : Array Oper) (l : List Oper) : Tr → St → (Tr → St → Option R) → Option R :=
  List.rec (motive := fun _ => Tr → St → (Tr → St → Option R) → Option R) (fun t st c => c t st)
    (fun o _ ih t st c => wantK ops t o (fun t => aOpK P callK ro (evl t) o st fun v st' => ih (setT t o.dst v) st' c) (fun t => ih (setT t o.dst undef) st c)) l
noncomputable def dstepK (ro : Nat) (ops : Array Oper) (o : Oper) (mask i : Nat) (s : DS) (c : DS → Option R) : Option R :=
  wantK ops s.t o (fun t => match still o.op with
    | true => aOpK P callK s.next (evl t) o ⟨s.next, []⟩ fun v _ => c ⟨setT t o.dst v, s.next, s.ns ++ [[]], s.base, s.last, s.rd ++ [none]⟩
    | false => match acts wr (evl t) o with
      | false => match behind mask s.last with
        | true => aOpK P callK s.next (evl t) o ⟨s.next, memOf s.base mask 0 s.ns⟩ fun v st' => match Nat.ble s.next st'.next with
          | true => c (s.loud (setT t o.dst v) (freeRead (evl t) o s.ns v) st')
          | false => none
        | false => none
      | true => match louds mask (writeOf (evl t) o) s.ns 0 i ops.toList s.rd with
        | true => aOpK P callK ro (evl t) o ⟨s.next, memAll s.base s.ns⟩ fun v st' => match Nat.ble s.next st'.next with
          | true => c ⟨setT t o.dst v, st'.next, blank s.ns ++ [[]], st'.mem, some i, s.rd ++ [none]⟩
          | false => none
        | false => none) (fun t => c ⟨setT t o.dst undef, s.next, s.ns ++ [[]], s.base, s.last, s.rd ++ [none]⟩)
noncomputable def aDrawK (ro : Nat) (ops : Array Oper) (l : List (Oper × Nat)) : Nat → DS → (DS → Option R) → Option R :=
  List.rec (motive := fun _ => Nat → DS → (DS → Option R) → Option R) (fun _ s c => c s)
    (fun o _ ih i s c => dstepK P callK wr ro ops o.1 o.2 i s fun s' => ih (i + 1) s' c) l
noncomputable def loopNK (f : Tr → St → (Ex → Tr → St → Option R) → Option R) (n : Nat) : Tr → St → (Ex → Tr → St → Option R) → Option R :=
  Nat.rec (motive := fun _ => Tr → St → (Ex → Tr → St → Option R) → Option R) (fun _ _ _ => none)
    (fun _ ih t st c => f t st fun e t' st' => match e with
      | .normal => ih t' st' c
      | .exit id => c (.exit id) t' st'
      | .ret => c .ret t' st') n
noncomputable def known1 (t : Tr) (x : Operand) (b : Bool) : Tr := match x with
  | .tmp d => putT 12 t d (.bool b)
  | _ => t
noncomputable def aCodeK (nt lf ro : Nat) : Code → Tr → St → (Ex → Tr → St → Option R) → Option R
  | .skip, t, st, c => c .normal t st
  | .label _, t, st, c => c .normal t st
  | .ret, t, st, c => c .ret t st
  | .exit id, t, st, c => c (.exit id) t st
  | .region _ ops d, t, st, c => match okOps nt ops, d with
    | true, false => aOpsK P callK ro ops ops.toList t st fun t' st' => c .normal t' st'
    | true, true => match plan ops ops.toList 0 [] with
      | some ms => aDrawK P callK wr ro ops (ops.toList.zip ms) 0 ⟨t, st.next, [], st.mem, none, []⟩ fun s => c .normal s.t s.out
      | none => none
    | false, _ => none
  | .seq a b, t, st, c => aCodeK nt lf ro a t st fun e t' st' => match e with
    | .normal => aCodeK nt lf ro b t' st' c
    | .exit id => c (.exit id) t' st'
    | .ret => c .ret t' st'
  | .cond x a b, t, st, c => match okOperand nt x with
    | true => match evl t x with
      | .bool true => aCodeK nt lf ro a (known1 t x true) st c
      | .bool false => aCodeK nt lf ro b (known1 t x false) st c
      | _ => none
    | false => none
  | .block id b, t, st, c => aCodeK nt lf ro b t st fun e t' st' => match e with
    | .exit j => match Nat.beq j id with
      | true => c .normal t' st'
      | false => c (.exit j) t' st'
    | .normal => c .normal t' st'
    | .ret => c .ret t' st'
  | .loop b, t, st, c => loopNK (aCodeK nt lf ro b) lf t st c
  | _, _, _, _ => none
end
noncomputable def aCallK {R : Type} (P : Program) (orcK : FuncId → Option (List Value → (Value → Option R) → Option R)) (wr : FuncId → Bool) (lf : Nat) : Nat → Nat → FuncId → List Value → St → (Value → St → Option R) → Option R
  | 0, _, _, _, _, _ => none
  | n + 1, ro, f, args, st, c => match orcK f with
    | some g => g args fun v => c v st
    | none => match P.funcs[f]? with
      | some fn => match fn.body, Nat.blt fn.ntmps 4095 && Nat.ble args.length fn.ntmps with
        | some b, true => aCodeK P (aCallK P orcK wr lf n) wr fn.ntmps lf ro b (args1 args 0 .nil) st fun e t' st' => match e with
          | .exit _ => none
          | _ => match aRes P fn.ntmps st'.mem t' fn.results.toList with
            | some [v] => match tidy st.next v st' with
              | some (u, st2) => c u st2
              | none => none
            | some vs => match tidy st.next (.tuple ⟨vs⟩) st' with
              | some (u, st2) => c u st2
              | none => none
            | none => none
        | _, _ => none
      | none => none

theorem put_get : ∀ (k : Nat) (t : Tr) (n : Nat) (b : Bool), getT k t n = .bool b → putT k t n (.bool b) = t
  | 0, t, n, b, h => rfl
  | k + 1, .nil, n, b, h => by rw [getT_nil] at h; simp [undef] at h
  | k + 1, .node l x r, 0, b, h => by rw [getT_zero] at h; rw [putT_zero, h]
  | k + 1, .node l x r, m + 1, b, h => by
    rw [getT_succ] at h
    rw [putT_succ]
    split at h
    · rename_i hm; rw [if_pos hm, put_get k l (m / 2) b h]
    · rename_i hm; rw [if_neg hm, put_get k r (m / 2) b h]

section
variable {R : Type} {P : Program} {callK : Nat → FuncId → List Value → St → (Value → St → Option R) → Option R} {call : Nat → FuncId → List Value → St → Ans} {wr : FuncId → Bool}
theorem wantK_eq {ops : Array Oper} {t : Tr} {o : Oper} {yes no : Tr → Option R} : wantK ops t o yes no = match wantedT ops t o with | true => yes t | false => no t := by
  unfold wantK wantedT
  cases hg : o.guard with
  | none => rfl
  | some g =>
    obtain ⟨j, want⟩ := g
    simp only
    cases hj : (ops[j]?).bind (·.dst) with
    | none => rfl
    | some d =>
      simp only
      cases hv : getT 12 t d with
      | bool b => cases b <;> cases want <;> simp [put_get 12 t d _ hv]
      | _ => rfl

theorem div_eq (st : St) {ev : Operand → Value} {o : Oper} {op : BinOp} (hop : op = .quo ∨ op = .rem) {t u : TypeId} {x y : Operand} (ho : o.op = .binOp op t x y u) (c : Value → St → Option R) :
    oDivK op (ev x) (ev y) (fun v => c v st) = none ∨ oDivK op (ev x) (ev y) (fun v => c v st) = (oBin P ev o op t (ev x) (ev y) st).bind fun p => c p.1 p.2 := by
  unfold oDivK
  split
  · rename_i k a k' b hx hy
    split
    · rename_i hk
      have hk := of_decide_eq_true hk
      subst hk
      split
      · exact .inl rfl
      · rename_i hb
        have hb := of_decide_eq_false hb
        refine .inr ?_
        have hg : o.op.operands.toList.all (fun x => gnd 8 (ev x)) = true := by simp [ho, Op.operands, hx, hy, gnd]
        rcases hop with rfl | rfl
        · have hp : pEval P (execOp ev o) = some (.value (.int k (k.wrap (a.tdiv b)))) := by
            simp only [execOp, ho, hx, hy]
            simp [eqGuard, Go.binOp, Op.intDiv, hb]
            rfl
          unfold oBin
          simp only [hx, hy, decide_true, intOp, aPure, hg, hp, gnd, Option.bind_some]
        · have hp : pEval P (execOp ev o) = some (.value (.int k (a.tmod b))) := by
            simp only [execOp, ho, hx, hy]
            simp [eqGuard, Go.binOp, Op.intDiv, hb]
            rfl
          unfold oBin
          simp only [hx, hy, decide_true, intOp, aPure, hg, hp, gnd, Option.bind_some]
    · exact .inl rfl
  · exact .inl rfl

def Le (x y : Option R) : Prop := ∀ r, x = some r → y = some r
theorem Le.refl (x : Option R) : Le x x := fun _ h => h
theorem Le.none (y : Option R) : Le none y := fun _ h => by simp at h

theorem aOpK_le (hs : ∀ ro f args st (c c' : Value → St → Option R), (∀ v st, Le (c v st) (c' v st)) → Le (callK ro f args st c) ((call ro f args st).bind fun p => c' p.1 p.2)) (ro : Nat) (ev : Operand → Value) (o : Oper) (st : St) (c c' : Value → St → Option R) (hc : ∀ v st, Le (c v st) (c' v st)) :
    Le (aOpK P callK ro ev o st c) ((aOp P call ro ev o st).bind fun p => c' p.1 p.2) := by
  intro r h
  unfold aOpK at h
  split at h
  · rename_i x a b ho
    unfold aOp
    simp only [ho, oPick]
    split at h
    · rename_i e; try rw [e]
      exact hc _ _ r h
    · rename_i e; try rw [e]
      exact hc _ _ r h
    · simp at h
  · rename_i t x y u ho
    rcases div_eq (P := P) st (ev := ev) (.inl rfl) ho c with h1 | h1
    · rw [h1] at h; simp at h
    · rw [h1] at h
      unfold aOp
      simp only [ho]
      obtain ⟨p, hp, hq⟩ := Option.bind_eq_some_iff.mp h
      exact Option.bind_eq_some_iff.mpr ⟨p, hp, hc _ _ r hq⟩
  · rename_i t x y u ho
    rcases div_eq (P := P) st (ev := ev) (.inr rfl) ho c with h1 | h1
    · rw [h1] at h; simp at h
    · rw [h1] at h
      unfold aOp
      simp only [ho]
      obtain ⟨p, hp, hq⟩ := Option.bind_eq_some_iff.mp h
      exact Option.bind_eq_some_iff.mpr ⟨p, hp, hc _ _ r hq⟩
  · rename_i f args ts ho
    unfold aOp
    simp only [ho, oCall, oCallV]
    split at h
    · rename_i g first captured e
      try rw [e]
      simp only [fl_eq] at h ⊢
      exact hs _ _ _ _ c c' hc r h
    · simp at h
  · rename_i hn1 hn2 hn3 hn4
    split at h
    · rename_i v st' hop
      have : aOp P call ro ev o st = some (v, st') := by
        unfold aOp at hop ⊢
        split at hop
        case h_17 q ho =>
          unfold oCall at hop ⊢
          split at hop
          · rename_i f hf
            obtain ⟨cl, ar, ts⟩ := q
            simp only at hf
            subst hf
            exact absurd ho (hn4 f ar ts)
          · exact hop
          · exact hop
          · exact hop
          · exact hop
        all_goals exact hop
      rw [this]
      exact hc _ _ r h
    · simp at h

def CallLe (call : Nat → FuncId → List Value → St → Ans) (callK : Nat → FuncId → List Value → St → (Value → St → Option R) → Option R) : Prop :=
  ∀ ro f args st (c c' : Value → St → Option R), (∀ v st, Le (c v st) (c' v st)) → Le (callK ro f args st c) ((call ro f args st).bind fun p => c' p.1 p.2)

theorem aOpsK_le (hs : CallLe call callK) (ro : Nat) (ops : Array Oper) : ∀ (l : List Oper) (t : Tr) (st : St) (c c' : Tr → St → Option R), (∀ t st, Le (c t st) (c' t st)) →
    Le (aOpsK P callK ro ops l t st c) ((aOps P call ro ops l t st).bind fun p => c' p.1 p.2) := by
  intro l
  induction l with
  | nil => intro t st c c' hc; exact hc t st
  | cons o l ih =>
    intro t st c c' hc
    change Le (wantK ops t o (fun t => aOpK P callK ro (evl t) o st fun v st' => aOpsK P callK ro ops l (setT t o.dst v) st' c) (fun t => aOpsK P callK ro ops l (setT t o.dst undef) st c))
      ((match wantedT ops t o with
        | true => match aOp P call ro (evl t) o st with
          | some (v, st') => aOps P call ro ops l (setT t o.dst v) st'
          | none => none
        | false => aOps P call ro ops l (setT t o.dst undef) st).bind fun p => c' p.1 p.2)
    rw [wantK_eq]
    cases wantedT ops t o with
    | true =>
      simp only
      intro r h
      have := aOpK_le (P := P) hs ro (evl t) o st _ (fun v st' => (aOps P call ro ops l (setT t o.dst v) st').bind fun p => c' p.1 p.2) (fun v st' => ih _ _ c c' hc) r h
      obtain ⟨p, hp, hq⟩ := Option.bind_eq_some_iff.mp this
      rw [hp]
      exact hq
    | false => exact ih _ _ c c' hc

theorem dstepK_le (hs : CallLe call callK) (ro : Nat) (ops : Array Oper) (o : Oper) (mask i : Nat) (s : DS) (c c' : DS → Option R) (hc : ∀ s, Le (c s) (c' s)) :
    Le (dstepK P callK wr ro ops o mask i s c) ((dstep P call wr ro ops o mask i s).bind fun p => c' p.2) := by
  unfold dstepK dstep
  rw [wantK_eq]
  cases wantedT ops s.t o with
  | false => exact hc _
  | true =>
    simp only
    cases still o.op with
    | true =>
      simp only
      intro r h
      have := aOpK_le (P := P) hs s.next (evl s.t) o ⟨s.next, []⟩ _ (fun v _ => c' ⟨setT s.t o.dst v, s.next, s.ns ++ [[]], s.base, s.last, s.rd ++ [none]⟩) (fun v st' => hc _) r h
      obtain ⟨p, hp, hq⟩ := Option.bind_eq_some_iff.mp this
      rw [hp]
      exact hq
    | false =>
      simp only
      cases acts wr (evl s.t) o with
      | false =>
        simp only
        cases behind mask s.last with
        | false => exact Le.none _
        | true =>
          simp only
          intro r h
          have := aOpK_le (P := P) hs s.next (evl s.t) o ⟨s.next, memOf s.base mask 0 s.ns⟩ _ (fun v st' => match Nat.ble s.next st'.next with
            | true => c' (s.loud (setT s.t o.dst v) (freeRead (evl s.t) o s.ns v) st')
            | false => none) (fun v st' => by
              cases Nat.ble s.next st'.next with
              | true => exact hc _
              | false => exact Le.none _) r h
          obtain ⟨p, hp, hq⟩ := Option.bind_eq_some_iff.mp this
          rw [hp]
          simp only at hq ⊢
          split at hq
          · rename_i hb; first | (rw [hb]; exact hq) | exact hq
          · simp at hq
      | true =>
        simp only
        cases louds mask (writeOf (evl s.t) o) s.ns 0 i ops.toList s.rd with
        | false => exact Le.none _
        | true =>
          simp only
          intro r h
          have := aOpK_le (P := P) hs ro (evl s.t) o ⟨s.next, memAll s.base s.ns⟩ _ (fun v st' => match Nat.ble s.next st'.next with
            | true => c' ⟨setT s.t o.dst v, st'.next, blank s.ns ++ [[]], st'.mem, some i, s.rd ++ [none]⟩
            | false => none) (fun v st' => by
              cases Nat.ble s.next st'.next with
              | true => exact hc _
              | false => exact Le.none _) r h
          obtain ⟨p, hp, hq⟩ := Option.bind_eq_some_iff.mp this
          rw [hp]
          simp only at hq ⊢
          split at hq
          · rename_i hb; first | (rw [hb]; exact hq) | exact hq
          · simp at hq

theorem aDrawK_le (hs : CallLe call callK) (ro : Nat) (ops : Array Oper) : ∀ (l : List (Oper × Nat)) (i : Nat) (s : DS) (c c' : DS → Option R), (∀ s, Le (c s) (c' s)) →
    Le (aDrawK P callK wr ro ops l i s c) ((aDraw P call wr ro ops l i s).bind c') := by
  intro l
  induction l with
  | nil => intro i s c c' hc; exact hc s
  | cons o l ih =>
    intro i s c c' hc
    change Le (dstepK P callK wr ro ops o.1 o.2 i s fun s' => aDrawK P callK wr ro ops l (i + 1) s' c) ((match dstep P call wr ro ops o.1 o.2 i s with
      | some (_, s') => aDraw P call wr ro ops l (i + 1) s'
      | none => none).bind c')
    intro r h
    have := dstepK_le (P := P) (wr := wr) hs ro ops o.1 o.2 i s _ (fun s' => (aDraw P call wr ro ops l (i + 1) s').bind c') (fun s' => ih _ _ c c' hc) r h
    obtain ⟨p, hp, hq⟩ := Option.bind_eq_some_iff.mp this
    rw [hp]
    exact hq

theorem loopNK_le {fK : Tr → St → (Ex → Tr → St → Option R) → Option R} {f : Tr → St → Option (Ex × Tr × St)} (hf : ∀ t st (c c' : Ex → Tr → St → Option R), (∀ e t st, Le (c e t st) (c' e t st)) → Le (fK t st c) ((f t st).bind fun p => c' p.1 p.2.1 p.2.2)) :
    ∀ (n : Nat) (t : Tr) (st : St) (c c' : Ex → Tr → St → Option R), (∀ e t st, Le (c e t st) (c' e t st)) → Le (loopNK fK n t st c) ((loopN f n t st).bind fun p => c' p.1 p.2.1 p.2.2) := by
  intro n
  induction n with
  | zero => intro t st c c' hc; exact Le.none _
  | succ n ih =>
    intro t st c c' hc
    change Le (fK t st fun e t' st' => match e with
      | .normal => loopNK fK n t' st' c
      | .exit id => c (.exit id) t' st'
      | .ret => c .ret t' st') _
    rw [loopN_succ]
    intro r h
    have := hf t st _ (fun e t' st' => match e with
      | .normal => (loopN f n t' st').bind fun p => c' p.1 p.2.1 p.2.2
      | .exit id => c' (.exit id) t' st'
      | .ret => c' .ret t' st') (fun e t' st' => by
        cases e with
        | normal => exact ih _ _ c c' hc
        | exit id => exact hc _ _ _
        | ret => exact hc _ _ _) r h
    obtain ⟨⟨e, t', st'⟩, hp, hq⟩ := Option.bind_eq_some_iff.mp this
    rw [hp]
    cases e with
    | normal => exact hq
    | exit id => exact hq
    | ret => exact hq

theorem known1_eq {t : Tr} {x : Operand} {b : Bool} (h : evl t x = .bool b) : known1 t x b = t := by
  unfold known1
  cases x with
  | tmp d => exact put_get 12 t d b h
  | _ => rfl

theorem aCodeK_le (hs : CallLe call callK) {nt lf ro : Nat} : ∀ (x : Code) (t : Tr) (st : St) (c c' : Ex → Tr → St → Option R), (∀ e t st, Le (c e t st) (c' e t st)) →
    Le (aCodeK P callK wr nt lf ro x t st c) ((aCode P call wr nt lf ro x t st).bind fun p => c' p.1 p.2.1 p.2.2) := by
  intro x
  induction x with
  | skip => intro t st c c' hc; exact hc _ _ _
  | label l => intro t st c c' hc; exact hc _ _ _
  | ret => intro t st c c' hc; exact hc _ _ _
  | exit id => intro t st c c' hc; exact hc _ _ _
  | region id ops d =>
    intro t st c c' hc
    simp only [aCodeK, aCode]
    cases okOps nt ops with
    | false => exact Le.none _
    | true =>
      cases d with
      | false =>
        simp only
        intro r h
        have := aOpsK_le (P := P) hs ro ops ops.toList t st _ (fun t' st' => c' .normal t' st') (fun t st => hc _ _ _) r h
        obtain ⟨p, hp, hq⟩ := Option.bind_eq_some_iff.mp this
        rw [hp]
        exact hq
      | true =>
        simp only
        cases plan ops ops.toList 0 [] with
        | none => exact Le.none _
        | some ms =>
          simp only
          intro r h
          have := aDrawK_le (P := P) (wr := wr) hs ro ops (ops.toList.zip ms) 0 ⟨t, st.next, [], st.mem, none, []⟩ _ (fun s => c' .normal s.t s.out) (fun s => hc _ _ _) r h
          obtain ⟨p, hp, hq⟩ := Option.bind_eq_some_iff.mp this
          rw [hp]
          exact hq
  | seq a b iha ihb =>
    intro t st c c' hc
    simp only [aCodeK, aCode]
    intro r h
    have := iha t st _ (fun e t' st' => match e with
      | .normal => (aCode P call wr nt lf ro b t' st').bind fun p => c' p.1 p.2.1 p.2.2
      | .exit id => c' (.exit id) t' st'
      | .ret => c' .ret t' st') (fun e t' st' => by
        cases e with
        | normal => exact ihb _ _ c c' hc
        | exit id => exact hc _ _ _
        | ret => exact hc _ _ _) r h
    obtain ⟨⟨e, t', st'⟩, hp, hq⟩ := Option.bind_eq_some_iff.mp this
    rw [hp]
    cases e with
    | normal => exact hq
    | exit id => exact hq
    | ret => exact hq
  | cond x a b iha ihb =>
    intro t st c c' hc
    simp only [aCodeK, aCode]
    cases okOperand nt x with
    | false => exact Le.none _
    | true =>
      simp only
      cases hx : evl t x with
      | bool v =>
        cases v with
        | true => simp only; rw [known1_eq hx]; exact iha _ _ c c' hc
        | false => simp only; rw [known1_eq hx]; exact ihb _ _ c c' hc
      | _ => exact Le.none _
  | block id b ih =>
    intro t st c c' hc
    simp only [aCodeK, aCode]
    intro r h
    have := ih t st _ (fun e t' st' => match e with
      | .exit j => match Nat.beq j id with
        | true => c' .normal t' st'
        | false => c' (.exit j) t' st'
      | .normal => c' .normal t' st'
      | .ret => c' .ret t' st') (fun e t' st' => by
        cases e with
        | normal => exact hc _ _ _
        | exit j =>
          simp only
          cases Nat.beq j id with
          | true => exact hc _ _ _
          | false => exact hc _ _ _
        | ret => exact hc _ _ _) r h
    obtain ⟨⟨e, t', st'⟩, hp, hq⟩ := Option.bind_eq_some_iff.mp this
    rw [hp]
    cases e with
    | normal => exact hq
    | exit j =>
      simp only at hq ⊢
      cases hb : Nat.beq j id with
      | true => rw [hb] at hq; exact hq
      | false => rw [hb] at hq; exact hq
    | ret => exact hq
  | loop b ih => intro t st c c' hc; simp only [aCodeK, aCode]; exact loopNK_le ih lf t st c c' hc
  | rangeFunc f ps x y _ _ => intro t st c c' hc; simp only [aCodeK]; exact Le.none _
  | scope b _ => intro t st c c' hc; simp only [aCodeK]; exact Le.none _
  | goto l => intro t st c c' hc; simp only [aCodeK]; exact Le.none _
  | refuse why => intro t st c c' hc; simp only [aCodeK]; exact Le.none _
end

def OrcLe {R : Type} (orc : FuncId → Option (List Value → Option Value)) (orcK : FuncId → Option (List Value → (Value → Option R) → Option R)) : Prop :=
  ∀ f, (orcK f = none ∧ orc f = none) ∨ ∃ gK g, orcK f = some gK ∧ orc f = some g ∧ ∀ args c, Le (gK args c) ((g args).bind c)

theorem aCallK_le {R : Type} {P : Program} {orc : FuncId → Option (List Value → Option Value)} {orcK : FuncId → Option (List Value → (Value → Option R) → Option R)} (ho : OrcLe orc orcK) {wr : FuncId → Bool} {lf : Nat} :
    ∀ n, CallLe (R := R) (aCall P orc wr lf n) (aCallK P orcK wr lf n) := by
  intro n
  induction n with
  | zero => intro ro f args st c c' hc; exact Le.none _
  | succ n ih =>
    intro ro f args st c c' hc r h
    simp only [aCallK, aCall] at h ⊢
    rcases ho f with ⟨h1, h2⟩ | ⟨gK, g, h1, h2, h3⟩
    · rw [h1] at h
      rw [h2]
      simp only at h ⊢
      cases hfn : P.funcs[f]? with
      | none => rw [hfn] at h; simp at h
      | some fn =>
        rw [hfn] at h
        simp only at h ⊢
        cases hb : fn.body with
        | none => rw [hb] at h; simp at h
        | some b =>
          rw [hb] at h
          cases hcnd : (Nat.blt fn.ntmps 4095 && Nat.ble args.length fn.ntmps) with
          | false => rw [hcnd] at h; simp at h
          | true =>
            rw [hcnd] at h
            simp only at h ⊢
            have := aCodeK_le (P := P) (wr := wr) ih b (args1 args 0 .nil) st _ (fun e t' st' => match e with
              | .exit _ => none
              | _ => match aRes P fn.ntmps st'.mem t' fn.results.toList with
                | some [v] => match tidy st.next v st' with
                  | some (u, st2) => c' u st2
                  | none => none
                | some vs => match tidy st.next (.tuple ⟨vs⟩) st' with
                  | some (u, st2) => c' u st2
                  | none => none
                | none => none) (fun e t' st' => by
                  have body : Le (match aRes P fn.ntmps st'.mem t' fn.results.toList with
                    | some [v] => match tidy st.next v st' with
                      | some (u, st2) => c u st2
                      | none => none
                    | some vs => match tidy st.next (.tuple ⟨vs⟩) st' with
                      | some (u, st2) => c u st2
                      | none => none
                    | none => none) (match aRes P fn.ntmps st'.mem t' fn.results.toList with
                    | some [v] => match tidy st.next v st' with
                      | some (u, st2) => c' u st2
                      | none => none
                    | some vs => match tidy st.next (.tuple ⟨vs⟩) st' with
                      | some (u, st2) => c' u st2
                      | none => none
                    | none => none) := by
                    split
                    · split
                      · exact hc _ _
                      · exact Le.none _
                    · split
                      · exact hc _ _
                      · exact Le.none _
                    · exact Le.none _
                  cases e with
                  | exit id => exact Le.none _
                  | normal => exact body
                  | ret => exact body) r h
            obtain ⟨⟨e, t', st'⟩, hp, hq⟩ := Option.bind_eq_some_iff.mp this
            rw [hp]
            have fin : ∀ (x : Option (List Value)), (match x with
                | some [v] => match tidy st.next v st' with
                  | some (u, st2) => c' u st2
                  | none => none
                | some vs => match tidy st.next (.tuple ⟨vs⟩) st' with
                  | some (u, st2) => c' u st2
                  | none => none
                | none => none) = some r → ((match x with
                | some [v] => tidy st.next v st'
                | some vs => tidy st.next (.tuple ⟨vs⟩) st'
                | none => none : Ans).bind fun p => c' p.1 p.2) = some r := by
              intro x hx
              split at hx
              · split at hx
                · rename_i h1; first | (rw [h1]; exact hx) | exact hx
                · simp at hx
              · rename_i vs hne
                split at hx
                · rename_i h1
                  first | (rw [h1]; exact hx) | exact hx
                · simp at hx
              · simp at hx
            cases e with
            | exit id => simp at hq
            | normal => exact fin _ hq
            | ret => exact fin _ hq
    · rw [h1] at h
      rw [h2]
      simp only at h ⊢
      have := h3 args _ r h
      obtain ⟨v, hv, hq⟩ := Option.bind_eq_some_iff.mp this
      rw [hv]
      exact hc _ _ r hq

def fin (v : Value) (_ : St) : Option Value :=
  match gnd 8 v with
  | true => some v
  | false => none
noncomputable def askK (P : Program) (orcK : FuncId → Option (List Value → (Value → Option Value) → Option Value)) (f : FuncId) (args : List Value) : Option Value := aCallK P orcK (fun _ => false) 1000 60 0 f args ⟨0, []⟩ fin
theorem ask_calls {P : Program} (hm : P.follows .mixedOrders = true) (hng : ∀ (f : Nat) fn, P.funcs[f]? = some fn → (fn.name == "runtime.NumGoroutine") = false) {orc : FuncId → Option (List Value → Option Value)} (horc : OrcOK P orc)
    {orcK : FuncId → Option (List Value → (Value → Option Value) → Option Value)} (ho : OrcLe orc orcK) {f : FuncId} {args : List Value} {v : Value} (ha : args.all (gnd 8) = true) (h : askK P orcK f args = some v) (w : World) :
    Calls P f ⟨args⟩ w fun e w' => e = .returned v ∧ Below w.heap.size w w' := by
  have := aCallK_le (P := P) (wr := fun _ => false) (lf := 1000) ho 60 0 f args ⟨0, []⟩ fin fin (fun v st => Le.refl _) v h
  obtain ⟨⟨u, st'⟩, h1, h2⟩ := Option.bind_eq_some_iff.mp this
  unfold fin at h2
  simp only at h2
  split at h2
  · rename_i hg
    simp only [Option.some.injEq] at h2
    subst h2
    exact run_calls hm hng horc ha hg h1 w
  · simp at h2
end Go.Proofs.Yticbhgjenidjlaa.Ab
namespace Go.Proofs.Yticbhgjenidjlaa.Ab
open Go Go.RowKit
set_option linter.unusedVariables false
def asB1 : Value → Option Bool
  | .bool b => some b
  | _ => none
theorem i64_wrap (x : Int) : IntKind.i64.wrap x = wrap64 x := by rw [IntKind.wrap_i64]; first | rfl | (unfold wrap64; rfl)
section
variable {R : Type}
def popN (k : IntKind) (l : List Value) (c : Int → List Value → Option R) : Option R := match l with
  | .int k' n :: r => match decide (k' = k) with
    | true => c n r
    | false => none
  | _ => none
def popB (l : List Value) (c : Bool → List Value → Option R) : Option R := match l with
  | .bool b :: r => c b r
  | _ => none
def nil1 (l : List Value) (x : Option R) : Option R := match l with
  | [] => x
  | _ => none
theorem popB_some {l : List Value} {c : Bool → List Value → Option R} {x : R} (h : popB l c = some x) : ∃ n r, l = .bool n :: r ∧ c n r = some x := by
  unfold popB at h
  split at h
  · exact ⟨_, _, rfl, h⟩
  · simp at h
theorem nil1_some {l : List Value} {y : Option R} {x : R} (h : nil1 l y = some x) : l = [] ∧ y = some x := by
  unfold nil1 at h
  split at h
  · exact ⟨rfl, h⟩
  · simp at h
variable {S : Type} {e : S → Option R} {l : List Value}
theorem nil1_le {x : Option R} {y : Option S} (h : Le x (y.bind e)) : Le (nil1 l x) ((nil1 l y).bind e) := by
  unfold nil1
  split
  · exact h
  · exact Le.none _
theorem bind_le {Q : Type} (x : Option Q) (f : Q → S) (e : S → Option R) : Le (x.bind fun r => e (f r)) ((x.bind fun r => some (f r)).bind e) := by
  cases x with
  | none => exact Le.none _
  | some r => exact Le.refl _
end
end Go.Proofs.Yticbhgjenidjlaa.Ab
