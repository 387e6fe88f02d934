-- cut down, squeezed and laid together by pack.py (a program of this repository) out of this seat's texts
import Derived.Orders
import Derived.Below
import Derived.KernelRfl
import Derived.Laws.Append
import Derived.RangeFuncLeaves
import Derived.OrdersIn
import Derived.TacticsIn
import Derived.Laws.AppendOwn
import Derived.Laws.CopyRow
import Derived.Laws.MakeOwn
import Derived.Laws.StructEq
import Derived.RangeFuncRecord
import Derived.Tactics
namespace Go.Proofs.Ytiaiecfnpompcaa.Ab
open Go

inductive Tr where
 | nil
 | node (l : Tr) (v : Value) (r : Tr)
inductive Ex where
 | normal
 | exit (id : Nat)
 | ret
structure LoopR where
 state : LoopState
 pend : Option Ex
 nt : Nat
 t : Tr
 ps : List Tmp
 asg : Code
 body : Code
inductive Blk where
 | c (cs : List Value)
 | m (es : List MapEntry) (clock : Nat)
 | it (mp : Nat) (since : Nat) (seen : List Nat) (last : Nat)
 | lp (r : LoopR)
 | df
abbrev Mem := List (Nat × Blk)
structure St where
 next : Nat
 mem : Mem

def Xr : Mem → Nat → Option Blk
 | [], _ => none
 | (i, cs) :: m, k => match Nat.beq i k with
  | true => some cs
  | false => Xr m k
def Jt (m : Mem) (k : Nat) : Option (List Value) := match Xr m k with
 | some (.c cs) => some cs
 | _ => none
def Xap : Mem → Nat → Mem
 | [], _ => []
 | (i, cs) :: m, k => match Nat.beq i k with
  | true => Xap m k
  | false => (i, cs) :: Xap m k
def XcU (b : Nat) : Mem → Mem
 | [] => []
 | (i, cs) :: m => match Nat.ble b i with
  | true => (i, cs) :: XcU b m
  | false => XcU b m

def Xcc (b : Nat) : Mem → Mem
 | [] => []
 | (i, cs) :: m => match Nat.ble b i with
  | true => Xcc b m
  | false => (i, cs) :: Xcc b m

def gnd : Nat → Value → Bool
 | _ + 1, .bool _ => true
 | _ + 1, .int _ _ => true
 | _ + 1, .float _ _ => true
 | _ + 1, .complex _ _ _ => true
 | _ + 1, .string _ => true
 | _ + 1, .nilFunc => true
 | _ + 1, .nilIface => true
 | _ + 1, .pointer none => true
 | _ + 1, .map none => true
 | _ + 1, .slice none 0 0 => true
 | n + 1, .agg ⟨xs⟩ => xs.all (gnd n)
 | n + 1, .tuple ⟨xs⟩ => xs.all (gnd n)
 | n + 1, .iface _ v => gnd n v
 | n + 1, .func (.func _) ⟨fs⟩ ⟨cs⟩ => fs.all (gnd n) && cs.all (gnd n)
 | _, _ => false

def Xbw (P : Program) {α : Type} : Sem α → Option α
 | .pure a => some a
 | .program k => Xbw P (k P)
 | .mark _ k => Xbw P k
 | _ => none

def isCell : Value → Bool
 | .agg _ => false
 | .tuple _ => false
 | _ => true

def szOf (P : Program) (t : TypeId) : Option Nat := (P.info? t).map (·.size)
def aggT (P : Program) (t : TypeId) : Option Bool :=
 match P.underlying t with
 | some (.struct _) => some true
 | some (.array _ _) => some true
 | some _ => some false
 | none => none
def Xbr (P : Program) (t : TypeId) : Option Value :=
 match (P.info? t).bind (·.zero) with
 | some z => match gnd 8 z with
  | true => some z
  | false => none
 | none => none

def cut (cs : List Value) (off n : Nat) : Option (List Value) :=
 match Nat.ble (off + n) cs.length with
 | true => some ((cs.drop off).take n)
 | false => none
def paste (cs : List Value) (off : Nat) (vs : List Value) : List Value := cs.take off ++ (vs ++ cs.drop (off + vs.length))

def Xdb (P : Program) (t : TypeId) (cs : List Value) (off : Nat) : Option Value :=
 match aggT P t with
 | some true => match szOf P t with
  | some n => (cut cs off n).map fun l => .agg ⟨l⟩
  | none => none
 | some false => cs[off]?
 | none => none

def XfA (P : Program) (t : TypeId) (cs : List Value) (off : Nat) (v : Value) : Option (List Value) :=
 match szOf P t with
 | some n => match (Nat.beq v.cells.toList.length n && Nat.ble (off + n) cs.length && v.cells.toList.all isCell && Nat.blt 0 n) with
  | true => some (paste cs off v.cells.toList)
  | false => none
 | none => none

def put (m : Mem) (b : Nat) (k : Blk) : Mem := (b, k) :: Xap m b
def fresh (st : St) (cs : List Value) : St := ⟨st.next + 1, (st.next, .c cs) :: st.mem⟩

def Jh (P : Program) (ev : Operand → Value) (o : Oper) (st : St) : Option (Value × St) :=
 match o.op.operands.toList.all (fun x => gnd 8 (ev x)) with
 | true => match Xbw P (execOp ev o) with
  | some (.value v) => match gnd 8 v with
   | true => some (v, st)
   | false => none
  | _ => none
 | false => none

def XaG (P : Program) (t : TypeId) (len : Nat) (parts : List (Nat × Value)) (st : St) : Option (Value × St) :=
 match P.underlying t with
 | some (.slice elem) => match szOf P elem, Xbr P elem with
  | some size, some z =>
   match (Nat.ble (len * size) 65536 && Nat.beq z.cells.toList.length size && z.cells.toList.all isCell) with
   | true => match Instr.fill (fun i => some (i * size, size)) ((Array.range (len * size)).map (z.cells[· % z.cells.size]!)) parts with
    | some cells => some (.slice (some ⟨st.next, 0, none⟩) len size, fresh st cells.toList)
    | none => none
   | false => none
  | _, _ => none
 | _ => none

def XfB (P : Program) (t : TypeId) (x : Value) (lo hi : Option Value) (st : St) : Option (Value × St) :=
 match (match lo with | none => some 0 | some (.int _ (.ofNat l)) => some l | _ => none) with
 | none => none
 | some l =>
 match P.underlying t, x with
 | some (.slice elem), .slice (some ⟨b, off, none⟩) n sz =>
  match szOf P elem with
  | some size =>
   match (match hi with | none => some n | some (.int _ (.ofNat h)) => some h | _ => none) with
   | some h => match (Nat.beq sz size && Nat.ble l h && Nat.ble h n) with
    | true => match (Nat.beq l 0 || Nat.blt l h) with
     | true => some (.slice (some ⟨b, off + l * size, none⟩) (h - l) size, st)
     | false => some (.slice (some ⟨st.next, 0, none⟩) 0 size, ⟨st.next + 1, st.mem⟩)
    | false => none
   | none => none
  | none => none
 | some (.array n elem), .pointer (some ⟨b, off, none⟩) =>
  match szOf P elem with
  | some size =>
   match (match hi with | none => some n | some (.int _ (.ofNat h)) => some h | _ => none) with
   | some h => match (Nat.ble l h && Nat.ble h n && (Nat.beq l 0 || Nat.blt l n) && Nat.blt 0 (n * size)), (Jt st.mem b).bind fun cs => cut cs off (n * size) with
    | true, some _ => some (.slice (some ⟨b, off + l * size, none⟩) (h - l) size, st)
    | _, _ => none
   | none => none
  | none => none
 | _, _ => none

def J0 (P : Program) : List Field → Option (List (Nat × Nat))
 | [] => some []
 | f :: fs => match szOf P f.type, J0 P fs with
  | some n, some l => some ((f.offset, n) :: l)
  | _, _ => none
def Xd9 (P : Program) (t : TypeId) (parts : List (Nat × Value)) (st : St) : Option (Value × St) :=
 match P.underlying t, Xbr P t with
 | some (.struct fs), some z => match J0 P fs.toList with
  | some pl => match Instr.fill (fun i => pl[i]?) z.cells parts with
   | some cells => some (.agg ⟨cells.toList⟩, st)
   | none => none
  | none => none
 | some (.array _ elem), some z => match szOf P elem with
  | some size => match Instr.fill (fun i => some (i * size, size)) z.cells parts with
   | some cells => some (.agg ⟨cells.toList⟩, st)
   | none => none
  | none => none
 | _, _ => none
def Xd8 (P : Program) (t : TypeId) (x : Value) (f : Nat) (st : St) : Option (Value × St) :=
 match P.underlying t, x with
 | some (.struct fs), .agg ⟨cs⟩ => match fs[f]? with
  | some fl => match Xdb P fl.type cs fl.offset with
   | some v => some (v, st)
   | none => none
  | none => none
 | _, _ => none
def Xb1 (a b : Option (Value × St)) : Option (Value × St) := match a with
 | some p => some p
 | none => b
def Y5 (m : Mem) (size : Nat) : Value → Option (Nat × List Value)
 | .slice none 0 0 => some (0, [])
 | .slice (some ⟨b, off, none⟩) n sz => match Nat.beq sz size with
  | true => match Jt m b with
   | some cs => (cut cs off (n * size)).map fun l => (n, l)
   | none => none
  | false => none
 | _ => none

def Xem (P : Program) (ro : Nat) (ts : List TypeId) (args : List Value) (st : St) : Option (Value × St) :=
 match ts, args with
 | [t0, t1], [s, x] =>
  match P.underlying t0, P.underlying t1 with
  | some (.slice elem), some (.slice _) =>
   match szOf P elem, Xbr P elem, (P.info? elem).map (·.bytes) with
   | some size, some z, some bytes =>
    match Y5 st.mem size s, Y5 st.mem size x with
    | some (n, old), some (m, new) =>
     match (Nat.ble ((4 * (n + m) + 4096) * bytes) 281474976710656 && Nat.ble (n + m) 1000000000000 && Nat.beq z.cells.toList.length size && z.cells.toList.all isCell && new.all isCell && Nat.blt 0 size) with
     | true =>
      match s with
      | .slice none _ _ => match Nat.beq m 0 with
       | true => some (.slice none 0 0, st)
       | false => some (.slice (some ⟨st.next, 0, none⟩) (n + m) size, fresh st (old ++ new))
      | .slice (some ⟨b, _, _⟩) _ _ => match Nat.ble ro b with
       | true => some (.slice (some ⟨st.next, 0, none⟩) (n + m) size, ⟨st.next + 1, (st.next, .c (old ++ new)) :: Xap st.mem b⟩)
       | false => none
      | _ => none
     | false => none
    | _, _ => none
   | _, _, _ => none
  | _, _ => none
 | _, _ => none

def Xbq (P : Program) (t : TypeId) (l c : Value) (st : St) : Option (Value × St) :=
 match P.underlying t, l, c with
 | some (.slice elem), .int _ (.ofNat n), .int _ (.ofNat k) =>
  match szOf P elem, Xbr P elem, (P.info? elem).map (·.bytes) with
  | some size, some z, some bytes =>
   match (Nat.ble n k && Nat.ble (bytes * k) 281474976710656 && Nat.ble k 65536 && Nat.beq z.cells.toList.length size && z.cells.toList.all isCell) with
   | true => some (.slice (some ⟨st.next, 0, none⟩) n size, fresh st ((Array.range (k * size)).map (z.cells[· % z.cells.size]!)).toList)
   | false => none
  | _, _, _ => none
 | _, _, _ => none

def fl {α β : Type} : List α → (List α → β) → β
 | [], k => k []
 | x :: xs, k => fl xs fun ys => k (x :: ys)

abbrev Ans := Option (Value × St)
def XfH (c a b : Value) (st : St) : Ans :=
 match c with
 | .bool true => some (a, st)
 | .bool false => some (b, st)
 | _ => none
def Xbz (x : Value) (ix : Nat) (st : St) : Ans :=
 match x with
 | .tuple ⟨vs⟩ => match vs[ix]? with
  | some v => some (v, st)
  | none => none
 | _ => none
def Xfj (P : Program) (t : TypeId) (st : St) : Ans :=
 match Xbr P t with
 | some z => some (.pointer (some ⟨st.next, 0, none⟩), fresh st z.cells.toList)
 | none => none
def oBox (x : Value) (st : St) : Ans := some (.pointer (some ⟨st.next, 0, none⟩), fresh st x.cells.toList)
def XeF (P : Program) (t : TypeId) (a : Value) (st : St) : Ans :=
 match a with
 | .pointer (some ⟨b, off, none⟩) => match Jt st.mem b with
  | some cs => match Xdb P t cs off with
   | some v => some (v, st)
   | none => none
  | none => none
 | _ => none
def Xd4 (P : Program) (ro : Nat) (t : TypeId) (a x : Value) (st : St) : Ans :=
 match a with
 | .pointer (some ⟨b, off, none⟩) => match Nat.ble ro b, Jt st.mem b with
  | true, some cs => match XfA P t cs off x with
   | some cs' => fl cs' fun cs' => some (undef, ⟨st.next, put st.mem b (.c cs')⟩)
   | none => none
  | _, _ => none
 | _ => none
def J9 (P : Program) (s : TypeId) (x : Value) (f : Nat) (st : St) : Ans :=
 match x with
 | .pointer (some ⟨b, off, none⟩) => match P.underlying s with
  | some (.struct fs) => match fs[f]? with
   | some fl => match szOf P fl.type with
    | some n => match Nat.blt 0 n with
     | true => some (.pointer (some ⟨b, off + fl.offset, none⟩), st)
     | false => none
    | none => none
   | none => none
  | _ => none
 | _ => none
def J8 (P : Program) (t : TypeId) (x ix : Value) (st : St) : Ans :=
 match ix with
 | .int _ (.ofNat i) => match x with
  | .pointer (some ⟨b, off, none⟩) => match P.underlying t with
   | some (.array len elem) => match szOf P elem, Nat.blt i len with
    | some size, true => some (.pointer (some ⟨b, off + i * size, none⟩), st)
    | _, _ => none
   | _ => none
  | .slice (some ⟨b, off, none⟩) len sz => match P.underlying t with
   | some (.slice elem) => match szOf P elem with
    | some size => match Nat.blt i len && Nat.beq sz size with
     | true => some (.pointer (some ⟨b, off + i * size, none⟩), st)
     | false => none
    | none => none
   | _ => none
  | _ => none
 | _ => none
def XaR (x : Value) (st : St) : Ans :=
 match x with
 | .pointer (some a) => some (.pointer (some a), st)
 | .func (.func f) a b => some (.func (.func f) a b, st)
 | _ => none
def oLen (P : Program) (ev : Operand → Value) (o : Oper) (args : List Value) (ts : List TypeId) (st : St) : Ans :=
 match args, ts with
 | [.slice (some ⟨_, _, none⟩) n _], [t] => match P.underlying t with
  | some (.slice _) => some (.int .i64 n, st)
  | _ => none
 | [.map (some b)], [t] => match P.underlying t, Xr st.mem b with
  | some (.map _ _), some (.m es _) => some (.int .i64 es.length, st)
  | _, _ => none
 | _, _ => Jh P ev o st
def Xhf : BinOp → IntKind → Int → Int → Option Value
 | .add, k, a, b => some (.int k (k.wrap (a + b)))
 | .sub, k, a, b => some (.int k (k.wrap (a - b)))
 | .mul, k, a, b => some (.int k (k.wrap (a * b)))
 | .lss, _, a, b => some (.bool (decide (a < b)))
 | .leq, _, a, b => some (.bool (decide (a ≤ b)))
 | .gtr, _, a, b => some (.bool (decide (a > b)))
 | .geq, _, a, b => some (.bool (decide (a ≥ b)))
 | .eql, _, a, b => some (.bool (a == b))
 | .neq, _, a, b => some (.bool (a != b))
 | _, _, _, _ => none
def JR (P : Program) : List Field → Option (List (Nat × Bool))
 | [] => some []
 | f :: fs => match f.name == "_", P.underlying f.type, JR P fs with
  | false, some (.int _), some l => some ((f.offset, true) :: l)
  | false, some .bool, some l => some ((f.offset, false) :: l)
  | _, _, _ => none
def Jp (P : Program) (t : TypeId) : Option (List (Nat × Bool)) :=
 match P.underlying t with
 | some (.struct fs) => match P.stoodInHeld t, P.eqGuardType P.depth t with
  | false, false => JR P fs.toList
  | _, _ => none
 | _ => none
def Xbm (k : Bool) (x y : Option Value) : Option Bool :=
 match k, x, y with
 | true, some (.int k a), some (.int k' b) => match decide (k = k') with
  | true => some (a == b)
  | false => none
 | false, some (.bool a), some (.bool b) => some (a == b)
 | _, _, _ => none
def YK : List (Nat × Bool) → List Value → List Value → Option Bool
 | [], _, _ => some true
 | (o, k) :: l, xs, ys => match Xbm k xs[o]? ys[o]?, YK l xs ys with
  | some a, some b => match l with
   | [] => some a
   | _ :: _ => some (a && b)
  | _, _ => none
def Xbc (P : Program) (t : TypeId) (x y : Value) : Bool :=
 match P.underlying t, x, y with
 | some (.slice _), .slice (some _) _ _, .slice none 0 0 => true
 | some (.pointer _), .pointer (some _), .pointer none => true
 | some (.map _ _), .map (some _), .map none => true
 | some (.func _ _ _), .func (.func _) _ _, .nilFunc => true
 | _, _, _ => false
def oBin (P : Program) (ev : Operand → Value) (o : Oper) (op : BinOp) (t : TypeId) (x y : Value) (st : St) : Ans :=
 match x, y with
 | .int k a, .int k' b => match decide (k = k'), Xhf op k a b with
  | true, some v => some (v, st)
  | _, _ => Jh P ev o st
 | .agg ⟨xs⟩, .agg ⟨ys⟩ => match op, (Jp P t).bind fun l => YK l xs ys with
  | .eql, some b => some (.bool b, st)
  | .neq, some b => some (.bool (!b), st)
  | _, _ => Jh P ev o st
 | x, y => match Xbc P t x y, op with
  | true, .eql => some (.bool false, st)
  | true, .neq => some (.bool true, st)
  | _, _ => Jh P ev o st

inductive Tgt where
 | fn (f : FuncId)
 | yld (l : Nat)
def Xfi (call : Nat → Tgt → List Value → St → Ans) (ro : Nat) (f : Value) (args : List Value) (st : St) : Ans :=
 match f with
 | .func (.func g) ⟨first⟩ ⟨captured⟩ => fl (first ++ args ++ captured) fun l => call ro (.fn g) l st
 | .func (.yield l) ⟨[]⟩ ⟨[]⟩ => fl args fun xs => call ro (.yld l) xs st
 | _ => none
def Xg8 (P : Program) (call : Nat → Tgt → List Value → St → Ans) (ro : Nat) (ev : Operand → Value) (o : Oper) (c : Call) (st : St) : Ans :=
 match c.callee with
 | .value f => Xfi call ro (ev f) (c.args.toList.map ev) st
 | .builtin .append => Xem P ro c.argTypes.toList (c.args.toList.map ev) st
 | .builtin .len => oLen P ev o (c.args.toList.map ev) c.argTypes.toList st
 | .builtin _ => Jh P ev o st
 | .invoke _ _ => none

def XeN (P : Program) (t : TypeId) : Option (TypeId × TypeId) := match P.underlying t with
 | some (.map k e) => some (k, e)
 | _ => none
def Xb6 (m : Mem) : Value → Option (List MapEntry)
 | .map none => some []
 | .map (some b) => match Xr m b with
  | some (.m es _) => some es
  | _ => none
 | _ => none
def J4 (l : List (Nat × Bool)) (ks : List Value) : List MapEntry → Nat → Option (Option (Nat × Value))
 | [], _ => some none
 | e :: es, i => match e.key with
  | .agg ⟨ys⟩ => match YK l ks ys with
   | some true => some (some (i, e.val))
   | some false => J4 l ks es (i + 1)
   | none => none
  | _ => none
def XeT (P : Program) (empty : Bool) (kt : TypeId) (key : Value) (es : List MapEntry) : Option (Option (Nat × Value)) :=
 match Jp P kt, key with
 | some l, .agg ⟨ks⟩ => match YK l ks ks with
  | some _ => J4 l ks es 0
  | none => none
 | _, _ => match Xbw P (Instr.checkKey empty 10000 kt key) with
  | some _ => Xbw P (Instr.findKey kt key es)
  | none => none
def Xd7 (P : Program) (t : TypeId) (x key : Value) (commaOk : Bool) (st : St) : Ans :=
 match XeN P t, gnd 8 key, Xb6 st.mem x with
 | some (kt, el), true, some es => match XeT P es.isEmpty kt key es with
  | some (some (_, v)) => match gnd 8 v with
   | true => some (match commaOk with | true => .tuple ⟨[v, .bool true]⟩ | false => v, st)
   | false => none
  | some none => match Xbr P el with
   | some z => some (match commaOk with | true => .tuple ⟨[z, .bool false]⟩ | false => z, st)
   | none => none
  | none => none
 | _, _, _ => none
def J7 (P : Program) (ro : Nat) (t : TypeId) (x key v : Value) (st : St) : Ans :=
 match XeN P t, gnd 8 key && gnd 8 v, x with
 | some (kt, _), true, .map (some b) => match Nat.ble ro b, Xr st.mem b with
  | true, some (.m es clock) => match XeT P false kt key es with
   | some (some (i, _)) => match Xbw P (Instr.keyThatStays (((es[i]?).map (·.key)).getD key) key) with
    | some k => some (undef, ⟨st.next, put st.mem b (.m (es.modify i fun e => { e with key := k, val := v }) clock)⟩)
    | none => none
   | some none => some (undef, ⟨st.next, put st.mem b (.m (es ++ [{ key, val := v, born := clock }]) (clock + 1))⟩)
   | none => none
  | _, _ => none
 | _, _, _ => none
def XcI (r : Option Operand) (st : St) : Ans :=
 match r with
 | none => some (.map (some st.next), ⟨st.next + 1, (st.next, .m [] 0) :: st.mem⟩)
 | some _ => none
def Xff (P : Program) (t : TypeId) (x : Value) (st : St) : Ans :=
 match XeN P t, x with
 | some _, .map (some b) => match Xr st.mem b with
  | some (.m _ clock) => some (.pointer (some ⟨st.next, 0, none⟩), ⟨st.next + 1, (st.next, .it b clock [] clock) :: st.mem⟩)
  | _ => none
 | _, _ => none
def Xfh (x : Value) (st : St) : Ans :=
 match x with
 | .pointer (some ⟨r, 0, none⟩) => match Xr st.mem r with
  | some (.it b _ seen stepped) => match Xr st.mem b with
   | some (.m es clock) => match Nat.beq clock stepped, seen.getLast? with
    | true, some stamp => match es.find? (·.born == stamp) with
     | some e => match gnd 8 e.key && gnd 8 e.val with
      | true => some (.tuple ⟨[e.key, e.val]⟩, st)
      | false => none
     | none => none
    | _, _ => none
   | _ => none
  | _ => none
 | _ => none
def Y7 (es : List MapEntry) (since : Nat) (seen : List Nat) : List (Option MapEntry) :=
 let left := es.filter fun e => !seen.contains e.born
 let old := left.filter (·.born < since)
 let new := left.filter (·.born ≥ since)
 (if old.isEmpty then [none] else []) ++ (old ++ new).map some
def Xd6 (ro : Nat) (x : Value) (isS : Bool) (st : St) : Option (List (Value × St)) :=
 match x, isS with
 | .pointer (some ⟨r, 0, none⟩), false => match Nat.ble ro r, Xr st.mem r with
  | true, some (.it b since seen last) => match Xr st.mem b with
   | some (.m es clock) => match !seen.isEmpty && !es.isEmpty && es.all (·.born ≥ last) with
    | true => none
    | false => match es.all (fun e => gnd 8 e.key && gnd 8 e.val) with
     | true => some ((Y7 es since seen).map fun c => match c with
      | some e => (.tuple ⟨[.bool true, e.key, e.val]⟩, ⟨st.next, put st.mem r (.it b since (seen ++ [e.born]) clock)⟩)
      | none => (.tuple ⟨[.bool false]⟩, st))
     | false => none
   | _ => none
  | _, _ => none
 | _, _ => none

def aOp (P : Program) (call : Nat → Tgt → List Value → St → Ans) (ro : Nat) (ev : Operand → Value) (o : Oper) (st : St) : Ans :=
 match o.op with
 | .move x => some (ev x, st)
 | .assign x => some (ev x, st)
 | .pick c a b => XfH (ev c) (ev a) (ev b) st
 | .extract t ix => Xbz (ev t) ix st
 | .alloc t => Xfj P t st
 | .box _ x => oBox (ev x) st
 | .load t a => XeF P t (ev a) st
 | .store t a x => Xd4 P ro t (ev a) (ev x) st
 | .buildSlice t len parts => XaG P t len (parts.toList.map fun p => (p.1, ev p.2)) st
 | .fieldAddr s x f => J9 P s (ev x) f st
 | .indexAddr t x ix => J8 P t (ev x) (ev ix) st
 | .slice t x lo hi mx => match mx with
  | none => XfB P t (ev x) (lo.map ev) (hi.map ev) st
  | some _ => none
 | .makeSlice t l c => Xbq P t (ev l) (ev c) st
 | .makeFunc fn first captured => match fn with
  | .func f => some (.func (.func f) (first.map ev) (captured.map ev), st)
  | _ => none
 | .nilCheck x => XaR (ev x) st
 | .binOp op t x y _ => oBin P ev o op t (ev x) (ev y) st
 | .call c => Xg8 P call ro ev o c st
 | .lookup t x k ok => Xd7 P t (ev x) (ev k) ok st
 | .mapUpdate t x k v => J7 P ro t (ev x) (ev k) (ev v) st
 | .makeMap _ r => XcI r st
 | .range t x => Xff P t (ev x) st
 | .entry x => Xfh (ev x) st
 | .unOp _ _ _ => Jh P ev o st
 | .convert _ _ _ => Jh P ev o st
 | .field t x f => Xb1 (Jh P ev o st) (Xd8 P t (ev x) f st)
 | .index _ _ _ => Jh P ev o st
 | .build t parts => Xb1 (Jh P ev o st) (Xd9 P t (parts.toList.map fun p => (p.1, ev p.2)) st)
 | _ => none

noncomputable def getT (k : Nat) : Tr → Nat → Value :=
 Nat.rec (motive := fun _ => Tr → Nat → Value) (fun _ _ => undef)
  (fun _ ih t n => Tr.casesOn (motive := fun _ => Value) t undef fun l x r =>
   Nat.casesOn (motive := fun _ => Value) n x fun m => Nat.casesOn (motive := fun _ => Value) (Nat.mod m 2) (ih l (Nat.div m 2)) fun _ => ih r (Nat.div m 2)) k
noncomputable def putT (k : Nat) : Tr → Nat → Value → Tr :=
 Nat.rec (motive := fun _ => Tr → Nat → Value → Tr) (fun t _ _ => t)
  (fun _ ih t n v => Tr.casesOn (motive := fun _ => Tr) t
   (Nat.casesOn (motive := fun _ => Tr) n (.node .nil v .nil) fun m => Nat.casesOn (motive := fun _ => Tr) (Nat.mod m 2) (.node (ih .nil (Nat.div m 2) v) undef .nil) fun _ => .node .nil undef (ih .nil (Nat.div m 2) v))
   fun l x r => Nat.casesOn (motive := fun _ => Tr) n (.node l v r) fun m => Nat.casesOn (motive := fun _ => Tr) (Nat.mod m 2) (.node (ih l (Nat.div m 2) v) x r) fun _ => .node l x (ih r (Nat.div m 2) v)) k
noncomputable def evl (t : Tr) : Operand → Value
 | .tmp i => getT 12 t i
 | .const v => v
 | .global _ => undef
 | .func f => .func (.func f) #[] #[]
def YU (n : Nat) : Operand → Bool
 | .global _ => false
 | .tmp i => Nat.blt i n
 | .const v => gnd 8 v
 | _ => true
noncomputable def setT (t : Tr) : Option Tmp → Value → Tr
 | some d, v => putT 12 t d v
 | none, _ => t
noncomputable def XfT (l : List Value) : Nat → Tr → Tr :=
 List.rec (motive := fun _ => Nat → Tr → Tr) (fun _ t => t) (fun v _ ih i t => ih (i + 1) (putT 12 t i v)) l
noncomputable def Yu (ops : Array Oper) (t : Tr) (o : Oper) : Bool :=
 match o.guard with
 | none => true
 | some (j, want) => match (ops[j]?).bind (·.dst) with
  | some d => match getT 12 t d with
   | .bool b => b == want
   | _ => false
  | none => false

section
variable (P : Program) (call : Nat → Tgt → List Value → St → Option (Value × St)) (wr : FuncId → Bool)

def XeD (n : Nat) (ops : Array Oper) : Bool := ops.toList.all fun o => (match o.dst with | some d => Nat.blt d n | none => true) && o.op.operands.toList.all (YU n)

def Xcp {α β : Type} (l : List α) (f : α → Option (List β)) : Option (List β) :=
 match l with
 | [] => some []
 | x :: xs => match f x, Xcp xs f with
  | some a, some b => some (a ++ b)
  | _, _ => none
noncomputable def aOps (ro : Nat) (ops : Array Oper) (l : List Oper) : Tr → St → Option (List (Tr × St)) :=
 List.rec (motive := fun _ => Tr → St → Option (List (Tr × St))) (fun t st => some [(t, st)])
  (fun o _ ih t st => match Yu ops t o with
   | true => match o.op with
    | .next x isS => match Xd6 ro (evl t x) isS st with
     | some l => Xcp l fun p => ih (setT t o.dst p.1) p.2
     | none => none
    | _ => match aOp P call ro (evl t) o st with
     | some (v, st') => ih (setT t o.dst v) st'
     | none => none
   | false => ih (setT t o.dst undef) st) l

def Xbe (ms : List Nat) (i : Nat) : List Edge → Option Nat
 | [] => some 0
 | e :: es => match Region.binds .any e with
  | true => match Nat.blt e.on i, ms[e.on]?, Xbe ms i es with
   | true, some r, some m => some (Nat.lor (Nat.lor (2 ^ e.on) r) m)
   | _, _, _ => none
  | false => Xbe ms i es

def XaC (ops : Array Oper) (o : Oper) (mask : Nat) : Nat → Nat → List Oper → Bool
 | _, 0, _ => true
 | _, _, [] => true
 | j, n + 1, q :: qs => (mask.testBit j || q.apart ops o) && XaC ops o mask (j + 1) n qs
def plan (ops : Array Oper) : List Oper → Nat → List Nat → Option (List Nat)
 | [], _, ms => some ms
 | o :: rest, i, ms => match Xbe ms i o.after.toList with
  | some mask => match XaC ops o mask 0 i ops.toList with
   | true => plan ops rest (i + 1) (ms ++ [mask])
   | false => none
  | none => none

def still : Op → Bool
 | .move _ => true
 | .assign _ => true
 | .pick _ _ _ => true
 | .extract _ _ => true
 | .fieldAddr _ _ _ => true
 | .indexAddr _ _ _ => true
 | .makeFunc _ _ _ => true
 | .nilCheck _ => true
 | .binOp .. => true
 | .unOp .. => true
 | .convert .. => true
 | .field .. => true
 | .index .. => true
 | .build .. => true
 | .call { callee := .builtin .len, .. } => true
 | .call { callee := .builtin .min, .. } => true
 | .call { callee := .builtin .max, .. } => true
 | _ => false

def Xao (m0 : Mem) (mask : Nat) : Nat → List Mem → Mem
 | _, [] => m0
 | i, r :: rs => match r with
  | [] => Xao m0 mask (i + 1) rs
  | _ => match mask.testBit i with
   | true => r ++ Xao m0 mask (i + 1) rs
   | false => Xao m0 mask (i + 1) rs
def JW (m0 : Mem) : List Mem → Mem
 | [] => m0
 | r :: rs => r ++ JW m0 rs
def absent (b : Nat) : List Mem → Bool
 | [] => true
 | r :: rs => match Xr r b with
  | none => absent b rs
  | some _ => false
def spared (ns : List Mem) : Option Nat → Option Nat → Bool
 | some b, some k => match Nat.beq b k with
  | true => false
  | false => absent b ns
 | _, _ => false
def Xhi : List (Option Nat) → Option Nat
 | [] => none
 | q :: _ => q
def louds (mask : Nat) (w : Option Nat) (ns : List Mem) : Nat → Nat → List Oper → List (Option Nat) → Bool
 | _, 0, _, _ => true
 | _, _, [], _ => true
 | j, n + 1, r :: rs, q => (mask.testBit j || still r.op || spared ns (Xhi q) w) && louds mask w ns (j + 1) n rs q.tail
def XaI (ev : Operand → Value) (o : Oper) : Option Nat :=
 match o.op with
 | .store _ a _ => match ev a with
  | .pointer (some ⟨b, _, none⟩) => some b
  | _ => none
 | .mapUpdate _ x _ _ => match ev x with
  | .map (some b) => some b
  | _ => none
 | _ => none
def XbI (ev : Operand → Value) (o : Oper) (ns : List Mem) (v : Value) : Option Nat :=
 match o.op with
 | .load _ a => match ev a with
  | .pointer (some ⟨b, _, none⟩) => match gnd 8 v && absent b ns with
   | true => some b
   | false => none
  | _ => none
 | _ => none

structure DS where
 t : Tr
 next : Nat
 ns : List Mem
 base : Mem
 last : Option Nat
 rd : List (Option Nat)
def DS.loud (s : DS) (t : Tr) (q : Option Nat) (st' : St) : DS :=
 match q with
 | some b => ⟨t, s.next, s.ns ++ [[]], s.base, s.last, s.rd ++ [some b]⟩
 | none => ⟨t, st'.next, s.ns ++ [XcU s.next st'.mem], s.base, s.last, s.rd ++ [none]⟩
def blank : List Mem → List Mem
 | [] => []
 | _ :: rs => [] :: blank rs
def behind (mask : Nat) : Option Nat → Bool
 | none => true
 | some k => mask.testBit k
def acts (ev : Operand → Value) (o : Oper) : Bool :=
 match o.op with
 | .store _ _ _ => true
 | .mapUpdate _ _ _ _ => true
 | .call c => match c.callee with
  | .value f => match ev f with
   | .func (.func g) _ _ => wr g
   | .func (.yield _) _ _ => true
   | _ => false
  | .builtin .append => true
  | _ => false
 | _ => false
noncomputable def dstep (ro : Nat) (ops : Array Oper) (o : Oper) (mask i : Nat) (s : DS) : Option (Value × DS) :=
 match Yu ops s.t o with
 | true => match still o.op with
  | true => match aOp P call s.next (evl s.t) o ⟨s.next, []⟩ with
   | some (v, _) => some (v, ⟨setT s.t o.dst v, s.next, s.ns ++ [[]], s.base, s.last, s.rd ++ [none]⟩)
   | none => none
  | false => match acts wr (evl s.t) o with
   | false => match behind mask s.last with
    | true => match aOp P call s.next (evl s.t) o ⟨s.next, Xao s.base mask 0 s.ns⟩ with
     | some (v, st') => match Nat.ble s.next st'.next with
      | true => some (v, s.loud (setT s.t o.dst v) (XbI (evl s.t) o s.ns v) st')
      | false => none
     | none => none
    | false => none
   | true => match louds mask (XaI (evl s.t) o) s.ns 0 i ops.toList s.rd with
    | true => match aOp P call ro (evl s.t) o ⟨s.next, JW s.base s.ns⟩ with
     | some (v, st') => match Nat.ble s.next st'.next with
      | true => some (v, ⟨setT s.t o.dst v, st'.next, blank s.ns ++ [[]], st'.mem, some i, s.rd ++ [none]⟩)
      | false => none
     | none => none
    | false => none
 | false => some (undef, ⟨setT s.t o.dst undef, s.next, s.ns ++ [[]], s.base, s.last, s.rd ++ [none]⟩)
noncomputable def Xe2 (ro : Nat) (ops : Array Oper) (l : List (Oper × Nat)) : Nat → DS → Option DS :=
 List.rec (motive := fun _ => Nat → DS → Option DS) (fun _ s => some s)
  (fun o _ ih i s => match dstep P call wr ro ops o.1 o.2 i s with
   | some (_, s') => ih (i + 1) s'
   | none => none) l
def DS.out (s : DS) : St := ⟨s.next, JW s.base s.ns⟩

abbrev Out := Ex × Tr × List Nat × St
noncomputable def XeK (f : Tr → List Nat → St → Option (List Out)) (n : Nat) : Tr → List Nat → St → Option (List Out) :=
 Nat.rec (motive := fun _ => Tr → List Nat → St → Option (List Out)) (fun _ _ _ => none)
  (fun _ ih t ms st => match f t ms st with
   | some os => Xcp os fun o => match o with
    | (.normal, t', ms', st') => ih t' ms' st'
    | r => some [r]
   | none => none) n

def Xeh (rd : Option Nat) (nt : Nat) (t : Tr) (ps : List Tmp) (asg body : Code) (ms : List Nat) (st : St) : Nat × List Nat × St :=
 match rd with
 | some _ => (st.next, ms, ⟨st.next + 1, (st.next, .lp ⟨.ready, none, nt, t, ps, asg, body⟩) :: st.mem⟩)
 | none => (st.next + 1, st.next :: ms, ⟨st.next + 2, (st.next + 1, .lp ⟨.ready, none, nt, t, ps, asg, body⟩) :: (st.next, .df) :: st.mem⟩)
def LoopState.isBusy : LoopState → Bool
 | .busy => true
 | _ => false
def LoopState.isReady : LoopState → Bool
 | .ready => true
 | _ => false
def Xhb (ro l : Nat) (t : Tr) (ms : List Nat) (st : St) : Option (List Out) :=
 match Nat.ble ro l, Xr st.mem l with
 | true, some (.lp r) => match LoopState.isBusy r.state with
  | true => none
  | false => match r.pend with
   | none => some [(.normal, t, ms, ⟨st.next, put st.mem l (.lp { r with state := .exhausted })⟩)]
   | some e => some [(e, t, ms, ⟨st.next, put st.mem l (.lp { r with state := .exhausted })⟩)]
 | _, _ => none
def Xc4 (rd : Option Nat) (m : Mem) : Bool := match rd with
 | none => true
 | some l => match Xr m l with
  | some (.lp _) => true
  | _ => false

noncomputable def YZ (nt lf ro : Nat) (rd : Option Nat) : Code → Tr → List Nat → St → Option (List Out)
 | .skip, t, ms, st => some [(.normal, t, ms, st)]
 | .label _, t, ms, st => some [(.normal, t, ms, st)]
 | .ret, t, ms, st => some [(.ret, t, ms, st)]
 | .exit id, t, ms, st => some [(.exit id, t, ms, st)]
 | .region _ ops d, t, ms, st => match XeD nt ops, d with
  | true, false => match aOps P call ro ops ops.toList t st with
   | some os => some (os.map fun p => (.normal, p.1, ms, p.2))
   | none => none
  | true, true => match plan ops ops.toList 0 [] with
   | some ps => match Xe2 P call wr ro ops (ops.toList.zip ps) 0 ⟨t, st.next, [], st.mem, none, []⟩ with
    | some s => some [(.normal, s.t, ms, s.out)]
    | none => none
   | none => none
  | false, _ => none
 | .seq a b, t, ms, st => match YZ nt lf ro rd a t ms st with
  | some os => Xcp os fun o => match o with
   | (.normal, t', ms', st') => YZ nt lf ro rd b t' ms' st'
   | r => some [r]
  | none => none
 | .cond c a b, t, ms, st => match YU nt c, evl t c with
  | true, .bool true => YZ nt lf ro rd a t ms st
  | true, .bool false => YZ nt lf ro rd b t ms st
  | _, _ => none
 | .block id b, t, ms, st => match YZ nt lf ro rd b t ms st with
  | some os => some (os.map fun o => match o with
   | (.exit j, t', ms', st') => match Nat.beq j id with
    | true => (.normal, t', ms', st')
    | false => (.exit j, t', ms', st')
   | r => r)
  | none => none
 | .loop b, t, ms, st => XeK (YZ nt lf ro rd b) lf t ms st
 | .rangeFunc f ps asg body, t, ms, st => match YU nt f, evl t f, Xc4 rd st.mem with
  | true, .func (.func g) ⟨first⟩ ⟨captured⟩, true =>
   match Xeh rd nt t ps.toList asg body ms st with
   | (l, ms', st') => fl (first ++ [.func (.yield l) ⟨[]⟩ ⟨[]⟩] ++ captured) fun args => match call ro (.fn g) args st' with
    | some (_, st2) => Xhb ro l t ms' st2
    | none => none
  | _, _, _ => none
 | _, _, _, _ => none
end

noncomputable def aRes (P : Program) (nt : Nat) (m : Mem) (t : Tr) : List ResultVar → Option (List Value)
 | [] => some []
 | .tmp i :: rs => match Nat.blt i nt, aRes P nt m t rs with
  | true, some vs => some (getT 12 t i :: vs)
  | _, _ => none
 | .cell a ty :: rs => match Nat.blt a nt, getT 12 t a with
  | true, .pointer (some ⟨b, off, none⟩) => match Jt m b with
   | some cs => match Xdb P ty cs off, aRes P nt m t rs with
    | some v, some vs => some (v :: vs)
    | _, _ => none
   | none => none
  | _, _ => none

def Xch : Nat → Value → List Nat
 | _ + 1, .pointer (some ⟨b, _, _⟩) => [b]
 | _ + 1, .slice (some ⟨b, _, _⟩) _ _ => [b]
 | _ + 1, .map (some b) => [b]
 | n + 1, .agg ⟨xs⟩ => xs.flatMap (Xch n)
 | n + 1, .tuple ⟨xs⟩ => xs.flatMap (Xch n)
 | n + 1, .iface _ v => Xch n v
 | n + 1, .func (.func _) ⟨fs⟩ ⟨cs⟩ => fs.flatMap (Xch n) ++ cs.flatMap (Xch n)
 | _ + 1, .func (.yield l) _ _ => [l]
 | _, _ => []
def Xic : Blk → List Nat
 | .c cs => cs.flatMap (Xch 8)
 | .it b _ _ _ => [b]
 | _ => []
def mem1 (b : Nat) : List Nat → Bool
 | [] => false
 | x :: xs => match Nat.beq x b with
  | true => true
  | false => mem1 b xs
def XcD : Nat → List Nat → List Nat → Mem → List Nat
 | 0, _, seen, _ => seen
 | _ + 1, [], seen, _ => seen
 | n + 1, b :: todo, seen, m => match mem1 b seen with
  | true => XcD n todo seen m
  | false => match Xr m b with
   | some k => XcD n (Xic k ++ todo) (b :: seen) m
   | none => XcD n todo (b :: seen) m
def XbC (next : Nat) (seen : List Nat) : Mem → Mem
 | [] => []
 | (i, k) :: m => match Nat.ble next i && !mem1 i seen with
  | true => XbC next seen m
  | false => (i, k) :: XbC next seen m
def Xfb (next : Nat) : Mem → List Nat
 | [] => []
 | (i, k) :: m => match Nat.ble next i with
  | true => Xfb next m
  | false => Xic k ++ Xfb next m
def tidy (w : Bool) (next : Nat) (v : Value) (st : St) : Ans :=
 match w with
 | true => some (v, ⟨st.next, XbC next (XcD 2000 (Xch 8 v ++ Xfb next st.mem) [] st.mem) st.mem⟩)
 | false => match gnd 8 v with
  | true => some (v, ⟨st.next, Xcc next st.mem⟩)
  | false => some (v, ⟨st.next, XbC next (XcD 2000 (Xch 8 v) [] st.mem) st.mem⟩)

def eqL {α : Type} (f : α → α → Bool) : List α → List α → Bool
 | [], [] => true
 | x :: xs, y :: ys => f x y && eqL f xs ys
 | _, _ => false
def eqA (a b : Option Addr) : Bool := match a, b with
 | none, none => true
 | some ⟨b, o, none⟩, some ⟨b', o', none⟩ => Nat.beq b b' && Nat.beq o o'
 | _, _ => false
def eqV : Nat → Value → Value → Bool
 | _ + 1, .bool a, .bool b => a == b
 | _ + 1, .int k a, .int k' b => decide (k = k') && (a == b)
 | _ + 1, .pointer a, .pointer b => eqA a b
 | _ + 1, .slice a n c, .slice b m d => eqA a b && Nat.beq n m && Nat.beq c d
 | _ + 1, .map (some a), .map (some b) => Nat.beq a b
 | _ + 1, .map none, .map none => true
 | n + 1, .agg ⟨xs⟩, .agg ⟨ys⟩ => eqL (eqV n) xs ys
 | n + 1, .tuple ⟨xs⟩, .tuple ⟨ys⟩ => eqL (eqV n) xs ys
 | _, _, _ => false
def eqB : Blk → Blk → Bool
 | .c xs, .c ys => eqL (eqV 8) xs ys
 | .m es c, .m fs d => eqL (fun e f => eqV 8 e.key f.key && eqV 8 e.val f.val && Nat.beq e.born f.born) es fs && Nat.beq c d
 | _, _ => false
def maxN (n : Nat) : List (Value × St) → Nat
 | [] => n
 | p :: l => maxN (match Nat.ble n p.2.next with | true => p.2.next | false => n) l
def XcL (l : List (Value × St)) : Mem → Mem
 | [] => []
 | (i, k) :: m => match l.all fun p => match Xr p.2.mem i with | some k' => eqB k' k | none => false with
  | true => (i, k) :: XcL l m
  | false => XcL l m
def XfN : List (Value × St) → Ans
 | [] => none
 | [p] => some p
 | (v, st) :: l => match l.all fun p => eqV 8 p.1 v with
  | true => some (v, ⟨maxN 0 ((v, st) :: l), XcL ((v, st) :: l) st.mem⟩)
  | false => none
def allA {α : Type} : List α → (α → Ans) → Option (List (Value × St))
 | [], _ => some []
 | x :: xs, f => match f x, allA xs f with
  | some p, some ps => some (p :: ps)
  | _, _ => none
def Xbg (ro : Nat) : List Nat → Mem → Option Mem
 | [], m => some m
 | b :: bs, m => match Nat.ble ro b, Xr m b with
  | true, some .df => Xbg ro bs (Xap m b)
  | _, _ => none

noncomputable def endF (P : Program) (w : Bool) (fn : Func) (ro next : Nat) (o : Out) : Ans :=
 match o with
 | (.exit _, _, _, _) => none
 | (_, t', ms', st') => match Xbg ro ms' st'.mem with
  | some m => match aRes P fn.ntmps m t' fn.results.toList with
   | some [v] => tidy w next v ⟨st'.next, m⟩
   | some vs => tidy w next (.tuple ⟨vs⟩) ⟨st'.next, m⟩
   | none => none
  | none => none
def endR (ro l : Nat) (o : Out) : Ans :=
 match o with
 | (e, _, ms, st) => match Nat.ble ro l, Xr st.mem l, ms with
  | true, some (.lp r), [] => match e with
   | .normal => some (.bool true, ⟨st.next, put st.mem l (.lp { r with state := .ready, pend := none })⟩)
   | e => some (.bool false, ⟨st.next, put st.mem l (.lp { r with state := .done, pend := some e })⟩)
  | _, _, _ => none
noncomputable def XeA : List Tmp → List Value → Tr → Tr
 | p :: ps, v :: vs, t => XeA ps vs (putT 12 t p v)
 | _, _, t => t

noncomputable def JL (P : Program) (orc : FuncId → Option (Nat → List Value → St → Ans)) (wr : FuncId → Bool) (lf : Nat) : Nat → Nat → Tgt → List Value → St → Ans
 | 0, _, _, _, _ => none
 | n + 1, ro, .fn f, args, st => match orc f with
  | some g => g ro args st
  | none => match P.funcs[f]? with
   | some fn => match fn.body, Nat.blt fn.ntmps 4095 && Nat.ble args.length fn.ntmps with
    | some c, true => match YZ P (JL P orc wr lf n) wr fn.ntmps lf ro none c (XfT args 0 .nil) [] st with
     | some os => match allA os (endF P (wr f) fn ro st.next) with
      | some l => XfN l
      | none => none
     | none => none
    | _, _ => none
   | none => none
 | n + 1, ro, .yld l, args, st => match Nat.ble ro l, Xr st.mem l with
  | true, some (.lp r) => match Nat.blt r.nt 4095 && Nat.beq args.length r.ps.length && r.ps.all (fun p => Nat.blt p r.nt) with
   | true => match YZ P (JL P orc wr lf n) wr r.nt lf ro (some l) r.asg (XeA r.ps args r.t) [] st with
    | some [(.normal, t1, [], st1)] => match Xr st1.mem l with
     | some (.lp r1) => match LoopState.isReady r1.state with
      | true => match YZ P (JL P orc wr lf n) wr r.nt lf ro (some l) r.body t1 [] ⟨st1.next, put st1.mem l (.lp { r1 with state := .busy })⟩ with
       | some os => match allA os (endR ro l) with
        | some l => XfN l
        | none => none
       | none => none
      | false => none
     | _ => none
    | _ => none
   | false => none
  | _, _ => none
end Go.Proofs.Ytiaiecfnpompcaa.Ab
namespace Go.Proofs.Ytiaiecfnpompcaa.Ab
open Go Go.RowKit
set_option linter.unusedVariables false
set_option linter.unusedSimpArgs false

structure Pl where
 g : Nat
 off : Nat
 n : Nat

mutual
inductive VR (U : Nat → Prop) (ρ : Nat → Pl) : Value → Value → Prop
 | bool (b : Bool) : VR U ρ (.bool b) (.bool b)
 | int (k : IntKind) (n : Int) : VR U ρ (.int k n) (.int k n)
 | float (k : FloatKind) (n : Nat) : VR U ρ (.float k n) (.float k n)
 | complex (k : FloatKind) (n m : Nat) : VR U ρ (.complex k n m) (.complex k n m)
 | string (s : ByteArray) : VR U ρ (.string s) (.string s)
 | nilFunc : VR U ρ .nilFunc .nilFunc
 | nilIface : VR U ρ .nilIface .nilIface
 | nilP : VR U ρ (.pointer none) (.pointer none)
 | nilM : VR U ρ (.map none) (.map none)
 | nilS : VR U ρ (.slice none 0 0) (.slice none 0 0)
 | ptr (b o : Nat) : U b → VR U ρ (.pointer (some ⟨b, o, none⟩)) (.pointer (some ⟨(ρ b).g, (ρ b).off + o, none⟩))
 | sl (b o n sz c : Nat) : U b → n ≤ c → (ρ b).off + o + c * sz ≤ (ρ b).n → VR U ρ (.slice (some ⟨b, o, none⟩) n sz) (.slice (some ⟨(ρ b).g, (ρ b).off + o, none⟩) n c)
 | fn (f : FuncId) (xs ys xs' ys' : List Value) : VL U ρ xs xs' → VL U ρ ys ys' → VR U ρ (.func (.func f) ⟨xs⟩ ⟨ys⟩) (.func (.func f) ⟨xs'⟩ ⟨ys'⟩)
 | yld (l : Nat) : U l → VR U ρ (.func (.yield l) ⟨[]⟩ ⟨[]⟩) (.func (.yield (ρ l).g) ⟨[]⟩ ⟨[]⟩)
 | mapv (b : Nat) : U b → VR U ρ (.map (some b)) (.map (some (ρ b).g))
 | iface (t : TypeId) (v v' : Value) : VR U ρ v v' → VR U ρ (.iface t v) (.iface t v')
 | agg (xs xs' : List Value) : VL U ρ xs xs' → VR U ρ (.agg ⟨xs⟩) (.agg ⟨xs'⟩)
 | tup (xs xs' : List Value) : VL U ρ xs xs' → VR U ρ (.tuple ⟨xs⟩) (.tuple ⟨xs'⟩)
inductive VL (U : Nat → Prop) (ρ : Nat → Pl) : List Value → List Value → Prop
 | nil : VL U ρ [] []
 | cons (x x' : Value) (xs xs' : List Value) : VR U ρ x x' → VL U ρ xs xs' → VL U ρ (x :: xs) (x' :: xs')
end

section
variable {U U' : Nat → Prop} {ρ ρ' : Nat → Pl}
mutual
theorem VR.up (h : ∀ b, U b → U' b ∧ ρ' b = ρ b) : ∀ {v v' : Value}, VR U ρ v v' → VR U' ρ' v v'
 | _, _, .bool b => .bool b
 | _, _, .int k n => .int k n
 | _, _, .float k n => .float k n
 | _, _, .complex k n m => .complex k n m
 | _, _, .string s => .string s
 | _, _, .nilFunc => .nilFunc
 | _, _, .nilIface => .nilIface
 | _, _, .nilP => .nilP
 | _, _, .nilM => .nilM
 | _, _, .nilS => .nilS
 | _, _, .ptr b o hb => (h b hb).2 ▸ .ptr b o (h b hb).1
 | _, _, .sl b o n sz c hb h1 h2 => by
  have e := (h b hb).2
  rw [← e] at h2 ⊢
  exact .sl b o n sz c (h b hb).1 h1 h2
 | _, _, .fn f xs ys xs' ys' h1 h2 => .fn f xs ys xs' ys' (VL.up h h1) (VL.up h h2)
 | _, _, .yld l hb => (h l hb).2 ▸ .yld l (h l hb).1
 | _, _, .mapv l hb => (h l hb).2 ▸ .mapv l (h l hb).1
 | _, _, .iface t v v' h1 => .iface t v v' (VR.up h h1)
 | _, _, .agg xs xs' h1 => .agg xs xs' (VL.up h h1)
 | _, _, .tup xs xs' h1 => .tup xs xs' (VL.up h h1)
theorem VL.up (h : ∀ b, U b → U' b ∧ ρ' b = ρ b) : ∀ {v v' : List Value}, VL U ρ v v' → VL U' ρ' v v'
 | _, _, .nil => .nil
 | _, _, .cons x x' xs xs' h1 h2 => .cons x x' xs xs' (VR.up h h1) (VL.up h h2)
end

theorem VL.len : ∀ {xs ys : List Value}, VL U ρ xs ys → xs.length = ys.length
 | _, _, .nil => rfl
 | _, _, .cons _ _ _ _ _ h => by simp [VL.len h]
theorem VL.get : ∀ {xs ys : List Value}, VL U ρ xs ys → ∀ {i : Nat} {x : Value}, xs[i]? = some x → ∃ y, ys[i]? = some y ∧ VR U ρ x y
 | _, _, .nil, i, x, h => by simp at h
 | _, _, .cons a b xs ys h1 h2, 0, x, h => ⟨b, rfl, by simp at h; exact h ▸ h1⟩
 | _, _, .cons a b xs ys h1 h2, i + 1, x, h => by
  obtain ⟨y, hy, hr⟩ := VL.get h2 (i := i) (x := x) (by simpa using h)
  exact ⟨y, by simpa using hy, hr⟩
theorem VL.append : ∀ {xs ys : List Value}, VL U ρ xs ys → ∀ {us vs : List Value}, VL U ρ us vs → VL U ρ (xs ++ us) (ys ++ vs)
 | _, _, .nil, _, _, h => h
 | _, _, .cons _ _ _ _ h1 h2, _, _, h => .cons _ _ _ _ h1 (VL.append h2 h)
theorem VL.of : ∀ {xs ys : List Value}, xs.length = ys.length → (∀ (i : Nat) x, xs[i]? = some x → ∃ y, ys[i]? = some y ∧ VR U ρ x y) → VL U ρ xs ys
 | [], [], _, _ => .nil
 | x :: xs, y :: ys, hl, h => by
  refine .cons _ _ _ _ ?_ (VL.of (by simpa using hl) fun i z hz => ?_)
  ·obtain ⟨y', e, hr⟩ := h 0 x rfl
   simp at e
   exact e ▸ hr
  ·obtain ⟨y', e, hr⟩ := h (i + 1) z (by simpa using hz)
   exact ⟨y', by simpa using e, hr⟩
 | [], _ :: _, hl, _ => by simp at hl
 | _ :: _, [], hl, _ => by simp at hl
theorem VL.map {α : Type} (f g : α → Value) : ∀ (l : List α), (∀ x ∈ l, VR U ρ (f x) (g x)) → VL U ρ (l.map f) (l.map g)
 | [], _ => .nil
 | x :: l, h => .cons _ _ _ _ (h x (by simp)) (VL.map f g l fun y hy => h y (by simp [hy]))

theorem VL.refl_of {n : Nat} (ih : ∀ v, gnd n v = true → VR U ρ v v) : ∀ (xs : List Value), xs.all (gnd n) = true → VL U ρ xs xs
 | [], _ => .nil
 | x :: xs, h => by
  simp only [List.all_cons, Bool.and_eq_true] at h
  exact .cons _ _ _ _ (ih x h.1) (VL.refl_of ih xs h.2)
theorem VR.refl : ∀ (n : Nat) (v : Value), gnd n v = true → VR U ρ v v := by
 intro n
 induction n with
 | zero => intro v h; cases v <;> simp [gnd] at h
 | succ n ih =>
  intro v h
  cases v with
  | bool b => exact .bool b
  | int k n => exact .int k n
  | float k n => exact .float k n
  | complex k a b => exact .complex k a b
  | string s => exact .string s
  | pointer a => cases a with
   | none => exact .nilP
   | some a => simp [gnd] at h
  | slice a n c => cases a with
   | none =>
    cases n with
    | zero => cases c with
     | zero => exact .nilS
     | succ _ => simp [gnd] at h
    | succ _ => simp [gnd] at h
   | some a => simp [gnd] at h
  | map r => cases r with
   | none => exact .nilM
   | some a => simp [gnd] at h
  | chan r => simp [gnd] at h
  | func fn fs cs =>
   cases fn with
   | func f =>
    obtain ⟨fs⟩ := fs
    obtain ⟨cs⟩ := cs
    simp only [gnd, Bool.and_eq_true] at h
    exact .fn f fs cs fs cs (VL.refl_of ih fs h.1) (VL.refl_of ih cs h.2)
   | _ => simp [gnd] at h
  | nilFunc => exact .nilFunc
  | iface t v => exact .iface t v v (ih v (by simpa [gnd] using h))
  | nilIface => exact .nilIface
  | agg cs => obtain ⟨cs⟩ := cs; exact .agg cs cs (VL.refl_of ih cs (by simpa [gnd] using h))
  | tuple cs => obtain ⟨cs⟩ := cs; exact .tup cs cs (VL.refl_of ih cs (by simpa [gnd] using h))
theorem VL.eq_of {n : Nat} (ih : ∀ v v', gnd n v = true → VR U ρ v v' → v' = v) : ∀ {xs ys : List Value}, VL U ρ xs ys → xs.all (gnd n) = true → ys = xs
 | _, _, .nil, _ => rfl
 | _, _, .cons x x' xs xs' h1 h2, h => by
  simp only [List.all_cons, Bool.and_eq_true] at h
  rw [ih x x' h.1 h1, VL.eq_of ih h2 h.2]
theorem VR.eq : ∀ (n : Nat) (v v' : Value), gnd n v = true → VR U ρ v v' → v' = v := by
 intro n
 induction n with
 | zero => intro v v' h; cases v <;> simp [gnd] at h
 | succ n ih =>
  intro v v' h hr
  cases hr with
  | ptr => simp [gnd] at h
  | sl => simp [gnd] at h
  | yld => simp [gnd] at h
  | mapv => simp [gnd] at h
  | fn f xs ys xs' ys' h1 h2 =>
   simp only [gnd, Bool.and_eq_true] at h
   rw [VL.eq_of ih h1 h.1, VL.eq_of ih h2 h.2]
  | iface t v v' h1 => rw [ih v v' (by simpa [gnd] using h) h1]
  | agg xs xs' h1 => rw [VL.eq_of ih h1 (by simpa [gnd] using h)]
  | tup xs xs' h1 => rw [VL.eq_of ih h1 (by simpa [gnd] using h)]
  | _ => rfl
theorem VR.cells {v v' : Value} (h : VR U ρ v v') : VL U ρ v.cells.toList v'.cells.toList := by
 cases h with
 | agg xs xs' h1 => exact h1
 | _ => exact .cons _ _ _ _ (by constructor <;> assumption) .nil
theorem VR.isCell {v v' : Value} (h : VR U ρ v v') : isCell v' = isCell v := by cases h <;> rfl
theorem VL.isCell : ∀ {xs ys : List Value}, VL U ρ xs ys → ys.all Ab.isCell = xs.all Ab.isCell
 | _, _, .nil => rfl
 | _, _, .cons _ _ _ _ h1 h2 => by simp only [List.all_cons, VR.isCell h1, VL.isCell h2]
end

structure TV (U : Nat → Prop) (ρ : Nat → Pl) (nt : Nat) (t : Tr) (tmps : Array Value) : Prop where
 size : tmps.size = nt
 get : ∀ i, i < nt → VR U ρ (getT 12 t i) (tmps.getD i undef)
theorem TV.up {U U' : Nat → Prop} {ρ ρ' : Nat → Pl} {nt : Nat} {t : Tr} {a : Array Value} (h : TV U ρ nt t a) (hu : ∀ b, U b → U' b ∧ ρ' b = ρ b) : TV U' ρ' nt t a := ⟨h.size, fun i hi => (h.get i hi).up hu⟩
def Xhk : Ex → Code
 | .normal => .skip
 | .exit id => .exit id
 | .ret => .ret
def BlkIn (U : Nat → Prop) (ρ : Nat → Pl) (b : Nat) (w : World) : Blk → Prop
 | .c cs => ∃ cs' t, w.heap[(ρ b).g]? = some (.cells cs' t (0, 0)) ∧ cs'.size = (ρ b).n ∧ (∀ (i : Nat) x, cs[i]? = some x → ∃ y, cs'[(ρ b).off + i]? = some y ∧ VR U ρ x y)
 | .m es clock => w.heap[(ρ b).g]? = some (.map ⟨es⟩ clock)
 | .it mp since seen last => U mp ∧ (ρ b).off = 0 ∧ w.heap[(ρ b).g]? = some (.mapIter (some (ρ mp).g) since ⟨seen⟩ last)
 | .lp r => ∃ L : Loop, w.heap[(ρ b).g]? = some (.loop L) ∧ L.state = r.state ∧ L.pending = r.pend.map Xhk ∧ L.params = ⟨r.ps⟩ ∧ L.assign = r.asg ∧ L.body = r.body ∧ TV U ρ r.nt r.t L.tmps
 | .df => w.heap[(ρ b).g]? = some (.deferred (some []))
def Y3 (U : Nat → Prop) (ρ : Nat → Pl) (b : Nat) (k : Blk) (w : World) : Prop := U b ∧ BlkIn U ρ b w k
theorem Y3.lt {U : Nat → Prop} {ρ : Nat → Pl} {b : Nat} {k : Blk} {w : World} (h : Y3 U ρ b k w) : (ρ b).g < w.heap.size := by
 obtain ⟨_, h⟩ := h
 cases k with
 | c cs => obtain ⟨cs', t, h1, _⟩ := h; exact (Array.getElem?_eq_some_iff.1 h1).1
 | m es c => exact (Array.getElem?_eq_some_iff.1 h).1
 | it a b c d => exact (Array.getElem?_eq_some_iff.1 h.2.2).1
 | lp r => obtain ⟨L, h1, _⟩ := h; exact (Array.getElem?_eq_some_iff.1 h1).1
 | df => exact (Array.getElem?_eq_some_iff.1 h).1
theorem Y3.move {U U' : Nat → Prop} {ρ ρ' : Nat → Pl} {b : Nat} {k : Blk} {w w' : World} (h : Y3 U ρ b k w) (hu : ∀ b, U b → U' b ∧ ρ' b = ρ b) (hw : w'.heap[(ρ b).g]? = w.heap[(ρ b).g]?) : Y3 U' ρ' b k w' := by
 obtain ⟨h0, h⟩ := h
 have e := (hu b h0).2
 refine ⟨(hu b h0).1, ?_⟩
 cases k with
 | c cs =>
  obtain ⟨cs', t, h1, h2, h3⟩ := h
  refine ⟨cs', t, by rw [e, hw]; exact h1, by rw [e]; exact h2, fun i x hx => ?_⟩
  obtain ⟨y, hy, hr⟩ := h3 i x hx
  exact ⟨y, by rw [e]; exact hy, hr.up hu⟩
 | m es c => show w'.heap[(ρ' b).g]? = _; rw [e, hw]; exact h
 | it mp c d f =>
  obtain ⟨h1, h2, h3⟩ := h
  exact ⟨(hu mp h1).1, by rw [e]; exact h2, by rw [e, hw, (hu mp h1).2]; exact h3⟩
 | lp r =>
  obtain ⟨L, h1, h2, h3, h4, h5, h6, h7⟩ := h
  exact ⟨L, by rw [e, hw]; exact h1, h2, h3, h4, h5, h6, h7.up hu⟩
 | df => show w'.heap[(ρ' b).g]? = _; rw [e, hw]; exact h
theorem Y3.up {U U' : Nat → Prop} {ρ ρ' : Nat → Pl} {b : Nat} {k : Blk} {w w' : World} (h : Y3 U ρ b k w) (hu : ∀ b, U b → U' b ∧ ρ' b = ρ b) (hw : ∀ k, k < w.heap.size → w'.heap[k]? = w.heap[k]?) : Y3 U' ρ' b k w' :=
 h.move hu (hw _ h.lt)

theorem Ja {m : Mem} {b : Nat} {cs : List Value} (h : Jt m b = some cs) : Xr m b = some (.c cs) := by
 unfold Jt at h
 split at h
 ·rename_i cs' e; simp only [Option.some.injEq] at h; rw [e, h]
 ·simp at h

structure HR (B ro : Nat) (U : Nat → Prop) (ρ : Nat → Pl) (n : Nat) (m : Mem) (w : World) : Prop where
 lt : ∀ b, U b → b < n
 blk : ∀ b k, Xr m b = some k → Y3 U ρ b k w
 own : ∀ b k, Xr m b = some k → ro ≤ b → B ≤ (ρ b).g
 inj : ∀ b b' k k', Xr m b = some k → Xr m b' = some k' → (ρ b).g = (ρ b').g → b = b'
 base : B ≤ w.heap.size
theorem HR.cellsAt {B ro : Nat} {U : Nat → Prop} {ρ : Nat → Pl} {n : Nat} {m : Mem} {w : World} (h : HR B ro U ρ n m w) {b : Nat} {cs : List Value} (hb : Jt m b = some cs) :
  U b ∧ ∃ cs' t, w.heap[(ρ b).g]? = some (.cells cs' t (0, 0)) ∧ cs'.size = (ρ b).n ∧ (∀ (i : Nat) x, cs[i]? = some x → ∃ y, cs'[(ρ b).off + i]? = some y ∧ VR U ρ x y) := h.blk b _ (Ja hb)

structure Ext (U : Nat → Prop) (ρ : Nat → Pl) (n : Nat) (U' : Nat → Prop) (ρ' : Nat → Pl) (n' : Nat) : Prop where
 le : n ≤ n'
 up : ∀ b, U b → U' b ∧ ρ' b = ρ b
 new : ∀ b, U' b → U b ∨ (n ≤ b ∧ b < n')
theorem Ext.refl (U : Nat → Prop) (ρ : Nat → Pl) (n : Nat) : Ext U ρ n U ρ n := ⟨Nat.le_refl _, fun b h => ⟨h, rfl⟩, fun b h => .inl h⟩
theorem Ext.trans {U U1 U2 : Nat → Prop} {ρ ρ1 ρ2 : Nat → Pl} {n n1 n2 : Nat} (h : Ext U ρ n U1 ρ1 n1) (k : Ext U1 ρ1 n1 U2 ρ2 n2) : Ext U ρ n U2 ρ2 n2 :=
 ⟨Nat.le_trans h.le k.le, fun b hb => ⟨(k.up b (h.up b hb).1).1, ((k.up b (h.up b hb).1).2).trans (h.up b hb).2⟩, fun b hb => by
  have := h.le; have := k.le
  rcases k.new b hb with h1 | h1
  ·rcases h.new b h1 with h2 | h2
   ·exact .inl h2
   ·exact .inr (by omega)
  ·exact .inr (by omega)⟩

section
variable {B ro n : Nat} {U : Nat → Prop} {ρ : Nat → Pl} {m m' : Mem} {w w' : World}
theorem HR.sub (h : HR B ro U ρ n m w) (hs : ∀ b k, Xr m' b = some k → Xr m b = some k) : HR B ro U ρ n m' w :=
 ⟨h.lt, fun b k hb => h.blk b k (hs b k hb), fun b k hb => h.own b k (hs b k hb), fun b b' k k' hb hb' => h.inj b b' k k' (hs b k hb) (hs b' k' hb'), h.base⟩
theorem HR.mono (h : HR B ro U ρ n m w) {n' : Nat} (hn : n ≤ n') : HR B ro U ρ n' m w :=
 ⟨fun b hb => Nat.lt_of_lt_of_le (h.lt b hb) hn, h.blk, h.own, h.inj, h.base⟩
theorem HR.fresh (h : HR B ro U ρ n m w) {k : Blk} (p : Pl) (hk : Y3 (fun b => U b ∨ b = n) (fun b => if b = n then p else ρ b) n k w')
  (hold : ∀ b k, Xr m b = some k → w'.heap[(ρ b).g]? = w.heap[(ρ b).g]?) (hne : ∀ b k, Xr m b = some k → (ρ b).g ≠ p.g) (hB : B ≤ p.g) (hsz : B ≤ w'.heap.size) :
  HR B ro (fun b => U b ∨ b = n) (fun b => if b = n then p else ρ b) (n + 1) ((n, k) :: m) w' := by
 have hu : ∀ b, U b → (U b ∨ b = n) ∧ (if b = n then p else ρ b) = ρ b := fun b hb => ⟨.inl hb, if_neg (by have := h.lt b hb; omega)⟩
 have hl : ∀ b k0, Xr ((n, k) :: m) b = some k0 → (b = n ∧ k0 = k) ∨ (b ≠ n ∧ Xr m b = some k0) := by
  intro b k0 hb
  simp only [Xr] at hb
  by_cases e : n = b
  ·subst e; rw [show Nat.beq n n = true from Nat.beq_refl n] at hb; simp at hb; exact .inl ⟨rfl, hb.symm⟩
  ·rw [show Nat.beq n b = false from Bool.eq_false_iff.mpr fun q => e (Nat.eq_of_beq_eq_true q)] at hb
   exact .inr ⟨fun e' => e e'.symm, hb⟩
 refine ⟨fun b hb => by rcases hb with hb | rfl; have := h.lt b hb; omega; omega, fun b k0 hb => ?_, fun b k0 hb hr => ?_, fun b b' c0 c0' hb hb' he => ?_, hsz⟩
 ·rcases hl b k0 hb with ⟨rfl, rfl⟩ | ⟨e, hb⟩
  ·exact hk
  ·exact (h.blk b k0 hb).move hu (hold b k0 hb)
 ·rcases hl b k0 hb with ⟨rfl, rfl⟩ | ⟨e, hb⟩
  ·simpa using hB
  ·simp only [if_neg e]; exact h.own b k0 hb hr
 ·rcases hl b c0 hb with ⟨e1, e2⟩ | ⟨e, hb⟩ <;> rcases hl b' c0' hb' with ⟨e1', e2'⟩ | ⟨e', hb'⟩
  ·rw [e1, e1']
  ·simp only [e1, if_true, if_neg e'] at he; exact absurd he.symm (hne b' c0' hb')
  ·simp only [e1', if_true, if_neg e] at he; exact absurd he (hne b c0 hb)
  ·simp only [if_neg e, if_neg e'] at he; exact h.inj b b' c0 c0' hb hb' he
theorem HR.freshC (h : HR B ro U ρ n m w) {g : Nat} {cs cs' : List Value} {t : TypeId} (p : Pl) (hg : w'.heap[p.g]? = some (.cells ⟨cs'⟩ t (0, 0))) (hp : p.n = cs'.length)
  (hold : ∀ b k, Xr m b = some k → w'.heap[(ρ b).g]? = w.heap[(ρ b).g]?) (hne : ∀ b k, Xr m b = some k → (ρ b).g ≠ p.g) (hB : B ≤ p.g) (hsz : B ≤ w'.heap.size)
  (hc : ∀ i x, cs[i]? = some x → ∃ y, cs'[p.off + i]? = some y ∧ VR U ρ x y) :
  HR B ro (fun b => U b ∨ b = n) (fun b => if b = n then p else ρ b) (n + 1) ((n, .c cs) :: m) w' := by
 have hu : ∀ b, U b → (U b ∨ b = n) ∧ (if b = n then p else ρ b) = ρ b := fun b hb => ⟨.inl hb, if_neg (by have := h.lt b hb; omega)⟩
 refine h.fresh p ⟨.inr rfl, ⟨cs'⟩, t, by simp only [if_true]; exact hg, by simp [hp], fun i x hx => ?_⟩ hold hne hB hsz
 obtain ⟨y, hy, hr⟩ := hc i x hx
 exact ⟨y, by simpa using hy, hr.up hu⟩
theorem HR.fresh_ext : (∀ b, U b → b < n) → ∀ p : Pl, Ext U ρ n (fun b => U b ∨ b = n) (fun b => if b = n then p else ρ b) (n + 1) := fun h p =>
 ⟨Nat.le_succ _, fun b hb => ⟨.inl hb, if_neg (by have := h b hb; omega)⟩, fun b hb => by rcases hb with hb | rfl; exact .inl hb; exact .inr (by omega)⟩
theorem HR.lt_size (h : HR B ro U ρ n m w) {b : Nat} {k : Blk} (hb : Xr m b = some k) : (ρ b).g < w.heap.size := (h.blk b k hb).lt
theorem HR.alloc (h : HR B ro U ρ n m w) {cs cs' : List Value} (t : TypeId) (hc : VL U ρ cs cs') :
  HR B ro (fun b => U b ∨ b = n) (fun b => if b = n then ⟨w.heap.size, 0, cs'.length⟩ else ρ b) (n + 1) ((n, .c cs) :: m) (w.alloc (.cells ⟨cs'⟩ t (0, 0))) := by
 refine h.freshC (g := 0) (cs' := cs') (t := t) ⟨w.heap.size, 0, cs'.length⟩ (heap_alloc_new w _) rfl (fun b cs hb => Below.heap_alloc w _ _ (h.lt_size hb)) (fun b cs hb => Nat.ne_of_lt (h.lt_size hb)) h.base (by have := h.base; simp; omega) fun i x hx => ?_
 simpa using hc.get hx
theorem HR.allocO (h : HR B ro U ρ n m w) {k : Blk} (o : Obj) (hk : Y3 (fun b => U b ∨ b = n) (fun b => if b = n then ⟨w.heap.size, 0, 0⟩ else ρ b) n k (w.alloc o)) :
  HR B ro (fun b => U b ∨ b = n) (fun b => if b = n then ⟨w.heap.size, 0, 0⟩ else ρ b) (n + 1) ((n, k) :: m) (w.alloc o) :=
 h.fresh ⟨w.heap.size, 0, 0⟩ hk (fun b k hb => Below.heap_alloc w _ _ (h.lt_size hb)) (fun b k hb => Nat.ne_of_lt (h.lt_size hb)) h.base (by have := h.base; simp; omega)
end
end Go.Proofs.Ytiaiecfnpompcaa.Ab
namespace Go.Proofs.Ytiaiecfnpompcaa.Ab
open Go Go.RowKit
set_option linter.unusedVariables false
set_option linter.unusedSimpArgs false

def Post (B ro : Nat) (U : Nat → Prop) (ρ : Nat → Pl) (n : Nat) (w : World) (v : Value) (st' : St) (v' : Value) (w' : World) : Prop :=
 ∃ U' ρ', Ext U ρ n U' ρ' st'.next ∧ HR B ro U' ρ' st'.next st'.mem w' ∧ VR U' ρ' v v' ∧ Below B w w'
def YG (P : Program) (s : Sem Next) (w : World) (R : Value → World → Prop) : Prop :=
 (∃ v' w', s.run P w = .ok (.value v') w' ∧ R v' w') ∨ (∃ w', s.run P w = .ok .skip w' ∧ R undef w') ∨
 (∃ f args, s.run P w = .ok (.enter f args) w ∧ Calls P f args w fun e w' => ∃ v', e = .returned v' ∧ R v' w') ∨
 (∃ l f tmps asg body, s.run P w = .ok (.round l f tmps asg body) w ∧ RoundIn Fence.wide 0 P l f tmps asg body w fun e w' => ∃ v', e = .returned v' ∧ R v' w')
abbrev Fw (r : Option Nat) : Fence := { Fence.wide with round := r }
theorem XfR {r : Option Nat} {n : Nat} {P : Program} {f : FuncId} {args : Array Value} {w : World} {R : Ending → World → Prop} (h : Calls P f args w R) : CallsIn (Fw r) n P f args w R :=
 (callsIn_wide (n := n)).2 h
theorem YG.wpIn {P : Program} {r : Option Nat} {o : Oper} {a : Act} {w : World} {R : Value → World → Prop} {K : Act → World → Prop} {Q : Exit → Act → World → Prop}
  (hd : ∀ c, o.op ≠ .defer c) (h : YG P (execOp a.eval o) w R) (hk : ∀ v' w', R v' w' → K (a.put o.dst v') w') : o.wpIn (Fw r) 0 P a w K Q := by
 refine ⟨fun _ _ => trivial, ?_⟩
 rw [Oper.semAt_eq _ _ _ hd]
 rcases h with ⟨v', w', h1, h2⟩ | ⟨w', h1, h2⟩ | ⟨f, args, h1, h2⟩ | ⟨l, f, tmps, asg, body, h1, h2⟩
 ·rw [h1]; exact hk _ _ h2
 ·rw [h1]; exact hk _ _ h2
 ·rw [h1, Oper.uponIn_enter]
  refine ⟨fun q => by simp [Fence.wide] at q, XfR (h2.mono fun e w' he => ?_)⟩
  obtain ⟨v', rfl, hr⟩ := he
  exact hk _ _ hr
 ·rw [h1, Oper.uponIn_round]
  refine ⟨fun q => by simp [Fence.wide] at q, RoundIn.mono (F := Fw r) (n := 0 - 1) h2 fun e w' he => ?_⟩
  obtain ⟨v', rfl, hr⟩ := he
  exact hk _ _ hr
theorem XaO (P : Program) {α : Type} : ∀ (s : Sem α) {a : α}, Xbw P s = some a → ∀ w, s.run P w = .ok a w := by
 intro s
 induction s with
 | pure x => intro a h w; simp only [Xbw, Option.some.injEq] at h; rw [h]; rfl
 | program k ih => intro a h w; exact ih P h w
 | mark m k ih => intro a h w; exact ih h w
 | _ => intro a h; simp [Xbw] at h

theorem Xcl {α β : Type} : ∀ (l : List α) (R : Nat → α → β → Prop), (∀ (i : Nat) x, l[i]? = some x → ∃ y, R i x y) →
  ∃ l' : List β, l'.length = l.length ∧ ∀ (i : Nat) x, l[i]? = some x → ∃ y, l'[i]? = some y ∧ R i x y
 | [], R, _ => ⟨[], rfl, by simp⟩
 | x :: l, R, h => by
  obtain ⟨y, hy⟩ := h 0 x rfl
  obtain ⟨l', hl, hr⟩ := Xcl l (fun i => R (i + 1)) fun i z hz => h (i + 1) z (by simpa using hz)
  refine ⟨y :: l', by simp [hl], fun i z hz => ?_⟩
  cases i with
  | zero => simp at hz; exact ⟨y, rfl, hz ▸ hy⟩
  | succ i => simpa using hr i z (by simpa using hz)

section
variable {P : Program} {B ro n : Nat} {U : Nat → Prop} {ρ : Nat → Pl} {m : Mem} {w : World}

theorem HR.cell (h : HR B ro U ρ n m w) {b : Nat} {cs : List Value} (hb : Jt m b = some cs) {i : Nat} {x : Value} (hx : cs[i]? = some x) :
  ∃ y, w.cell? ⟨(ρ b).g, (ρ b).off + i, none⟩ = some y ∧ VR U ρ x y := by
 obtain ⟨_, cs', t, h1, h2, h3⟩ := h.cellsAt hb
 obtain ⟨y, hy, hr⟩ := h3 i x hx
 exact ⟨y, by simp [World.cell?, h1, hy], hr⟩
theorem XbM {cs l : List Value} {off k : Nat} (h : cut cs off k = some l) : off + k ≤ cs.length ∧ l = (cs.drop off).take k ∧ l.length = k := by
 unfold cut at h
 split at h
 ·rename_i e
  have e := Nat.le_of_ble_eq_true e
  simp only [Option.some.injEq] at h
  refine ⟨e, h.symm, ?_⟩
  rw [← h]; simp; omega
 ·simp at h
theorem HR.cells (h : HR B ro U ρ n m w) {b : Nat} {cs : List Value} (hb : Jt m b = some cs) {off k : Nat} {l : List Value} (hc : cut cs off k = some l) :
  ∃ l', VL U ρ l l' ∧ l'.length = k ∧ ∀ (j : Nat) v, l'[j]? = some v → w.cell? ((⟨(ρ b).g, (ρ b).off + off, none⟩ : Addr).add j) = some v := by
 obtain ⟨h1, h2, h3⟩ := XbM hc
 obtain ⟨l', hl, hr⟩ := Xcl l (fun j x y => w.cell? ⟨(ρ b).g, (ρ b).off + (off + j), none⟩ = some y ∧ VR U ρ x y) fun i x hx => by
  refine h.cell hb (i := off + i) ?_
  rw [h2] at hx
  rw [List.getElem?_take] at hx
  split at hx
  ·rwa [List.getElem?_drop] at hx
  ·simp at hx
 refine ⟨l', VL.of hl.symm fun i x hx => ?_, by rw [hl, h3], fun j v hv => ?_⟩
 ·obtain ⟨y, e1, _, e2⟩ := hr i x hx
  exact ⟨y, e1, e2⟩
 ·have hj : j < l.length := by rw [← hl]; exact (List.getElem?_eq_some_iff.1 hv).1
  obtain ⟨y, e1, e2, _⟩ := hr j l[j] (List.getElem?_eq_getElem hj)
  rw [hv] at e1
  simp only [Option.some.injEq] at e1
  subst e1
  have : (⟨(ρ b).g, (ρ b).off + off, none⟩ : Addr).add j = ⟨(ρ b).g, (ρ b).off + (off + j), none⟩ := by unfold Addr.add; split <;> simp_all [Nat.add_assoc]
  rw [this]; exact e2

theorem Jw {t : TypeId} {r : Bool} (h : aggT P t = some r) (w : World) : (isAgg t).run P w = .ok r w := by
 unfold aggT at h
 unfold isAgg
 rw [Sem.run_bind]
 cases hu : P.underlying t with
 | none => simp [hu] at h
 | some d =>
  rw [run_underlying hu]
  simp only [hu] at h
  cases d <;> simp_all
theorem Y1 {t : TypeId} {k : Nat} (h : szOf P t = some k) (w : World) : (sizeOf t).run P w = .ok k w := by
 unfold szOf at h
 cases hi : P.info? t with
 | none => simp [hi] at h
 | some i => simp [hi] at h; simp [sizeOf, typeInfo, hi, h]
theorem Xdt {t : TypeId} {k : Nat} (h : szOf P t = some k) : ∃ i, P.info? t = some i ∧ i.size = k := by
 unfold szOf at h
 cases hi : P.info? t with
 | none => simp [hi] at h
 | some i => simp [hi] at h; exact ⟨i, rfl, h⟩
theorem Y0 {t : TypeId} {z : Value} (h : Xbr P t = some z) : gnd 8 z = true ∧ ∃ i, P.info? t = some i ∧ i.zero = some z := by
 unfold Xbr at h
 cases hi : P.info? t with
 | none => simp [hi] at h
 | some i =>
  cases hz : i.zero with
  | none => simp [hi, hz] at h
  | some z' =>
   simp only [hi, hz, Option.bind_some] at h
   split at h
   ·rename_i hg
    simp only [Option.some.injEq] at h
    subst h
    exact ⟨hg, i, rfl, hz⟩
   ·simp at h
theorem JZ {t : TypeId} {z : Value} (h : Xbr P t = some z) (w : World) : (zeroValue t).run P w = .ok z w := by
 obtain ⟨_, i, hi, hz⟩ := Y0 h
 simp [zeroValue, typeInfo, hi, hz]

theorem XdX (h : HR B ro U ρ n m w) {b : Nat} {cs : List Value} (hb : Jt m b = some cs) {t : TypeId} {off : Nat} {v : Value} (hv : Xdb P t cs off = some v) :
  ∃ v', (loadVar t ⟨(ρ b).g, (ρ b).off + off, none⟩).run P w = .ok v' w ∧ VR U ρ v v' := by
 unfold Xdb at hv
 cases ha : aggT P t with
 | none => simp [ha] at hv
 | some r =>
  cases r with
  | true =>
   simp only [ha] at hv
   cases hs : szOf P t with
   | none => simp [hs] at hv
   | some k =>
    simp only [hs, Option.map_eq_some_iff] at hv
    obtain ⟨l, hl, rfl⟩ := hv
    obtain ⟨l', h1, h2, h3⟩ := h.cells hb hl
    refine ⟨.agg ⟨l'⟩, ?_, .agg l l' h1⟩
    subst h2
    simp [loadVar, Jw ha, Y1 hs, run_loadCells_list w _ l' h3]
  | false =>
   simp only [ha] at hv
   obtain ⟨y, h1, h2⟩ := h.cell hb hv
   exact ⟨y, by simp [loadVar, Jw ha, h1], h2⟩

theorem XcR (v : Value) : v.oneCell' = isCell v := by cases v <;> rfl
theorem XbB {m : Mem} {b b' : Nat} {cs : Blk} : Xr (put m b cs) b' = if b' = b then some cs else Xr m b' := by
 unfold put
 simp only [Xr]
 by_cases e : b' = b
 ·rw [if_pos e, e, show Nat.beq b b = true from Nat.beq_refl b]
 ·rw [if_neg e, show Nat.beq b b' = false from Bool.eq_false_iff.mpr fun q => e (Nat.eq_of_beq_eq_true q).symm]
  simp only
  clear cs
  induction m with
  | nil => rfl
  | cons p m ih =>
   obtain ⟨i, c⟩ := p
   simp only [Xap]
   cases hq : Nat.beq i b with
   | true =>
    simp only [Xr]
    rw [show Nat.beq i b' = false from Bool.eq_false_iff.mpr fun q => e ((Nat.eq_of_beq_eq_true q).symm.trans (Nat.eq_of_beq_eq_true hq))]
    exact ih
   | false => simp only [Xr, ih]
theorem Jc {m : Mem} {b b' : Nat} {cs : Blk} (h : Xr (Xap m b) b' = some cs) : b' ≠ b ∧ Xr m b' = some cs := by
 induction m with
 | nil => simp [Xap, Xr] at h
 | cons p m ih =>
  obtain ⟨i, c⟩ := p
  simp only [Xap] at h
  cases hq : Nat.beq i b with
  | true =>
   rw [hq] at h
   obtain ⟨h1, h2⟩ := ih h
   refine ⟨h1, ?_⟩
   simp only [Xr]
   rw [show Nat.beq i b' = false from Bool.eq_false_iff.mpr fun q => h1 ((Nat.eq_of_beq_eq_true q).symm.trans (Nat.eq_of_beq_eq_true hq))]
   exact h2
  | false =>
   rw [hq] at h
   simp only [Xr] at h ⊢
   cases hk : Nat.beq i b' with
   | true =>
    rw [hk] at h
    refine ⟨fun e => ?_, h⟩
    rw [← e, hk] at hq
    simp at hq
   | false => rw [hk] at h; exact ih h
theorem Xgv {b : Nat} {m : Mem} {k : Nat} {cs : Blk} (h : Xr (XcU b m) k = some cs) : b ≤ k ∧ Xr m k = some cs := by
 induction m with
 | nil => simp [XcU, Xr] at h
 | cons p m ih =>
  obtain ⟨i, c⟩ := p
  simp only [XcU] at h
  cases hq : Nat.ble b i with
  | true =>
   rw [hq] at h
   simp only [Xr] at h ⊢
   cases hk : Nat.beq i k with
   | true => rw [hk] at h; exact ⟨Nat.eq_of_beq_eq_true hk ▸ Nat.le_of_ble_eq_true hq, h⟩
   | false => rw [hk] at h; exact ih h
  | false =>
   rw [hq] at h
   obtain ⟨h1, h2⟩ := ih h
   refine ⟨h1, ?_⟩
   simp only [Xr]
   rw [show Nat.beq i k = false from Bool.eq_false_iff.mpr fun q => by rw [← Nat.eq_of_beq_eq_true q] at h1; rw [Nat.ble_eq_true_of_le h1] at hq; simp at hq]
   exact h2
theorem Xgu {b : Nat} {m : Mem} {k : Nat} {cs : Blk} (h : Xr (Xcc b m) k = some cs) : Xr m k = some cs := by
 induction m with
 | nil => simp [Xcc, Xr] at h
 | cons p m ih =>
  obtain ⟨i, c⟩ := p
  simp only [Xcc] at h
  cases hq : Nat.ble b i with
  | false =>
   rw [hq] at h
   simp only [Xr] at h ⊢
   cases hk : Nat.beq i k with
   | true => rw [hk] at h; exact h
   | false => rw [hk] at h; exact ih h
  | true =>
   rw [hq] at h
   have h2 := ih h
   simp only [Xr]
   cases hk : Nat.beq i k with
   | false => exact h2
   | true =>
    exfalso
    have e := Nat.eq_of_beq_eq_true hk
    subst e
    clear h2 ih
    induction m with
    | nil => simp [Xcc, Xr] at h
    | cons p m ih2 =>
     obtain ⟨j, c'⟩ := p
     simp only [Xcc] at h
     cases hj : Nat.ble b j with
     | true => rw [hj] at h; exact ih2 h
     | false =>
      rw [hj] at h
      simp only [Xr] at h
      cases hk2 : Nat.beq j i with
      | true => rw [Nat.eq_of_beq_eq_true hk2] at hj; rw [hj] at hq; simp at hq
      | false => rw [hk2] at h; exact ih2 h

theorem XbZ {cs vs : List Value} {off i : Nat} (h : off + vs.length ≤ cs.length) : (paste cs off vs)[i]? = if off ≤ i ∧ i < off + vs.length then vs[i - off]? else cs[i]? := by
 unfold paste
 by_cases h1 : i < off
 ·rw [List.getElem?_append_left (by simp; omega), if_neg (by omega), List.getElem?_take, if_pos h1]
 ·rw [List.getElem?_append_right (by simp; omega)]
  simp only [List.length_take, Nat.min_eq_left (show off ≤ cs.length by omega)]
  by_cases h2 : i < off + vs.length
  ·rw [if_pos (by omega), List.getElem?_append_left (by omega)]
  ·rw [if_neg (by omega), List.getElem?_append_right (by omega), List.getElem?_drop]
   congr 1; omega

theorem HR.putAt {w' : World} (h : HR B ro U ρ n m w) {b : Nat} {k k' : Blk} (hb : Xr m b = some k) (hk : Y3 U ρ b k' w') (hsame : ∀ j, j ≠ (ρ b).g → w'.heap[j]? = w.heap[j]?) (hsz : w.heap.size ≤ w'.heap.size) :
  HR B ro U ρ n (put m b k') w' := by
 refine ⟨h.lt, fun b' k0 hb' => ?_, fun b' k0 hb' hr' => ?_, fun b1 b2 c1 c2 h1 h2 he => ?_, Nat.le_trans h.base hsz⟩
 ·rw [XbB] at hb'
  split at hb'
  ·rename_i e
   subst e
   simp only [Option.some.injEq] at hb'
   subst hb'
   exact hk
  ·rename_i e
   exact (h.blk b' k0 hb').move (fun b hb => ⟨hb, rfl⟩) (hsame _ fun q => e (h.inj _ _ _ _ hb' hb q))
 ·rw [XbB] at hb'
  split at hb'
  ·rename_i e; subst e; exact h.own _ _ hb hr'
  ·exact h.own _ _ hb' hr'
 ·have hx : ∀ b1 c1, Xr (put m b k') b1 = some c1 → ∃ c, Xr m b1 = some c := by
   intro b1 c1 h1
   rw [XbB] at h1
   split at h1
   ·rename_i e; subst e; exact ⟨_, hb⟩
   ·exact ⟨_, h1⟩
  obtain ⟨c1', h1'⟩ := hx b1 c1 h1
  obtain ⟨c2', h2'⟩ := hx b2 c2 h2
  exact h.inj _ _ _ _ h1' h2' he
theorem Xfz (h : HR B ro U ρ n m w) {b : Nat} {cs : List Value} (hb : Jt m b = some cs) (hro : ro ≤ b) {t : TypeId} {off : Nat} {v v' : Value} {cs' : List Value} (hr : VR U ρ v v') (hv : XfA P t cs off v = some cs') :
  ∃ w', (storeVar t ⟨(ρ b).g, (ρ b).off + off, none⟩ v').run P w = .ok () w' ∧ HR B ro U ρ n (put m b (.c cs')) w' ∧ Below B w w' := by
 unfold XfA at hv
 cases hs : szOf P t with
 | none => simp [hs] at hv
 | some k =>
  simp only [hs] at hv
  split at hv
  ·rename_i hc
   simp only [Bool.and_eq_true] at hc
   obtain ⟨⟨⟨hc1, hc2⟩, hc3⟩, hc4⟩ := hc
   have hc1 := Nat.eq_of_beq_eq_true hc1
   have hc2 := Nat.le_of_ble_eq_true hc2
   have hc4 : 0 < k := Nat.le_of_ble_eq_true hc4
   simp only [Option.some.injEq] at hv
   subst hv
   obtain ⟨hU, cur, ty, hg, hsz, hcells⟩ := h.cellsAt hb
   have hvl := hr.cells
   have hlen := hvl.len
   have hcl : v'.cells.size = k := by rw [← Array.length_toList, ← hlen, hc1]
   have hfit : (ρ b).off + off + v'.cells.toList.length ≤ cur.size := by
    rw [← hlen, hc1]
    obtain ⟨y, hy, _⟩ := hcells (off + k - 1) cs[off + k - 1] (List.getElem?_eq_getElem (by omega))
    have := (Array.getElem?_eq_some_iff.1 hy).1
    omega
   have hone : ∀ x ∈ v'.cells.toList, x.oneCell' = true := by
    have := hvl.isCell
    rw [hc3, List.all_eq_true] at this
    intro x hx
    rw [XcR]; exact this x hx
   have hst := run_storeCells_at P (ρ b).g ((ρ b).off + off) ty v'.cells.toList 0 cur w hg (by simpa using hfit) hone
   simp only [Nat.add_zero] at hst
   have hnew : (cur.toList.take ((ρ b).off + off) ++ v'.cells.toList ++ cur.toList.drop ((ρ b).off + off + v'.cells.toList.length)) = paste cur.toList ((ρ b).off + off) v'.cells.toList := by
    unfold paste; rw [List.append_assoc]
   rw [hnew] at hst
   refine ⟨w.setRow (ρ b).g (paste cur.toList ((ρ b).off + off) v'.cells.toList).toArray, ?_, ?_, ?_⟩
   ·simp only [storeVar, Sem.run_bind, Y1 hs, Result.andThen_ok, hcl]
    simpa using hst
   ·refine h.putAt (Ja hb) ⟨hU, _, ty, setRow_heap w _ cur _ ty _ hg, ?_, fun i x hx => ?_⟩ (fun j hj => setRow_other _ _ _ _ hj) (by simp)
    ·rw [← hsz]; simp [paste]; simp at hfit; omega
    ·rw [XbZ (by rw [hc1]; omega)] at hx
     simp only [List.getElem?_toArray]
     rw [XbZ (by simpa using hfit)]
     rw [← hlen]
     split at hx
     ·rename_i hin
      rw [if_pos (by omega), show (ρ b).off + i - ((ρ b).off + off) = i - off by omega]
      exact hvl.get hx
     ·rename_i hin
      rw [if_neg (by omega)]
      simpa using hcells i x hx
   ·refine ⟨rfl, rfl, rfl, by simp, fun j hj => ?_⟩
    exact setRow_other _ _ _ _ (by have := h.own _ _ (Ja hb) hro; omega)
  ·simp at hv
end
end Go.Proofs.Ytiaiecfnpompcaa.Ab
namespace Go.Proofs.Ytiaiecfnpompcaa.Ab
open Go Go.RowKit
set_option linter.unusedVariables false
set_option linter.unusedSimpArgs false

theorem XdQ {α β : Type} : ∀ (l : List α) (k : List α → β), fl l k = k l
 | [], k => rfl
 | x :: xs, k => by simp only [fl]; rw [XdQ xs]
theorem Xb9 (g o k : Nat) : (⟨g, o, none⟩ : Addr).add k = ⟨g, o + k, none⟩ := by unfold Addr.add; split <;> simp_all

section
variable {P : Program} {B ro : Nat} {U : Nat → Prop} {ρ : Nat → Pl} {st : St} {w : World}

theorem Post.same (h : HR B ro U ρ st.next st.mem w) {v v' : Value} (hv : VR U ρ v v') : Post B ro U ρ st.next w v st v' w :=
 ⟨U, ρ, Ext.refl _ _ _, h, hv, Below.refl _ _⟩
theorem Post.new (h : HR B ro U ρ st.next st.mem w) {cs cs' : List Value} (t : TypeId) (hc : VL U ρ cs cs') {v v' : Value}
  (hv : VR (fun b => U b ∨ b = st.next) (fun b => if b = st.next then ⟨w.heap.size, 0, cs'.length⟩ else ρ b) v v') : Post B ro U ρ st.next w v (fresh st cs) v' (w.alloc (.cells ⟨cs'⟩ t (0, 0))) :=
 ⟨_, _, HR.fresh_ext h.lt _, h.alloc t hc, hv, (Below.refl _ _).alloc h.base _⟩
theorem Xd2 {n g k : Nat} : VR (fun b => U b ∨ b = n) (fun b => if b = n then ⟨g, 0, k⟩ else ρ b) (.pointer (some ⟨n, 0, none⟩)) (.pointer (some ⟨g, 0, none⟩)) := by
 have := VR.ptr (U := fun b => U b ∨ b = n) (ρ := fun b => if b = n then ⟨g, 0, k⟩ else ρ b) n 0 (.inr rfl)
 simpa using this
theorem Xe8 {n g k len c sz : Nat} (h1 : len ≤ c) (h2 : c * sz ≤ k) : VR (fun b => U b ∨ b = n) (fun b => if b = n then ⟨g, 0, k⟩ else ρ b) (.slice (some ⟨n, 0, none⟩) len sz) (.slice (some ⟨g, 0, none⟩) len c) := by
 have := VR.sl (U := fun b => U b ∨ b = n) (ρ := fun b => if b = n then ⟨g, 0, k⟩ else ρ b) n 0 len sz c (.inr rfl) h1 (by simpa using h2)
 simpa using this

variable {ev ev' : Operand → Value} {o : Oper} {v : Value} {st' : St}

theorem Xc9 (h : HR B ro U ρ st.next st.mem w) (hev : ∀ x ∈ o.op.operands, VR U ρ (ev x) (ev' x)) (hs : ∀ cs b, o.op ≠ .select cs b) (he : Jh P ev o st = some (v, st')) :
  YG P (execOp ev' o) w (Post B ro U ρ st.next w v st') := by
 unfold Jh at he
 split at he
 ·rename_i hall
  split at he
  ·rename_i u hu
   split at he
   ·rename_i hg
    simp only [Option.some.injEq, Prod.mk.injEq] at he
    obtain ⟨rfl, rfl⟩ := he
    have hc : execOp ev' o = execOp ev o := execOp_congr o hs fun x hx => by
     rw [List.all_eq_true] at hall
     exact VR.eq 8 _ _ (hall x (by simpa using hx)) (hev x hx)
    exact .inl ⟨u, w, by rw [hc]; exact XaO P _ hu w, Post.same h (VR.refl 8 u hg)⟩
   ·simp at he
  ·simp at he
 ·simp at he

theorem VR.agg_inv {xs : List Value} {y : Value} (h : VR U ρ (.agg ⟨xs⟩) y) : ∃ ys, y = .agg ⟨ys⟩ ∧ VL U ρ xs ys := by cases h with | agg _ ys h => exact ⟨ys, rfl, h⟩
theorem Xfv {f : Field} {d k : Nat} {b : Bool} {isI : Bool} {xs ys xs' ys' : List Value} (hx : VL U ρ xs xs') (hy : VL U ρ ys ys') (hu : (isI = true → ∃ q, P.underlying f.type = some (.int q)) ∧ (isI = false → P.underlying f.type = some .bool)) (hb : Xbm isI xs[f.offset]? ys[f.offset]? = some b) :
  ∃ u u', (part f.type ⟨xs'⟩ f.offset).run P w = .ok u w ∧ (part f.type ⟨ys'⟩ f.offset).run P w = .ok u' w ∧ (Op.equalIn (d + 1) f.type u u').run P w = .ok b w := by
 unfold Xbm at hb
 have hagg : aggT P f.type = some false := by
  unfold aggT
  cases isI with
  | true => obtain ⟨q, hq⟩ := hu.1 rfl; rw [hq]
  | false => rw [hu.2 rfl]
 have hp : ∀ (zs zs' : List Value) (u : Value), VL U ρ zs zs' → zs[f.offset]? = some u → gnd 1 u = true → (part f.type ⟨zs'⟩ f.offset).run P w = .ok u w := by
  intro zs zs' u hz hu hg
  obtain ⟨u', h1, h2⟩ := hz.get hu
  have := VR.eq 1 u u' hg h2
  subst this
  simp [part, Jw hagg, h1]
 split at hb
 ·rename_i k1 a k2 c h1 h2
  split at hb
  ·rename_i hk
   have hk := of_decide_eq_true hk
   subst hk
   simp only [Option.some.injEq] at hb
   subst hb
   obtain ⟨q, hq⟩ := hu.1 rfl
   exact ⟨_, _, hp _ _ _ hx h1 rfl, hp _ _ _ hy h2 rfl, by simp [Op.equalIn, run_underlying hq]⟩
  ·simp at hb
 ·rename_i a c h1 h2
  simp only [Option.some.injEq] at hb
  subst hb
  exact ⟨_, _, hp _ _ _ hx h1 rfl, hp _ _ _ hy h2 rfl, by simp [Op.equalIn, run_underlying (hu.2 rfl)]⟩
 ·simp at hb
theorem Xcm {d : Nat} {xs ys xs' ys' : List Value} (hx : VL U ρ xs xs') (hy : VL U ρ ys ys') : ∀ (fs : List Field) (l : List (Nat × Bool)) (b : Bool), JR P fs = some l → YK l xs ys = some b → (Op.eqFields (d + 1) ⟨xs'⟩ ⟨ys'⟩ fs).run P w = .ok b w
 | [], l, b, hl, hb => by
  simp only [JR, Option.some.injEq] at hl
  subst hl
  simp only [YK, Option.some.injEq] at hb
  subst hb
  simp [Op.eqFields]
 | f :: fs, l, b, hl, hb => by
  have main : ∀ isI l0, JR P fs = some l0 → (f.name == "_") = false → ((isI = true → ∃ q, P.underlying f.type = some (.int q)) ∧ (isI = false → P.underlying f.type = some .bool)) → l = (f.offset, isI) :: l0 → (Op.eqFields (d + 1) ⟨xs'⟩ ⟨ys'⟩ (f :: fs)).run P w = .ok b w := by
   intro isI l0 h0 hn hu hle
   subst hle
   have hn' : f.name ≠ "_" := by simpa using hn
   simp only [YK] at hb
   split at hb
   ·rename_i a c h1 h2
    obtain ⟨u, u', g1, g2, g3⟩ := Xfv (P := P) (w := w) (d := d) (k := 0) (f := f) hx hy hu h1
    have g4 := Xcm (d := d) hx hy fs l0 c h0 h2
    have hres : b = (a && c) := by
     split at hb
     ·simp only [Option.some.injEq] at hb
      simp only [YK, Option.some.injEq] at h2
      rw [← hb, ← h2, Bool.and_true]
     ·simp only [Option.some.injEq] at hb; exact hb.symm
    rw [Op.eqFields]
    simp only [if_pos hn', Sem.run_bind, g1, g2, g3, Result.andThen_ok]
    rw [hres]
    cases a
    ·simp
    ·simpa using g4
   ·simp at hb
  simp only [JR] at hl
  split at hl
  ·rename_i l0 hn hu h0
   simp only [Option.some.injEq] at hl
   exact main true l0 h0 hn ⟨fun _ => ⟨_, hu⟩, fun q => by simp at q⟩ hl.symm
  ·rename_i l0 hn hu h0
   simp only [Option.some.injEq] at hl
   exact main false l0 h0 hn ⟨fun q => by simp at q, fun _ => hu⟩ hl.symm
  ·simp at hl
theorem Xbs {t : TypeId} {b : Bool} {xs ys xs' ys' : List Value} (hx : VL U ρ xs xs') (hy : VL U ρ ys ys') (hb : ((Jp P t).bind fun l => YK l xs ys) = some b) :
  (∀ op {p q : Operand}, (eqGuard op t p q (.agg ⟨xs'⟩) (.agg ⟨ys'⟩)).run P w = .ok () w) ∧ (Op.equal t (.agg ⟨xs'⟩) (.agg ⟨ys'⟩)).run P w = .ok b w := by
 obtain ⟨l, hl, hc⟩ := Option.bind_eq_some_iff.mp hb
 unfold Jp at hl
 split at hl
 ·rename_i fs hu
  split at hl
  ·rename_i h1 h2
   refine ⟨fun op p q => ?_, ?_⟩
   ·unfold eqGuard
    cases op <;> simp [h2]
   ·have hf : P.fieldsOf t = fs := by simp [Program.fieldsOf, hu]
    unfold Op.equal
    rw [show Op.maxDepth = 9998 + 1 + 1 from rfl, run_equalIn_struct (P := P) w (9998 + 1) t ⟨xs'⟩ ⟨ys'⟩ (by rw [hf]; exact hu) h1, hf]
    exact Xcm hx hy fs.toList l b hl hc
  ·simp at hl
 ·simp at hl
theorem YQ {g : Nat} {ob : Obj} (h : w.heap[g]? = some ob) (hn : ∀ c e f, ob ≠ .cells c e f) : (getObj g).run P w = .ok ob w := by
 unfold getObj
 simp only [Sem.run, h]
theorem Xa7 {g : Nat} {ob : Obj} (o : Obj) (h : w.heap[g]? = some ob) (hn : ∀ c e f, ob ≠ .cells c e f) : (setObj g o).run P w = .ok () { w with heap := w.heap.setIfInBounds g o } := by
 unfold setObj
 simp only [Sem.run, h]
theorem Xgq {d : Nat} {t : TypeId} {x y x' y' : Value} (hx : VR U ρ x x') (hy : VR U ρ y y') (h : Xbc P t x y = true) : (Op.equalIn (d + 1) t x' y').run P w = .ok false w := by
 unfold Xbc at h
 split at h
 ·rename_i hu; cases hx; cases hy; simp [Op.equalIn, run_underlying hu]
 ·rename_i hu; cases hx; cases hy; simp [Op.equalIn, run_underlying hu]
 ·rename_i hu; cases hx; cases hy; simp [Op.equalIn, run_underlying hu]
 ·rename_i hu; cases hx; cases hy; simp [Op.equalIn, run_underlying hu]
 ·simp at h
theorem XbA {t : TypeId} {x y x' y' : Value} (hx : VR U ρ x x') (hy : VR U ρ y y') (h : Xbc P t x y = true) (op : BinOp) (p q : Operand) : (eqGuard op t p q x' y').run P w = .ok () w := by
 unfold Xbc at h
 split at h
 ·cases hx; cases hy; cases op <;> simp [eqGuard]
 ·cases hx; cases hy; cases op <;> simp [eqGuard]
 ·cases hx; cases hy; cases op <;> simp [eqGuard]
 ·cases hx; cases hy; cases op <;> simp [eqGuard]
 ·simp at h
theorem XcJ {t : TypeId} {x y x' y' : Value} (hx : VR U ρ x x') (hy : VR U ρ y y') (h : Xbc P t x y = true) : (Go.binOp .eql t x' y').run P w = .ok (.bool false) w ∧ (Go.binOp .neq t x' y').run P w = .ok (.bool true) w := by
 have he : (Op.equal t x' y').run P w = .ok false w := Xgq (P := P) (w := w) (d := 9999) hx hy h
 unfold Xbc at h
 split at h
 ·cases hx; cases hy; simp [Go.binOp, he]
 ·cases hx; cases hy; simp [Go.binOp, he]
 ·cases hx; cases hy; simp [Go.binOp, he]
 ·cases hx; cases hy; simp [Go.binOp, he]
 ·simp at h
theorem XhP (h : HR B ro U ρ st.next st.mem w) {op : BinOp} {t u : TypeId} {x y : Operand} (ho : o.op = .binOp op t x y u) (hev : ∀ x ∈ o.op.operands, VR U ρ (ev x) (ev' x)) (he : oBin P ev o op t (ev x) (ev y) st = some (v, st')) :
  YG P (execOp ev' o) w (Post B ro U ρ st.next w v st') := by
 have hpure := Xc9 (P := P) (v := v) (st' := st') h hev (fun cs b => by rw [ho]; simp)
 have hx := hev x (by simp [ho, Op.operands])
 have hy := hev y (by simp [ho, Op.operands])
 unfold oBin at he
 split at he
 ·rename_i k a k' b hxa hyb
  split at he
  ·rename_i u' hk hi
   simp only [Option.some.injEq, Prod.mk.injEq] at he
   obtain ⟨rfl, rfl⟩ := he
   have hk := of_decide_eq_true hk
   subst hk
   rw [hxa] at hx
   rw [hyb] at hy
   have e1 : ev' x = .int k a := VR.eq 1 _ _ rfl hx
   have e2 : ev' y = .int k b := VR.eq 1 _ _ rfl hy
   refine .inl ⟨u', w, ?_, Post.same h ?_⟩
   ·simp only [execOp, ho, e1, e2]
    cases op <;> simp only [Xhf, Option.some.injEq, reduceCtorEq] at hi <;> (try subst hi) <;>
     simp [eqGuard, Go.binOp, Op.intArith, Op.intCmp]
   ·cases op <;> simp only [Xhf, Option.some.injEq, reduceCtorEq] at hi <;> subst hi <;> constructor
  ·exact hpure he
 ·rename_i xs ys hxa hyb
  rw [hxa] at hx
  rw [hyb] at hy
  obtain ⟨xs', ex, hxl⟩ := hx.agg_inv
  obtain ⟨ys', ey, hyl⟩ := hy.agg_inv
  split at he
  ·rename_i b hb
   simp only [Option.some.injEq, Prod.mk.injEq] at he
   obtain ⟨rfl, rfl⟩ := he
   have hrun := Xbs (P := P) (w := w) hxl hyl hb
   exact .inl ⟨.bool b, w, by simp only [execOp, ho, ex, ey, Sem.run_bind, hrun.1 .eql, Result.andThen_ok, Go.binOp, hrun.2, Sem.run_pure], Post.same h (.bool _)⟩
  ·rename_i b hb
   simp only [Option.some.injEq, Prod.mk.injEq] at he
   obtain ⟨rfl, rfl⟩ := he
   have hrun := Xbs (P := P) (w := w) hxl hyl hb
   exact .inl ⟨.bool (!b), w, by simp only [execOp, ho, ex, ey, Sem.run_bind, hrun.1 .neq, Result.andThen_ok, Go.binOp, hrun.2, Sem.run_pure], Post.same h (.bool _)⟩
  ·exact hpure he
 ·split at he
  ·rename_i hn
   simp only [Option.some.injEq, Prod.mk.injEq] at he
   obtain ⟨rfl, rfl⟩ := he
   exact .inl ⟨.bool false, w, by simp only [execOp, ho, Sem.run_bind, XbA (P := P) (w := w) hx hy hn .eql, Result.andThen_ok, (XcJ (P := P) (w := w) hx hy hn).1, Sem.run_pure], Post.same h (.bool _)⟩
  ·rename_i hn
   simp only [Option.some.injEq, Prod.mk.injEq] at he
   obtain ⟨rfl, rfl⟩ := he
   exact .inl ⟨.bool true, w, by simp only [execOp, ho, Sem.run_bind, XbA (P := P) (w := w) hx hy hn .neq, Result.andThen_ok, (XcJ (P := P) (w := w) hx hy hn).2, Sem.run_pure], Post.same h (.bool _)⟩
  ·exact hpure he

theorem Xg6 (h : HR B ro U ρ st.next st.mem w) {c a b : Operand} (ho : o.op = .pick c a b) (hev : ∀ x ∈ o.op.operands, VR U ρ (ev x) (ev' x)) (he : XfH (ev c) (ev a) (ev b) st = some (v, st')) :
  YG P (execOp ev' o) w (Post B ro U ρ st.next w v st') := by
 have hc := hev c (by simp [ho, Op.operands])
 have ha := hev a (by simp [ho, Op.operands])
 have hb := hev b (by simp [ho, Op.operands])
 unfold XfH at he
 split at he
 ·rename_i e
  rw [e] at hc
  have e1 : ev' c = .bool true := VR.eq 1 _ _ rfl hc
  simp only [Option.some.injEq, Prod.mk.injEq] at he
  obtain ⟨rfl, rfl⟩ := he
  exact .inl ⟨ev' a, w, by simp [execOp, ho, e1, asBool], Post.same h ha⟩
 ·rename_i e
  rw [e] at hc
  have e1 : ev' c = .bool false := VR.eq 1 _ _ rfl hc
  simp only [Option.some.injEq, Prod.mk.injEq] at he
  obtain ⟨rfl, rfl⟩ := he
  exact .inl ⟨ev' b, w, by simp [execOp, ho, e1, asBool], Post.same h hb⟩
 ·simp at he

theorem VR.tup_inv {xs : List Value} {y : Value} (h : VR U ρ (.tuple ⟨xs⟩) y) : ∃ ys, y = .tuple ⟨ys⟩ ∧ VL U ρ xs ys := by cases h with | tup _ ys h => exact ⟨ys, rfl, h⟩
theorem VR.ptr_inv {b o : Nat} {y : Value} (h : VR U ρ (.pointer (some ⟨b, o, none⟩)) y) : U b ∧ y = .pointer (some ⟨(ρ b).g, (ρ b).off + o, none⟩) := by cases h with | ptr _ _ h => exact ⟨h, rfl⟩
theorem VR.ptr_some {a : Addr} {y : Value} (h : VR U ρ (.pointer (some a)) y) : ∃ a', y = .pointer (some a') := by cases h with | ptr _ _ h => exact ⟨_, rfl⟩
theorem VR.sl_inv {b o n sz : Nat} {y : Value} (h : VR U ρ (.slice (some ⟨b, o, none⟩) n sz) y) : U b ∧ ∃ c, y = .slice (some ⟨(ρ b).g, (ρ b).off + o, none⟩) n c ∧ n ≤ c ∧ (ρ b).off + o + c * sz ≤ (ρ b).n := by
 cases h with | sl _ _ _ _ c h h1 h2 => exact ⟨h, c, rfl, h1, h2⟩
theorem VR.fn_inv {f : FuncId} {xs ys : List Value} {y : Value} (h : VR U ρ (.func (.func f) ⟨xs⟩ ⟨ys⟩) y) : ∃ xs' ys', y = .func (.func f) ⟨xs'⟩ ⟨ys'⟩ ∧ VL U ρ xs xs' ∧ VL U ρ ys ys' := by
 cases h with | fn _ _ _ xs' ys' h1 h2 => exact ⟨xs', ys', rfl, h1, h2⟩
theorem VR.map_inv {b : Nat} {y : Value} (h : VR U ρ (.map (some b)) y) : U b ∧ y = .map (some (ρ b).g) := by cases h with | mapv _ h => exact ⟨h, rfl⟩
theorem VR.int_inv {k : IntKind} {n : Int} {y : Value} (h : VR U ρ (.int k n) y) : y = .int k n := by cases h; rfl

theorem XeG (h : HR B ro U ρ st.next st.mem w) {x : Operand} {ix : Nat} (ho : o.op = .extract x ix) (hev : ∀ x ∈ o.op.operands, VR U ρ (ev x) (ev' x)) (he : Xbz (ev x) ix st = some (v, st')) :
  YG P (execOp ev' o) w (Post B ro U ρ st.next w v st') := by
 have hx := hev x (by simp [ho, Op.operands])
 unfold Xbz at he
 split at he
 ·rename_i vs e
  rw [e] at hx
  split at he
  ·rename_i u hu
   simp only [Option.some.injEq, Prod.mk.injEq] at he
   obtain ⟨rfl, rfl⟩ := he
   obtain ⟨ys, e1, hl⟩ := hx.tup_inv
   obtain ⟨y, hy, hr⟩ := hl.get hu
   exact .inl ⟨y, w, by simp [execOp, ho, e1, Instr.extract, hy], Post.same h hr⟩
  ·simp at he
 ·simp at he

theorem Xgp (h : HR B ro U ρ st.next st.mem w) {t : TypeId} (ho : o.op = .alloc t) (he : Xfj P t st = some (v, st')) :
  YG P (execOp ev' o) w (Post B ro U ρ st.next w v st') := by
 unfold Xfj at he
 split at he
 ·rename_i z hz
  simp only [Option.some.injEq, Prod.mk.injEq] at he
  obtain ⟨rfl, rfl⟩ := he
  refine .inl ⟨.pointer (some ⟨w.heap.size, 0, none⟩), w.alloc (.cells ⟨z.cells.toList⟩ t (0, 0)), ?_, ?_⟩
  ·simp [execOp, ho, Instr.alloc, JZ hz, newVar, newRow]
  ·exact Post.new h t (VR.refl 8 z (Y0 hz).1).cells Xd2
 ·simp at he

theorem XhO (h : HR B ro U ρ st.next st.mem w) {t : TypeId} {x : Operand} (ho : o.op = .box t x) (hev : ∀ x ∈ o.op.operands, VR U ρ (ev x) (ev' x)) (he : oBox (ev x) st = some (v, st')) :
  YG P (execOp ev' o) w (Post B ro U ρ st.next w v st') := by
 have hx := hev x (by simp [ho, Op.operands])
 unfold oBox at he
 simp only [Option.some.injEq, Prod.mk.injEq] at he
 obtain ⟨rfl, rfl⟩ := he
 refine .inl ⟨.pointer (some ⟨w.heap.size, 0, none⟩), w.alloc (.cells ⟨(ev' x).cells.toList⟩ t (0, 0)), ?_, ?_⟩
 ·simp [execOp, ho, Instr.box, newVar, newRow]
 ·exact Post.new h t hx.cells Xd2

theorem Xg7 (h : HR B ro U ρ st.next st.mem w) {t : TypeId} {x : Operand} (ho : o.op = .load t x) (hev : ∀ x ∈ o.op.operands, VR U ρ (ev x) (ev' x)) (he : XeF P t (ev x) st = some (v, st')) :
  YG P (execOp ev' o) w (Post B ro U ρ st.next w v st') := by
 have hx := hev x (by simp [ho, Op.operands])
 unfold XeF at he
 split at he
 ·rename_i b off e
  rw [e] at hx
  obtain ⟨_, e1⟩ := hx.ptr_inv
  split at he
  ·rename_i cs hb
   split at he
   ·rename_i u hu
    simp only [Option.some.injEq, Prod.mk.injEq] at he
    obtain ⟨rfl, rfl⟩ := he
    obtain ⟨v', h1, h2⟩ := XdX h hb hu
    exact .inl ⟨v', w, by simp [execOp, ho, e1, Instr.loadAt, Instr.sureAddr, h1], Post.same h h2⟩
   ·simp at he
  ·simp at he
 ·simp at he

theorem Xgj (h : HR B ro U ρ st.next st.mem w) {t : TypeId} {a x : Operand} (ho : o.op = .store t a x) (hev : ∀ x ∈ o.op.operands, VR U ρ (ev x) (ev' x)) (he : Xd4 P ro t (ev a) (ev x) st = some (v, st')) :
  YG P (execOp ev' o) w (Post B ro U ρ st.next w v st') := by
 have ha := hev a (by simp [ho, Op.operands])
 have hx := hev x (by simp [ho, Op.operands])
 unfold Xd4 at he
 split at he
 ·rename_i b off e
  rw [e] at ha
  obtain ⟨_, e1⟩ := ha.ptr_inv
  split at he
  ·rename_i cs hro hb
   split at he
   ·rename_i cs' hs
    rw [XdQ] at he
    simp only [Option.some.injEq, Prod.mk.injEq] at he
    obtain ⟨rfl, rfl⟩ := he
    obtain ⟨w', h1, h2, h3⟩ := Xfz h hb (Nat.le_of_ble_eq_true hro) hx hs
    exact .inr (.inl ⟨w', by simp [execOp, ho, e1, Instr.storeAt, Instr.sureAddr, h1], U, ρ, Ext.refl _ _ _, h2, .tup _ _ .nil, h3⟩)
   ·simp at he
  ·simp at he
 ·simp at he

theorem Xdm (h : HR B ro U ρ st.next st.mem w) {t : TypeId} {x : Operand} {f : Nat} (ho : o.op = .fieldAddr t x f) (hev : ∀ x ∈ o.op.operands, VR U ρ (ev x) (ev' x)) (he : J9 P t (ev x) f st = some (v, st')) :
  YG P (execOp ev' o) w (Post B ro U ρ st.next w v st') := by
 have hx := hev x (by simp [ho, Op.operands])
 unfold J9 at he
 split at he
 ·rename_i b off e
  rw [e] at hx
  obtain ⟨hU, e1⟩ := hx.ptr_inv
  split at he
  ·rename_i fs hu
   split at he
   ·rename_i q hf
    split at he
    ·rename_i k hk
     split at he
     ·rename_i hp
      simp only [Option.some.injEq, Prod.mk.injEq] at he
      obtain ⟨rfl, rfl⟩ := he
      have hp : 0 < k := Nat.le_of_ble_eq_true hp
      refine .inl ⟨.pointer (some ⟨(ρ b).g, (ρ b).off + (off + q.offset), none⟩), w, ?_, Post.same h (.ptr b _ hU)⟩
      simp [execOp, ho, e1, Instr.fieldAt, Instr.sureAddr, run_underlying hu, hf, fieldPlace, Y1 hk, show ¬ k = 0 by omega, Xb9, Nat.add_assoc]
     ·simp at he
    ·simp at he
   ·simp at he
  ·simp at he
 ·simp at he

theorem Xdl (h : HR B ro U ρ st.next st.mem w) {t : TypeId} {x ix : Operand} (ho : o.op = .indexAddr t x ix) (hev : ∀ x ∈ o.op.operands, VR U ρ (ev x) (ev' x)) (he : J8 P t (ev x) (ev ix) st = some (v, st')) :
  YG P (execOp ev' o) w (Post B ro U ρ st.next w v st') := by
 have hx := hev x (by simp [ho, Op.operands])
 have hi := hev ix (by simp [ho, Op.operands])
 unfold J8 at he
 split at he
 ·rename_i k i ei
  rw [ei] at hi
  have ei' := hi.int_inv
  split at he
  ·rename_i b off e
   rw [e] at hx
   obtain ⟨hU, e1⟩ := hx.ptr_inv
   split at he
   ·rename_i len elem hu
    split at he
    ·rename_i size hs hlt
     simp only [Option.some.injEq, Prod.mk.injEq] at he
     obtain ⟨rfl, rfl⟩ := he
     have hlt : i < len := Nat.le_of_ble_eq_true hlt
     refine .inl ⟨.pointer (some ⟨(ρ b).g, (ρ b).off + (off + i * size), none⟩), w, ?_, Post.same h (.ptr b _ hU)⟩
     simp [execOp, ho, e1, ei', Instr.indexAt, Instr.sureAddr, asIntOf, run_underlying hu, Y1 hs, hlt, Xb9, Nat.add_assoc]
    ·simp at he
   ·simp at he
  ·rename_i b off len sz e
   rw [e] at hx
   obtain ⟨hU, c, e1, hc1, hc2⟩ := hx.sl_inv
   split at he
   ·rename_i elem hu
    split at he
    ·rename_i size hs
     split at he
     ·rename_i hlt
      simp only [Bool.and_eq_true] at hlt
      simp only [Option.some.injEq, Prod.mk.injEq] at he
      obtain ⟨rfl, rfl⟩ := he
      have hlt : i < len := Nat.le_of_ble_eq_true hlt.1
      refine .inl ⟨.pointer (some ⟨(ρ b).g, (ρ b).off + (off + i * size), none⟩), w, ?_, Post.same h (.ptr b _ hU)⟩
      simp [execOp, ho, e1, ei', Instr.indexAt, Instr.sureAddr, asIntOf, run_underlying hu, Y1 hs, hlt, Xb9, Nat.add_assoc]
     ·simp at he
    ·simp at he
   ·simp at he
  ·simp at he
 ·simp at he

theorem Xd5 (h : HR B ro U ρ st.next st.mem w) {x : Operand} (ho : o.op = .nilCheck x) (hev : ∀ x ∈ o.op.operands, VR U ρ (ev x) (ev' x)) (he : XaR (ev x) st = some (v, st')) :
  YG P (execOp ev' o) w (Post B ro U ρ st.next w v st') := by
 have hx := hev x (by simp [ho, Op.operands])
 unfold XaR at he
 split at he
 ·rename_i a e
  simp only [Option.some.injEq, Prod.mk.injEq] at he
  obtain ⟨rfl, rfl⟩ := he
  rw [e] at hx
  obtain ⟨a', e1⟩ := hx.ptr_some
  exact .inl ⟨ev' x, w, by simp [execOp, ho, e1], Post.same h hx⟩
 ·rename_i f a b e
  simp only [Option.some.injEq, Prod.mk.injEq] at he
  obtain ⟨rfl, rfl⟩ := he
  rw [e] at hx
  obtain ⟨a⟩ := a
  obtain ⟨b⟩ := b
  obtain ⟨xs', ys', e1, h1, h2⟩ := hx.fn_inv
  exact .inl ⟨ev' x, w, by simp [execOp, ho, e1], Post.same h hx⟩
 ·simp at he

theorem XhN (h : HR B ro U ρ st.next st.mem w) {c : Call} (ho : o.op = .call c) (hc : c.callee = .builtin .len) (hev : ∀ x ∈ o.op.operands, VR U ρ (ev x) (ev' x)) (he : oLen P ev o (c.args.toList.map ev) c.argTypes.toList st = some (v, st')) :
  YG P (execOp ev' o) w (Post B ro U ρ st.next w v st') := by
 have hpure := Xc9 (P := P) (v := v) (st' := st') h hev (fun cs b => by rw [ho]; simp)
 unfold oLen at he
 split at he
 ·rename_i b off n sz t ea et
  split at he
  ·rename_i elem hu
   simp only [Option.some.injEq, Prod.mk.injEq] at he
   obtain ⟨rfl, rfl⟩ := he
   obtain ⟨y, hy, e2⟩ : ∃ y, c.args = #[y] ∧ ev y = .slice (some ⟨b, off, none⟩) n sz := by
    obtain ⟨y, h1, h2⟩ := List.map_eq_singleton_iff.mp ea
    exact ⟨y, Array.ext' h1, h2⟩
   have hx := hev y (by simp [ho, Op.operands, Call.operands, hy])
   rw [e2] at hx
   obtain ⟨hU, c', e1, _, _⟩ := hx.sl_inv
   have ht : c.argTypes = #[t] := Array.ext' et
   refine .inl ⟨.int .i64 n, w, ?_, Post.same h (.int _ _)⟩
   simp [execOp, ho, resolve, hc, hy, ht, e1, invoke, builtin, Builtin.len_, run_underlying hu, goInt]
  ·simp at he
 ·rename_i b t ea et
  split at he
  ·rename_i kt el es clock hu hl
   simp only [Option.some.injEq, Prod.mk.injEq] at he
   obtain ⟨rfl, rfl⟩ := he
   obtain ⟨y, hy, e2⟩ : ∃ y, c.args = #[y] ∧ ev y = .map (some b) := by
    obtain ⟨y, h1, h2⟩ := List.map_eq_singleton_iff.mp ea
    exact ⟨y, Array.ext' h1, h2⟩
   have hx := hev y (by simp [ho, Op.operands, Call.operands, hy])
   rw [e2] at hx
   have e1 := hx.map_inv.2
   have hb : w.heap[(ρ b).g]? = some (.map ⟨es⟩ clock) := (h.blk b _ hl).2
   have ht : c.argTypes = #[t] := Array.ext' et
   refine .inl ⟨.int .i64 es.length, w, ?_, Post.same h (.int _ _)⟩
   simp [execOp, ho, resolve, hc, hy, ht, e1, invoke, builtin, Builtin.len_, run_underlying hu, goInt, YQ hb (fun _ _ _ => by simp)]
  ·simp at he
 ·exact hpure he
end
end Go.Proofs.Ytiaiecfnpompcaa.Ab
namespace Go.Proofs.Ytiaiecfnpompcaa.Ab
open Go Go.RowKit
set_option linter.unusedVariables false
set_option linter.unusedSimpArgs false
section
variable {P : Program} {B ro : Nat} {U : Nat → Prop} {ρ : Nat → Pl} {st : St} {w : World}
variable {ev ev' : Operand → Value} {o : Oper} {v : Value} {st' : St}

theorem VL.set : ∀ {xs ys : List Value}, VL U ρ xs ys → ∀ {x y : Value}, VR U ρ x y → ∀ i, VL U ρ (xs.set i x) (ys.set i y)
 | _, _, .nil, _, _, _, i => by simpa using .nil
 | _, _, .cons a b xs ys h1 h2, x, y, h, 0 => .cons _ _ _ _ h h2
 | _, _, .cons a b xs ys h1 h2, x, y, h, i + 1 => .cons _ _ _ _ h1 (VL.set h2 h i)
theorem Xet (a : Array Value) (i : Nat) (x : Value) : (a.setIfInBounds i x).toList = a.toList.set i x := by
 simp
theorem XfL (off : Nat) : ∀ {xs ys : List Value}, VL U ρ xs ys → ∀ (k : Nat) {a b : Array Value}, VL U ρ a.toList b.toList →
  VL U ρ ((xs.zipIdx k).foldl (fun cs (c, j) => cs.setIfInBounds (off + j) c) a).toList ((ys.zipIdx k).foldl (fun cs (c, j) => cs.setIfInBounds (off + j) c) b).toList
 | _, _, .nil, _, _, _, h => h
 | _, _, .cons x y xs ys h1 h2, k, a, b, h => by
  simp only [List.zipIdx_cons, List.foldl_cons]
  exact XfL off h2 (k + 1) (by rw [Xet, Xet]; exact h.set h1 _)
theorem XbJ (place : Nat → Option (Nat × Nat)) : ∀ (l : List (Nat × Operand)), (∀ p ∈ l, VR U ρ (ev p.2) (ev' p.2)) → ∀ {a b : Array Value}, VL U ρ a.toList b.toList → ∀ {r : Array Value},
  Instr.fill place a (l.map fun p => (p.1, ev p.2)) = some r → ∃ r', Instr.fill place b (l.map fun p => (p.1, ev' p.2)) = some r' ∧ VL U ρ r.toList r'.toList ∧ r.size = a.size
 | [], _, a, b, h, r, hr => by
  simp only [List.map_nil, Instr.fill, Option.some.injEq] at hr
  exact ⟨b, rfl, hr ▸ h, by rw [← hr]⟩
 | p :: l, hp, a, b, h, r, hr => by
  have h1 := hp p (by simp)
  have hc := h1.cells
  have hl := hc.len
  have hab := h.len
  simp only [Array.length_toList] at hl hab
  simp only [List.map_cons, Instr.fill] at hr ⊢
  cases hpl : place p.1 with
  | none => simp [hpl] at hr
  | some q =>
   simp only [hpl] at hr ⊢
   rw [← hl, ← hab]
   split at hr
   ·simp at hr
   ·rename_i hc2
    rw [if_neg hc2]
    have := XfL q.1 hc 0 h
    have e1 : ∀ (z : Array Value) (d : Array Value), z.zipIdx.foldl (fun cs x => cs.setIfInBounds (q.1 + x.2) x.1) d = (z.toList.zipIdx 0).foldl (fun cs (c, j) => cs.setIfInBounds (q.1 + j) c) d := by
     intro z d
     rw [← Array.foldl_toList]
     simp
    obtain ⟨r', h3, h4, h5⟩ := XbJ place l (fun p' hp' => hp p' (by simp [hp'])) (a := (ev p.2).cells.zipIdx.foldl (fun cs x => cs.setIfInBounds (q.1 + x.2) x.1) a) (b := (ev' p.2).cells.zipIdx.foldl (fun cs x => cs.setIfInBounds (q.1 + x.2) x.1) b) (by rw [e1, e1]; exact this) hr
    refine ⟨r', h3, h4, h5.trans ?_⟩
    have key : ∀ (zs : List (Value × Nat)) (d : Array Value), (zs.foldl (fun (cs : Array Value) x => cs.setIfInBounds (q.1 + x.2) x.1) d).size = d.size := by
     intro zs
     induction zs with
     | nil => intro d; rfl
     | cons z zs ih => intro d; simp only [List.foldl_cons]; rw [ih]; simp
    rw [e1]
    exact key _ a

theorem Xdp {z : Value} (hz : gnd 8 z = true) (k : Nat) (hk : k = 0 ∨ 0 < z.cells.size) : VL U ρ ((Array.range k).map (z.cells[· % z.cells.size]!)).toList ((Array.range k).map (z.cells[· % z.cells.size]!)).toList := by
 refine VL.of rfl fun i x hx => ⟨x, hx, ?_⟩
 have hc := (VR.refl (U := U) (ρ := ρ) 8 z hz).cells
 have hi : i < k := by
  have := (List.getElem?_eq_some_iff.1 hx).1
  simpa using this
 simp only [Array.toList_map, Array.toList_range, List.getElem?_map, List.getElem?_range, hi, if_true, Option.map_some, Option.some.injEq] at hx
 have hm : i % z.cells.size < z.cells.size := Nat.mod_lt _ (by rcases hk with hk | hk <;> omega)
 have e : z.cells.toList[i % z.cells.size]? = some x := by
  rw [← hx, Array.getElem?_toList, Array.getElem?_eq_getElem hm]
  simp [hm]
 obtain ⟨y, hy, hr⟩ := hc.get e
 rw [e] at hy
 simp only [Option.some.injEq] at hy
 subst hy
 exact hr

theorem Xdo (h : HR B ro U ρ st.next st.mem w) {t : TypeId} {len : Nat} {parts : Array (Nat × Operand)} (ho : o.op = .buildSlice t len parts) (hev : ∀ x ∈ o.op.operands, VR U ρ (ev x) (ev' x))
  (he : XaG P t len (parts.toList.map fun p => (p.1, ev p.2)) st = some (v, st')) : YG P (execOp ev' o) w (Post B ro U ρ st.next w v st') := by
 unfold XaG at he
 split at he
 ·rename_i elem hu
  split at he
  ·rename_i size z hs hz
   split at he
   ·rename_i hc
    simp only [Bool.and_eq_true] at hc
    obtain ⟨⟨hc1, hc2⟩, hc3⟩ := hc
    have hc1 : len * size ≤ 65536 := Nat.le_of_ble_eq_true hc1
    have hc2 : z.cells.size = size := by rw [← Array.length_toList]; exact Nat.eq_of_beq_eq_true hc2
    split at he
    ·rename_i cells hf
     simp only [Option.some.injEq, Prod.mk.injEq] at he
     obtain ⟨rfl, rfl⟩ := he
     have hk : len * size = 0 ∨ 0 < z.cells.size := by
      rcases Nat.eq_zero_or_pos size with e | e
      ·exact .inl (by rw [e, Nat.mul_zero])
      ·exact .inr (by omega)
     obtain ⟨r', h1, h2, h3⟩ := XbJ (ev := ev) (ev' := ev') (U := U) (ρ := ρ) (fun i => some (i * size, size)) parts.toList (fun p hp => hev p.2 (by simp [ho, Op.operands]; exact ⟨p.1, by simpa using hp⟩)) (Xdp (Y0 hz).1 (len * size) hk) hf
     have hl := h2.len
     simp only [Array.length_toList] at hl
     simp at h3
     refine .inl ⟨.slice (some ⟨w.heap.size, 0, none⟩) len len, w.alloc (.cells ⟨r'.toList⟩ elem (0, 0)), ?_, Post.new h elem h2 (Xe8 (Nat.le_refl _) (by simp; omega))⟩
     have hparts : (parts.map fun x => (x.1, ev' x.2)).toList = parts.toList.map fun p => (p.1, ev' p.2) := by simp
     simp only [execOp, ho, Instr.buildSlice, Sem.run_bind, run_underlying hu, Result.andThen_ok, Y1 hs]
     rw [if_neg (by omega)]
     by_cases e : len * size = 0
     ·have h0 : Array.range 0 = #[] := rfl
      simp only [e, h0, if_true, Sem.run_bind, Sem.run_pure, Result.andThen_ok, hparts] at h1 ⊢
      simp only [show ∀ f : Nat → Value, Array.map f #[] = #[] from fun f => by simp] at h1 ⊢
      rw [h1]
      simp [newRow]
     ·simp only [if_neg e, Sem.run_bind, JZ hz, Sem.run_pure, Result.andThen_ok, hparts, h1]
      simp [newRow]
    ·simp at he
   ·simp at he
  ·simp at he
 ·simp at he

theorem XeJ (h : HR B ro U ρ st.next st.mem w) {f : FuncId} {first captured : Array Operand} (ho : o.op = .makeFunc (.func f) first captured) (hev : ∀ x ∈ o.op.operands, VR U ρ (ev x) (ev' x)) :
  YG P (execOp ev' o) w (Post B ro U ρ st.next w (.func (.func f) (first.map ev) (captured.map ev)) st) := by
 refine .inl ⟨.func (.func f) (first.map ev') (captured.map ev'), w, by simp [execOp, ho, Instr.makeFunc], Post.same h ?_⟩
 have h1 := VL.map (U := U) (ρ := ρ) ev ev' first.toList fun x hx => hev x (by simp [ho, Op.operands]; exact .inl (by simpa using hx))
 have h2 := VL.map (U := U) (ρ := ρ) ev ev' captured.toList fun x hx => hev x (by simp [ho, Op.operands]; exact .inr (by simpa using hx))
 have e : ∀ (g : Operand → Value) (a : Array Operand), a.map g = ⟨a.toList.map g⟩ := fun g a => by apply Array.ext'; simp
 rw [e, e, e, e]
 exact .fn _ _ _ _ _ h1 h2

theorem Xea (h : HR B ro U ρ st.next st.mem w) {t : TypeId} {l c : Operand} (ho : o.op = .makeSlice t l c) (hev : ∀ x ∈ o.op.operands, VR U ρ (ev x) (ev' x)) (he : Xbq P t (ev l) (ev c) st = some (v, st')) :
  YG P (execOp ev' o) w (Post B ro U ρ st.next w v st') := by
 have hl := hev l (by simp [ho, Op.operands])
 have hc := hev c (by simp [ho, Op.operands])
 unfold Xbq at he
 split at he
 ·rename_i elem k1 n k2 k hu e1 e2
  rw [e1] at hl
  rw [e2] at hc
  have e1' := hl.int_inv
  have e2' := hc.int_inv
  split at he
  ·rename_i size z bytes hs hz hb
   split at he
   ·rename_i hcond
    simp only [Bool.and_eq_true] at hcond
    obtain ⟨⟨⟨⟨c1, c2⟩, c3⟩, c4⟩, c5⟩ := hcond
    have c1 : n ≤ k := Nat.le_of_ble_eq_true c1
    have c2 : bytes * k ≤ 281474976710656 := Nat.le_of_ble_eq_true c2
    have c3 : k ≤ 65536 := Nat.le_of_ble_eq_true c3
    have c4 : z.cells.size = size := by rw [← Array.length_toList]; exact Nat.eq_of_beq_eq_true c4
    simp only [Option.some.injEq, Prod.mk.injEq] at he
    obtain ⟨rfl, rfl⟩ := he
    obtain ⟨i, hi, hsz⟩ := Xdt hs
    obtain ⟨hg, i', hi', hz'⟩ := Y0 hz
    rw [hi] at hi' hb
    simp only [Option.some.injEq] at hi'
    subst hi'
    simp only [Option.map_some, Option.some.injEq] at hb
    subst hb
    subst hsz
    have hb2 : (i.bytes : Int) * (k : Int) ≤ 281474976710656 := by rw [← Int.natCast_mul]; omega
    have hrun := run_make (P := P) w t elem i z hu hi hz' k1 k2 (n : Int) (k : Int) (by omega) (by omega) hb2 (by omega)
    have hk : k * i.size = 0 ∨ 0 < z.cells.size := by
     rcases Nat.eq_zero_or_pos i.size with e | e
     ·exact .inl (by rw [e, Nat.mul_zero])
     ·exact .inr (by omega)
    have hzr := Xdp (U := U) (ρ := ρ) hg (k * i.size) hk
    have hmade : madeCells z.cells (k * i.size) = (Array.range (k * i.size)).map (z.cells[· % z.cells.size]!) := rfl
    refine .inl ⟨.slice (some ⟨w.heap.size, 0, none⟩) n k, w.alloc (.cells ⟨((Array.range (k * i.size)).map (z.cells[· % z.cells.size]!)).toList⟩ elem (0, 0)), ?_, Post.new h elem hzr (Xe8 c1 (by simp))⟩
    simp only [execOp, ho, e1', e2', Sem.run_bind]
    have e3 : (Value.int k1 (Int.ofNat n)) = .int k1 (n : Int) := rfl
    have e4 : (Value.int k2 (Int.ofNat k)) = .int k2 (k : Int) := rfl
    rw [e3, e4, hrun]
    simp [hmade]
    congr 2
    apply Array.ext'
    simp
   ·simp at he
  ·simp at he
 ·simp at he

theorem HR.more {n : Nat} {m : Mem} (h : HR B ro U ρ n m w) (p : Pl) : HR B ro (fun b => U b ∨ b = n) (fun b => if b = n then p else ρ b) (n + 1) m w := by
 have hu : ∀ b, U b → (U b ∨ b = n) ∧ (if b = n then p else ρ b) = ρ b := fun b hb => ⟨.inl hb, if_neg (by have := h.lt b hb; omega)⟩
 have hn : ∀ b k, Xr m b = some k → (if b = n then p else ρ b) = ρ b := fun b k hb => (hu b (h.blk b k hb).1).2
 refine ⟨fun b hb => by rcases hb with hb | rfl; have := h.lt b hb; omega; omega, fun b k hb => (h.blk b k hb).move hu rfl, fun b k hb hr => ?_, fun b b' c c' hb hb' he => ?_, h.base⟩
 ·rw [hn b k hb]; exact h.own b k hb hr
 ·rw [hn b c hb, hn b' c' hb'] at he; exact h.inj b b' c c' hb hb' he

theorem XdS {isS : Bool} {len cap l h : Nat} {lo hi : Option Operand} (hlo : ∀ y, lo = some y → ∃ k, ev' y = .int k (l : Int)) (hlo0 : lo = none → l = 0) (hhi : ∀ y, hi = some y → ∃ k, ev' y = .int k (h : Int)) (hhi0 : hi = none → h = len) (h1 : l ≤ h) (h2 : h ≤ cap) :
  (Instr.sliceBounds isS len cap (lo.map ev') (hi.map ev') none).run P w = .ok (l, h, cap) w := by
 cases lo with
 | none =>
  have := hlo0 rfl
  subst this
  cases hi with
  | none => have := hhi0 rfl; subst this; simp [Instr.sliceBounds]
  | some y => obtain ⟨k, e⟩ := hhi y rfl; simp [Instr.sliceBounds, Instr.sliceBound, e, asIntOf, h2]
 | some x =>
  obtain ⟨k', e'⟩ := hlo x rfl
  cases hi with
  | none => have := hhi0 rfl; subst this; simp [Instr.sliceBounds, Instr.sliceBound, e', asIntOf, h1]
  | some y => obtain ⟨k, e⟩ := hhi y rfl; simp [Instr.sliceBounds, Instr.sliceBound, e, e', asIntOf, h2, h1]

theorem XgO (h : HR B ro U ρ st.next st.mem w) {t : TypeId} {x : Operand} {lo hi : Option Operand} (ho : o.op = .slice t x lo hi none) (hev : ∀ x ∈ o.op.operands, VR U ρ (ev x) (ev' x)) (he : XfB P t (ev x) (lo.map ev) (hi.map ev) st = some (v, st')) :
  YG P (execOp ev' o) w (Post B ro U ρ st.next w v st') := by
 have hx := hev x (by simp [ho, Op.operands])
 have hloR : ∀ y, lo = some y → VR U ρ (ev y) (ev' y) := fun y hy => hev y (by simp [ho, Op.operands, hy])
 have hhiR : ∀ y, hi = some y → VR U ρ (ev y) (ev' y) := fun y hy => hev y (by simp [ho, Op.operands, hy])
 unfold XfB at he
 split at he
 ·simp at he
 ·rename_i l hl
  have hlo : (∀ y, lo = some y → ∃ k, ev' y = .int k (l : Int)) ∧ (lo = none → l = 0) := by
   cases lo with
   | none => simp at hl; exact ⟨by simp, fun _ => hl.symm⟩
   | some y =>
    refine ⟨fun y' hy' => ?_, by simp⟩
    simp only [Option.some.injEq] at hy'
    subst hy'
    have hr := hloR y rfl
    simp only [Option.map_some] at hl
    split at hl
    ·rename_i e; simp at e
    ·rename_i k l' e
     simp only [Option.some.injEq] at e hl
     rw [e] at hr
     exact ⟨k, by rw [hr.int_inv, hl]; rfl⟩
    ·simp at hl
  split at he
  ·rename_i elem b off n sz hu ex
   rw [ex] at hx
   obtain ⟨hU, c, e1, hc1, hc2⟩ := hx.sl_inv
   split at he
   ·rename_i size hs
    split at he
    ·rename_i hh hhe
     have hhi : (∀ y, hi = some y → ∃ k, ev' y = .int k (hh : Int)) ∧ (hi = none → hh = n) := by
      cases hi with
      | none => simp at hhe; exact ⟨by simp, fun _ => hhe.symm⟩
      | some y =>
       refine ⟨fun y' hy' => ?_, by simp⟩
       simp only [Option.some.injEq] at hy'
       subst hy'
       have hr := hhiR y rfl
       simp only [Option.map_some] at hhe
       split at hhe
       ·rename_i e; simp at e
       ·rename_i k l' e
        simp only [Option.some.injEq] at e hhe
        rw [e] at hr
        exact ⟨k, by rw [hr.int_inv, hhe]; rfl⟩
       ·simp at hhe
     split at he
     ·rename_i hcond
      simp only [Bool.and_eq_true] at hcond
      obtain ⟨⟨q1, q2⟩, q3⟩ := hcond
      have q1 := Nat.eq_of_beq_eq_true q1
      subst q1
      have q2 := Nat.le_of_ble_eq_true q2
      have q3 := Nat.le_of_ble_eq_true q3
      have hrun := XdS (P := P) (w := w) (isS := true) (len := n) (cap := c) hlo.1 hlo.2 hhi.1 hhi.2 q2 (by omega)
      have hmul : (c - l) * sz + l * sz = c * sz := by rw [← Nat.add_mul, Nat.sub_add_cancel (by omega)]
      have hact : (execOp ev' o).run P w = .ok (.value (.slice (if c = l then some ⟨(ρ b).g, (ρ b).off + off, none⟩ else some ⟨(ρ b).g, (ρ b).off + off + l * sz, none⟩) (hh - l) (c - l))) w := by
       simp [execOp, ho, e1, Instr.sliceAt, Instr.slice, run_underlying hu, hrun, Y1 hs, Xb9]
      split at he
      ·rename_i hz
       simp only [Option.some.injEq, Prod.mk.injEq] at he
       obtain ⟨rfl, rfl⟩ := he
       refine .inl ⟨_, w, hact, Post.same h ?_⟩
       have e3 : (if c = l then some (⟨(ρ b).g, (ρ b).off + off, none⟩ : Addr) else some ⟨(ρ b).g, (ρ b).off + off + l * sz, none⟩) = some ⟨(ρ b).g, (ρ b).off + (off + l * sz), none⟩ := by
        split
        ·rename_i ecl
         simp only [Bool.or_eq_true] at hz
         have : l = 0 := by
          rcases hz with hz | hz
          ·exact Nat.eq_of_beq_eq_true hz
          ·have : l < hh := Nat.le_of_ble_eq_true hz
           omega
         simp [this]
        ·rw [Nat.add_assoc]
       rw [e3]
       exact .sl b _ _ _ _ hU (by omega) (by omega)
      ·rename_i hz
       simp only [Option.some.injEq, Prod.mk.injEq] at he
       obtain ⟨rfl, rfl⟩ := he
       have hlh : hh = l := by
        simp only [Bool.or_eq_false_iff] at hz
        have : ¬ l < hh := fun q => by rw [show Nat.blt l hh = true from Nat.ble_eq_true_of_le q] at hz; simp at hz
        omega
       subst hlh
       rw [Nat.sub_self] at hact
       have hb : ∃ off2, (if c = hh then some (⟨(ρ b).g, (ρ b).off + off, none⟩ : Addr) else some ⟨(ρ b).g, (ρ b).off + off + hh * sz, none⟩) = some ⟨(ρ b).g, off2, none⟩ ∧ off2 + (c - hh) * sz ≤ (ρ b).n := by
        split
        ·rename_i ecl
         subst ecl
         exact ⟨_, rfl, by simp; omega⟩
        ·exact ⟨_, rfl, by omega⟩
       obtain ⟨off2, e4, hle⟩ := hb
       rw [e4] at hact
       refine .inl ⟨_, w, hact, _, _, HR.fresh_ext h.lt ⟨(ρ b).g, off2, (ρ b).n⟩, h.more _, ?_, Below.refl _ _⟩
       have := VR.sl (U := fun k => U k ∨ k = st.next) (ρ := fun k => if k = st.next then (⟨(ρ b).g, off2, (ρ b).n⟩ : Pl) else ρ k) st.next 0 0 sz (c - hh) (.inr rfl) (Nat.zero_le _) (by simpa using hle)
       simpa using this
     ·simp at he
    ·simp at he
   ·simp at he
  ·rename_i n elem b off hu ex
   rw [ex] at hx
   obtain ⟨hU, e1⟩ := hx.ptr_inv
   split at he
   ·rename_i size hs
    split at he
    ·rename_i hh hhe
     have hhi : (∀ y, hi = some y → ∃ k, ev' y = .int k (hh : Int)) ∧ (hi = none → hh = n) := by
      cases hi with
      | none => simp at hhe; exact ⟨by simp, fun _ => hhe.symm⟩
      | some y =>
       refine ⟨fun y' hy' => ?_, by simp⟩
       simp only [Option.some.injEq] at hy'
       subst hy'
       have hr := hhiR y rfl
       simp only [Option.map_some] at hhe
       split at hhe
       ·rename_i e; simp at e
       ·rename_i k l' e
        simp only [Option.some.injEq] at e hhe
        rw [e] at hr
        exact ⟨k, by rw [hr.int_inv, hhe]; rfl⟩
       ·simp at hhe
     split at he
     ·rename_i hcond hcut
      simp only [Bool.and_eq_true, Bool.or_eq_true] at hcond
      obtain ⟨⟨⟨q1, q2⟩, q3⟩, q4⟩ := hcond
      have q1 := Nat.le_of_ble_eq_true q1
      have q2 := Nat.le_of_ble_eq_true q2
      have q4 : 0 < n * size := Nat.le_of_ble_eq_true q4
      have q3 : l = 0 ∨ l < n := by
       rcases q3 with q3 | q3
       ·exact .inl (Nat.eq_of_beq_eq_true q3)
       ·exact .inr (Nat.le_of_ble_eq_true q3)
      obtain ⟨cs, hb, hcut⟩ := Option.bind_eq_some_iff.mp hcut
      obtain ⟨hlen, _, _⟩ := XbM hcut
      obtain ⟨_, cur, ty, hg, hsz, hcells⟩ := h.cellsAt hb
      have hfit : (ρ b).off + off + n * size ≤ (ρ b).n := by
       obtain ⟨y, hy, _⟩ := hcells (off + n * size - 1) cs[off + n * size - 1] (List.getElem?_eq_getElem (by omega))
       have := (Array.getElem?_eq_some_iff.1 hy).1
       omega
      simp only [Option.some.injEq, Prod.mk.injEq] at he
      obtain ⟨rfl, rfl⟩ := he
      have hrun := XdS (P := P) (w := w) (isS := false) (len := n) (cap := n) hlo.1 hlo.2 hhi.1 hhi.2 q1 q2
      have hmul : (n - l) * size + l * size = n * size := by rw [← Nat.add_mul, Nat.sub_add_cancel (by omega)]
      have e3 : (if n = l then (⟨(ρ b).g, (ρ b).off + off, none⟩ : Addr) else ⟨(ρ b).g, (ρ b).off + off + l * size, none⟩) = ⟨(ρ b).g, (ρ b).off + (off + l * size), none⟩ := by
       split
       ·have : l = 0 := by omega
        simp [this]
       ·rw [Nat.add_assoc]
      refine .inl ⟨.slice (some ⟨(ρ b).g, (ρ b).off + (off + l * size), none⟩) (hh - l) (n - l), w, ?_, Post.same h (.sl b _ _ _ _ hU (by omega) (by omega))⟩
      simp [execOp, ho, e1, Instr.sliceAt, Instr.sureAddr, run_underlying hu, hrun, Y1 hs, Xb9, e3]
     ·simp at he
    ·simp at he
   ·simp at he
  ·simp at he
end
end Go.Proofs.Ytiaiecfnpompcaa.Ab
namespace Go.Proofs.Ytiaiecfnpompcaa.Ab
open Go Go.RowKit
set_option linter.unusedVariables false
set_option linter.unusedSimpArgs false
section
variable {P : Program} {B ro : Nat} {U : Nat → Prop} {ρ : Nat → Pl} {st : St} {w : World}
variable {ev ev' : Operand → Value} {o : Oper} {v : Value} {st' : St}

theorem VR.nilS_inv {a b : Nat} {y : Value} (h : VR U ρ (.slice none a b) y) : a = 0 ∧ b = 0 ∧ y = .slice none 0 0 := by cases h; exact ⟨rfl, rfl, rfl⟩
theorem Xcn {m : Mem} {n0 : Nat} (h : HR B ro U ρ n0 m w) {size n : Nat} {x x' : Value} {l : List Value} (hc : Y5 m size x = some (n, l)) (hr : VR U ρ x x') :
  ∃ A c l', x' = .slice A n c ∧ VL U ρ l l' ∧ l'.length = n * size ∧ (∀ k, (Builtin.firstCells size n (.slice A n k)).run P w = .ok l'.toArray w) ∧ (∀ k, (Builtin.firstCells size n (.slice A n k)).run P w.drew = .ok l'.toArray w.drew) := by
 unfold Y5 at hc
 split at hc
 ·simp only [Option.some.injEq, Prod.mk.injEq] at hc
  obtain ⟨rfl, rfl⟩ := hc
  cases hr
  exact ⟨none, 0, [], rfl, .nil, by simp, fun k => by simp [Builtin.firstCells], fun k => by simp [Builtin.firstCells]⟩
 ·rename_i b off n1 sz
  obtain ⟨hU, c, e1, h1, h2⟩ := hr.sl_inv
  split at hc
  ·rename_i hq
   have hq := Nat.eq_of_beq_eq_true hq
   subst hq
   split at hc
   ·rename_i cs hb
    obtain ⟨l0, hcut, e2⟩ := Option.map_eq_some_iff.mp hc
    simp only [Prod.mk.injEq] at e2
    obtain ⟨rfl, rfl⟩ := e2
    obtain ⟨l', h3, h4, h5⟩ := h.cells hb hcut
    refine ⟨_, c, l', e1, h3, h4, fun k => run_firstCells_some w sz n1 _ _ k l' h4 h5, fun k => run_firstCells_some w.drew sz n1 _ _ k l' h4 h5⟩
   ·simp at hc
  ·simp at hc
 ·simp at hc

theorem XgM (h : HR B ro U ρ st.next st.mem w) {c : Call} (ho : o.op = .call c) (hc : c.callee = .builtin .append) (hev : ∀ x ∈ o.op.operands, VR U ρ (ev x) (ev' x))
  (he : Xem P ro c.argTypes.toList (c.args.toList.map ev) st = some (v, st')) : YG P (execOp ev' o) w (Post B ro U ρ st.next w v st') := by
 unfold Xem at he
 split at he
 ·rename_i t0 t1 s x et ea
  obtain ⟨y1, y2, hargs, e1, e2⟩ : ∃ y1 y2, c.args = #[y1, y2] ∧ ev y1 = s ∧ ev y2 = x := by
   match hca : c.args.toList, ea with
   | [y1, y2], ea => simp at ea; exact ⟨y1, y2, Array.ext' hca, ea.1, ea.2⟩
  have hts : c.argTypes = #[t0, t1] := Array.ext' et
  have hs := hev y1 (by simp [ho, Op.operands, Call.operands, hargs])
  have hx := hev y2 (by simp [ho, Op.operands, Call.operands, hargs])
  rw [e1] at hs
  rw [e2] at hx
  split at he
  ·rename_i elem elem1 hu0 hu1
   split at he
   ·rename_i size z bytes hsz hz hbytes
    split at he
    ·rename_i n old m new hold hnew
     split at he
     ·rename_i hcond
      simp only [Bool.and_eq_true] at hcond
      obtain ⟨⟨⟨⟨⟨q1, q2⟩, q3⟩, q4⟩, q5⟩, q6⟩ := hcond
      have q1 : (4 * (n + m) + 4096) * bytes ≤ 281474976710656 := Nat.le_of_ble_eq_true q1
      have q2 : n + m ≤ 1000000000000 := Nat.le_of_ble_eq_true q2
      have q3 : z.cells.size = size := by rw [← Array.length_toList]; exact Nat.eq_of_beq_eq_true q3
      have q6 : 0 < size := Nat.le_of_ble_eq_true q6
      obtain ⟨i, hi, hisz⟩ := Xdt hsz
      obtain ⟨hg, i', hi', hz'⟩ := Y0 hz
      rw [hi] at hi' hbytes
      simp only [Option.some.injEq] at hi'
      subst hi'
      simp only [Option.map_some, Option.some.injEq] at hbytes
      subst hbytes
      subst hisz
      obtain ⟨A, c0, old', es, hol, holl, hfo, hfod⟩ := Xcn (P := P) h hold hs
      obtain ⟨A2, c2, new', ex, hnl, hnll, hfn, hfnd⟩ := Xcn (P := P) h hnew hx
      have hone : ∀ u ∈ new', u.oneCell' = true := by
       have := hnl.isCell
       rw [q5, List.all_eq_true] at this
       intro u hu
       rw [XcR]; exact this u hu
      have hexec : execOp ev' o = (do pure (.value (← Builtin.append_ #[t0, t1] o.type #[.slice A n c0, .slice A2 m c2])) : Sem Next) := by
       simp [execOp, ho, resolve, hc, hargs, hts, invoke, builtin, es, ex]
      -- when it grows
      have hgrow : c0 < n + m → ∃ k, n + m ≤ k ∧ (Builtin.append_ #[t0, t1] o.type #[.slice A n c0, .slice A2 m c2]).run P w =
        .ok (.slice (some ⟨w.heap.size, 0, none⟩) (n + m) k) (w.drew.alloc (.cells (⟨old' ++ new'⟩ ++ Builtin.zeroCells z.cells (k - (n + m))) elem)) := by
       intro hlt
       have h48 : ¬ (281474976710656 < Builtin.nextslicecap (n + m) c0 * i.bytes) := by
        have a1 := nextslicecap_le hlt
        have a2 : Builtin.nextslicecap (n + m) c0 * i.bytes ≤ (4 * (n + m) + 4096) * i.bytes := Nat.mul_le_mul_right _ (by omega)
        omega
       refine ⟨grownCap w (n + m) c0 elem, by unfold grownCap; simp only [Question.cut]; omega, ?_⟩
       have h63 : ¬ ((9223372036854775807 : Int) < (n : Int) + (m : Int)) := by omega
       simp [Builtin.append_, run_underlying hu0, run_underlying hu1, sizeOf, typeInfo, zeroValue, hi, hz', Builtin.lenOf, show ¬ (n + m ≤ c0) by omega, h63, h48, Question.forced, hfnd, hfod, newRow, grownCap]
       congr 2
       apply Array.ext'
       simp [List.append_assoc]
      have hgrowP : c0 < n + m → (∀ b cs, Xr st'.mem b = some cs → (b = st.next ∧ cs = .c (old ++ new)) ∨ Xr st.mem b = some cs) → st'.next = st.next + 1 → v = .slice (some ⟨st.next, 0, none⟩) (n + m) i.size → YG P (execOp ev' o) w (Post B ro U ρ st.next w v st') := by
       intro hlt hmem hnext hv
       obtain ⟨k, hk, hrun⟩ := hgrow hlt
       refine .inl ⟨.slice (some ⟨w.heap.size, 0, none⟩) (n + m) k, w.drew.alloc (.cells (⟨old' ++ new'⟩ ++ Builtin.zeroCells z.cells (k - (n + m))) elem), by rw [hexec]; simp only [Sem.run_bind, hrun, Result.andThen_ok, Sem.run_pure], ?_⟩
       have hlen : (old' ++ new' ++ (Builtin.zeroCells z.cells (k - (n + m))).toList).length = k * i.size := by
        have := size_zeroCells z.cells (k - (n + m))
        simp only [List.length_append, holl, hnll, Array.length_toList, this, q3]
        rw [← Nat.add_mul, ← Nat.add_mul, Nat.add_sub_cancel' hk]
       have hd : HR B ro U ρ st.next st.mem w.drew := ⟨h.lt, h.blk, h.own, h.inj, h.base⟩
       have hfr := hd.freshC (g := 0) (cs := old ++ new) (cs' := old' ++ new' ++ (Builtin.zeroCells z.cells (k - (n + m))).toList) (t := elem) (w' := w.drew.alloc (.cells (⟨old' ++ new'⟩ ++ Builtin.zeroCells z.cells (k - (n + m))) elem)) ⟨w.heap.size, 0, k * i.size⟩
        (by rw [show (⟨old' ++ new'⟩ ++ Builtin.zeroCells z.cells (k - (n + m)) : Array Value) = ⟨old' ++ new' ++ (Builtin.zeroCells z.cells (k - (n + m))).toList⟩ from by apply Array.ext'; simp]; exact heap_alloc_new w.drew _) hlen.symm
        (fun b cs hb => Below.heap_alloc w.drew _ _ (h.lt_size hb)) (fun b cs hb => Nat.ne_of_lt (h.lt_size hb)) h.base (by have := h.base; simp; omega)
        (fun j u hu => by
         obtain ⟨y, hy, hr⟩ := (hol.append hnl).get hu
         refine ⟨y, ?_, hr⟩
         rw [Nat.zero_add, List.getElem?_append_left (by exact (List.getElem?_eq_some_iff.1 hy).1)]
         exact hy)
       refine ⟨_, _, hnext ▸ HR.fresh_ext h.lt ⟨w.heap.size, 0, k * i.size⟩, ?_, ?_, ?_⟩
       ·rw [hnext]
        refine hfr.sub fun b cs hb => ?_
        rcases hmem b cs hb with ⟨rfl, rfl⟩ | hb
        ·simp only [Xr, show Nat.beq st.next st.next = true from Nat.beq_refl _]
        ·have := (h.lt b (h.blk b cs hb).1)
         simp only [Xr]
         rw [show Nat.beq st.next b = false from Bool.eq_false_iff.mpr fun q => by have := Nat.eq_of_beq_eq_true q; omega]
         exact hb
       ·rw [hv]; exact Xe8 hk (Nat.le_refl _)
       ·exact ((Below.refl B w).drew).alloc (by exact h.base) _
      split at he
      ·-- onto nil
       rename_i cx ccx _ _
       ·obtain ⟨e0, e00, es0⟩ := hs.nilS_inv
        rw [es] at es0
        simp only [Value.slice.injEq] at es0
        obtain ⟨rfl, rfl, rfl⟩ := es0
        split at he
        ·rename_i hm
         have hm := Nat.eq_of_beq_eq_true hm
         subst hm
         simp only [Option.some.injEq, Prod.mk.injEq] at he
         obtain ⟨rfl, rfl⟩ := he
         refine .inl ⟨.slice none 0 0, w, ?_, Post.same h .nilS⟩
         rw [hexec]
         simp [Builtin.append_, run_underlying hu0, run_underlying hu1, sizeOf, typeInfo, hi, Builtin.lenOf, hfn]
        ·rename_i hm
         have hm : m ≠ 0 := fun q => by rw [q] at hm; simp at hm
         simp only [Option.some.injEq, Prod.mk.injEq] at he
         obtain ⟨rfl, rfl⟩ := he
         refine hgrowP (by omega) (fun b cs hb => ?_) rfl rfl
         simp only [fresh, Xr] at hb
         split at hb
         ·rename_i q
          simp only [Option.some.injEq] at hb
          exact .inl ⟨(Nat.eq_of_beq_eq_true q).symm, hb.symm⟩
         ·exact .inr hb
      ·rename_i b off spot cx ccx
       cases spot with
       | some _ => simp [Y5] at hold
       | none =>
       split at he
       ·rename_i hro
        have hro := Nat.le_of_ble_eq_true hro
        simp only [Option.some.injEq, Prod.mk.injEq] at he
        obtain ⟨hv, hst⟩ := he
        subst hst
        subst hv
        by_cases hlt : c0 < n + m
        ·refine hgrowP hlt (fun b1 cs hb => ?_) rfl rfl
         simp only [Xr] at hb
         split at hb
         ·rename_i q
          simp only [Option.some.injEq] at hb
          exact .inl ⟨(Nat.eq_of_beq_eq_true q).symm, hb.symm⟩
         ·exact .inr (Jc hb).2
        ·obtain ⟨hU, c1, es1, hc1, hc2⟩ := hs.sl_inv
         rw [es] at es1
         simp only [Value.slice.injEq] at es1
         obtain ⟨rfl, rfl, rfl⟩ := es1
         simp only [Y5] at hold
         split at hold
         ·rename_i hq
          have hq := Nat.eq_of_beq_eq_true hq
          subst hq
          split at hold
          ·rename_i cs hb
           obtain ⟨l0, hcut, e3⟩ := Option.map_eq_some_iff.mp hold
           simp only [Prod.mk.injEq, true_and] at e3
           subst e3
           obtain ⟨hcl, hceq, hclen⟩ := XbM hcut
           obtain ⟨_, cur, ty, hg0, hsz0, hcells⟩ := h.cellsAt hb
           have hmul : (n + m) * i.size ≤ c0 * i.size := Nat.mul_le_mul_right _ (by omega)
           have hnm : (n + m) * i.size = n * i.size + m * i.size := Nat.add_mul _ _ _
           have hst := run_storeCells_at P (ρ b).g ((ρ b).off + off + n * i.size) ty new' 0 cur w hg0 (by rw [hnll]; omega) hone
           simp only [Nat.add_zero] at hst
           have hpaste : (cur.toList.take ((ρ b).off + off + n * i.size) ++ new' ++ cur.toList.drop ((ρ b).off + off + n * i.size + new'.length)) = paste cur.toList ((ρ b).off + off + n * i.size) new' := by
            unfold paste; rw [List.append_assoc]
           rw [hpaste] at hst
           have hrun : (Builtin.append_ #[t0, t1] o.type #[.slice (some ⟨(ρ b).g, (ρ b).off + off, none⟩) n c0, .slice A2 m c2]).run P w = .ok (.slice (some ⟨(ρ b).g, (ρ b).off + off, none⟩) (n + m) c0) (w.setRow (ρ b).g (paste cur.toList ((ρ b).off + off + n * i.size) new').toArray) := by
            simp [Builtin.append_, run_underlying hu0, run_underlying hu1, sizeOf, typeInfo, hi, Builtin.lenOf, show n + m ≤ c0 by omega, hfn, Xb9, hst]
           refine .inl ⟨.slice (some ⟨(ρ b).g, (ρ b).off + off, none⟩) (n + m) c0, w.setRow (ρ b).g (paste cur.toList ((ρ b).off + off + n * i.size) new').toArray, by rw [hexec]; simp only [Sem.run_bind, hrun, Result.andThen_ok, Sem.run_pure], ?_⟩
           have hsub : HR B ro U ρ st.next (Xap st.mem b) w := h.sub fun b1 c1 h1 => (Jc h1).2
           have hneg : ∀ b1 c1, Xr (Xap st.mem b) b1 = some c1 → (ρ b1).g ≠ (ρ b).g := fun b1 c1 h1 q => (Jc h1).1 (h.inj _ _ _ _ (Jc h1).2 (Ja hb) q)
           have hplen : (paste cur.toList ((ρ b).off + off + n * i.size) new').length = cur.size := by simp [paste]; omega
           have hfr := hsub.freshC (g := 0) (cs := l0 ++ new) (cs' := paste cur.toList ((ρ b).off + off + n * i.size) new') (t := ty) (w' := w.setRow (ρ b).g (paste cur.toList ((ρ b).off + off + n * i.size) new').toArray) ⟨(ρ b).g, (ρ b).off + off, cur.size⟩
            (setRow_heap w _ cur _ ty _ hg0) hplen.symm (fun b1 c1 h1 => setRow_other _ _ _ _ (hneg b1 c1 h1)) hneg (h.own _ _ (Ja hb) hro) (by simpa using h.base)
            (fun j u hu => by
             show ∃ y, (paste cur.toList ((ρ b).off + off + n * i.size) new')[(ρ b).off + off + j]? = some y ∧ VR U ρ u y
             rw [XbZ (by simp [hnll]; omega)]
             by_cases hj : j < n * i.size
             ·rw [if_neg (by omega)]
              rw [List.getElem?_append_left (by omega), hceq, List.getElem?_take, if_pos hj, List.getElem?_drop] at hu
              obtain ⟨y, hy, hr⟩ := hcells _ u hu
              exact ⟨y, by rw [Array.getElem?_toList, Nat.add_assoc]; exact hy, hr⟩
             ·rw [List.getElem?_append_right (by omega), hclen] at hu
              obtain ⟨y, hy, hr⟩ := hnl.get hu
              have hjl := (List.getElem?_eq_some_iff.1 hy).1
              rw [if_pos (by omega), show (ρ b).off + off + j - ((ρ b).off + off + n * i.size) = j - n * i.size by omega]
              exact ⟨y, hy, hr⟩)
           refine ⟨_, _, HR.fresh_ext h.lt ⟨(ρ b).g, (ρ b).off + off, cur.size⟩, hfr, ?_, ⟨rfl, rfl, rfl, by simp, fun k hk => setRow_other _ _ _ _ (by have := h.own _ _ (Ja hb) hro; omega)⟩⟩
           have := VR.sl (U := fun k => U k ∨ k = st.next) (ρ := fun k => if k = st.next then (⟨(ρ b).g, (ρ b).off + off, cur.size⟩ : Pl) else ρ k) st.next 0 (n + m) i.size c0 (.inr rfl) (by omega) (by simp; omega)
           simpa using this
          ·simp at hold
         ·simp at hold
       ·simp at he
      ·simp at he
     ·simp at he
    ·simp at he
   ·simp at he
  ·simp at he
 ·simp at he
end
end Go.Proofs.Ytiaiecfnpompcaa.Ab
namespace Go.Proofs.Ytiaiecfnpompcaa.Ab
open Go Go.RowKit
set_option linter.unusedVariables false
set_option linter.unusedSimpArgs false
section
variable {P : Program} {B ro : Nat} {U : Nat → Prop} {ρ : Nat → Pl} {st : St} {w : World}
variable {ev ev' : Operand → Value} {o : Oper} {v : Value} {st' : St}

theorem Xb2 {t kt el : TypeId} (h : XeN P t = some (kt, el)) : P.underlying t = some (.map kt el) := by
 unfold XeN at h
 split at h
 ·rename_i k e hu; simp only [Option.some.injEq, Prod.mk.injEq] at h; rw [hu, h.1, h.2]
 ·simp at h
theorem Xfs {n : Nat} {v v' : Value} (h : gnd n v = true) (hr : VR U ρ v v') : v' = v := VR.eq n v v' h hr
def J5 (xs xs' : List Value) : Prop := ∀ (i : Nat) (u : Value), xs[i]? = some u → gnd 1 u = true → xs'[i]? = some u
theorem J5.refl (xs : List Value) : J5 xs xs := fun _ _ h _ => h
theorem XeX {f : Field} {d k : Nat} {b : Bool} {isI : Bool} {xs ys xs' ys' : List Value} (hx : J5 xs xs') (hy : J5 ys ys') (hu : (isI = true → ∃ q, P.underlying f.type = some (.int q)) ∧ (isI = false → P.underlying f.type = some .bool)) (hb : Xbm isI xs[f.offset]? ys[f.offset]? = some b) :
  ∃ u u', (part f.type ⟨xs'⟩ f.offset).run P w = .ok u w ∧ (part f.type ⟨ys'⟩ f.offset).run P w = .ok u' w ∧ (Op.equalIn (d + 1) f.type u u').run P w = .ok b w := by
 unfold Xbm at hb
 have hagg : aggT P f.type = some false := by
  unfold aggT
  cases isI with
  | true => obtain ⟨q, hq⟩ := hu.1 rfl; rw [hq]
  | false => rw [hu.2 rfl]
 have hp : ∀ (zs zs' : List Value) (u : Value), J5 zs zs' → zs[f.offset]? = some u → gnd 1 u = true → (part f.type ⟨zs'⟩ f.offset).run P w = .ok u w := by
  intro zs zs' u hz hu hg
  simp [part, Jw hagg, hz _ _ hu hg]
 split at hb
 ·rename_i k1 a k2 c h1 h2
  split at hb
  ·rename_i hk
   have hk := of_decide_eq_true hk
   subst hk
   simp only [Option.some.injEq] at hb
   subst hb
   obtain ⟨q, hq⟩ := hu.1 rfl
   exact ⟨_, _, hp _ _ _ hx h1 rfl, hp _ _ _ hy h2 rfl, by simp [Op.equalIn, run_underlying hq]⟩
  ·simp at hb
 ·rename_i a c h1 h2
  simp only [Option.some.injEq] at hb
  subst hb
  exact ⟨_, _, hp _ _ _ hx h1 rfl, hp _ _ _ hy h2 rfl, by simp [Op.equalIn, run_underlying (hu.2 rfl)]⟩
 ·simp at hb
theorem XbL {d : Nat} {xs ys xs' ys' : List Value} (hx : J5 xs xs') (hy : J5 ys ys') : ∀ (fs : List Field) (l : List (Nat × Bool)) (b : Bool), JR P fs = some l → YK l xs ys = some b → (Op.eqFields (d + 1) ⟨xs'⟩ ⟨ys'⟩ fs).run P w = .ok b w
 | [], l, b, hl, hb => by
  simp only [JR, Option.some.injEq] at hl
  subst hl
  simp only [YK, Option.some.injEq] at hb
  subst hb
  simp [Op.eqFields]
 | f :: fs, l, b, hl, hb => by
  have main : ∀ isI l0, JR P fs = some l0 → (f.name == "_") = false → ((isI = true → ∃ q, P.underlying f.type = some (.int q)) ∧ (isI = false → P.underlying f.type = some .bool)) → l = (f.offset, isI) :: l0 → (Op.eqFields (d + 1) ⟨xs'⟩ ⟨ys'⟩ (f :: fs)).run P w = .ok b w := by
   intro isI l0 h0 hn hu hle
   subst hle
   have hn' : f.name ≠ "_" := by simpa using hn
   simp only [YK] at hb
   split at hb
   ·rename_i a c h1 h2
    obtain ⟨u, u', g1, g2, g3⟩ := XeX (P := P) (w := w) (d := d) (k := 0) (f := f) hx hy hu h1
    have g4 := XbL (d := d) hx hy fs l0 c h0 h2
    have hres : b = (a && c) := by
     split at hb
     ·simp only [Option.some.injEq] at hb
      simp only [YK, Option.some.injEq] at h2
      rw [← hb, ← h2, Bool.and_true]
     ·simp only [Option.some.injEq] at hb; exact hb.symm
    rw [Op.eqFields]
    simp only [if_pos hn', Sem.run_bind, g1, g2, g3, Result.andThen_ok]
    rw [hres]
    cases a
    ·simp
    ·simpa using g4
   ·simp at hb
  simp only [JR] at hl
  split at hl
  ·rename_i l0 hn hu h0
   simp only [Option.some.injEq] at hl
   exact main true l0 h0 hn ⟨fun _ => ⟨_, hu⟩, fun q => by simp at q⟩ hl.symm
  ·rename_i l0 hn hu h0
   simp only [Option.some.injEq] at hl
   exact main false l0 h0 hn ⟨fun q => by simp at q, fun _ => hu⟩ hl.symm
  ·simp at hl
theorem XaZ {t : TypeId} {b : Bool} {xs ys xs' ys' : List Value} (hx : J5 xs xs') (hy : J5 ys ys') (hb : ((Jp P t).bind fun l => YK l xs ys) = some b) :
  (∀ op {p q : Operand}, (eqGuard op t p q (.agg ⟨xs'⟩) (.agg ⟨ys'⟩)).run P w = .ok () w) ∧ (Op.equal t (.agg ⟨xs'⟩) (.agg ⟨ys'⟩)).run P w = .ok b w := by
 obtain ⟨l, hl, hc⟩ := Option.bind_eq_some_iff.mp hb
 unfold Jp at hl
 split at hl
 ·rename_i fs hu
  split at hl
  ·rename_i h1 h2
   refine ⟨fun op p q => ?_, ?_⟩
   ·unfold eqGuard
    cases op <;> simp [h2]
   ·have hf : P.fieldsOf t = fs := by simp [Program.fieldsOf, hu]
    unfold Op.equal
    rw [show Op.maxDepth = 9998 + 1 + 1 from rfl, run_equalIn_struct (P := P) w (9998 + 1) t ⟨xs'⟩ ⟨ys'⟩ (by rw [hf]; exact hu) h1, hf]
    exact XbL hx hy fs.toList l b hl hc
  ·simp at hl
 ·simp at hl
theorem XeB {f : Field} {isI b : Bool} {ks : List Value} (hu : (isI = true → ∃ q, P.underlying f.type = some (.int q)) ∧ (isI = false → P.underlying f.type = some .bool)) (hb : Xbm isI ks[f.offset]? ks[f.offset]? = some b) (w : World) (n : Nat) (e : Bool) :
  ∃ u, (part f.type ⟨ks⟩ f.offset).run P w = .ok u w ∧ (Instr.checkKey e (n + 1) f.type u).run P w = .ok () w := by
 unfold Xbm at hb
 have hagg : aggT P f.type = some false := by
  unfold aggT
  cases isI with
  | true => obtain ⟨q, hq⟩ := hu.1 rfl; rw [hq]
  | false => rw [hu.2 rfl]
 split at hb
 ·rename_i k1 a k2 c h1 h2
  obtain ⟨q, hq⟩ := hu.1 rfl
  exact ⟨.int k1 a, by simp [part, Jw hagg, h1], by simp [Instr.checkKey, run_underlying hq]⟩
 ·rename_i a c h1 h2
  exact ⟨.bool a, by simp [part, Jw hagg, h1], by simp [Instr.checkKey, run_underlying (hu.2 rfl)]⟩
 ·simp at hb
theorem Xaq {n : Nat} {e : Bool} {ks : List Value} (w : World) : ∀ (fs : List Field) (l : List (Nat × Bool)) (b : Bool), JR P fs = some l → YK l ks ks = some b →
  (forIn (m := Sem) fs PUnit.unit fun f _ => do
   if f.name ≠ "_" then Instr.checkKey e (n + 1) f.type (← part f.type ⟨ks⟩ f.offset)
   pure (ForInStep.yield PUnit.unit)).run P w = .ok PUnit.unit w
 | [], l, b, hl, hb => by simp
 | f :: fs, l, b, hl, hb => by
  have main : ∀ isI l0, JR P fs = some l0 → (f.name == "_") = false → ((isI = true → ∃ q, P.underlying f.type = some (.int q)) ∧ (isI = false → P.underlying f.type = some .bool)) → l = (f.offset, isI) :: l0 →
    (forIn (m := Sem) (f :: fs) PUnit.unit fun f _ => do
     if f.name ≠ "_" then Instr.checkKey e (n + 1) f.type (← part f.type ⟨ks⟩ f.offset)
     pure (ForInStep.yield PUnit.unit)).run P w = .ok PUnit.unit w := by
   intro isI l0 h0 hn hu hle
   subst hle
   have hn' : f.name ≠ "_" := by simpa using hn
   simp only [YK] at hb
   split at hb
   ·rename_i a c h1 h2
    obtain ⟨u, g1, g2⟩ := XeB (P := P) hu h1 w n e
    have ih := Xaq (n := n) (e := e) w fs l0 c h0 h2
    simp only [List.forIn_cons, Sem.run_bind, if_pos hn', g1, g2, Result.andThen_ok, Sem.run_pure]
    exact ih
   ·simp at hb
  simp only [JR] at hl
  split at hl
  ·rename_i l0 hn hu h0
   simp only [Option.some.injEq] at hl
   exact main true l0 h0 hn ⟨fun _ => ⟨_, hu⟩, fun q => by simp at q⟩ hl.symm
  ·rename_i l0 hn hu h0
   simp only [Option.some.injEq] at hl
   exact main false l0 h0 hn ⟨fun q => by simp at q, fun _ => hu⟩ hl.symm
  ·simp at hl
theorem Xct {n : Nat} {e b : Bool} {t : TypeId} {fs : Array Field} {l : List (Nat × Bool)} {ks : List Value} (w : World) (hfs : P.underlying t = some (.struct fs)) (hl : JR P fs.toList = some l) (hb : YK l ks ks = some b) : (Instr.checkKey e (n + 1 + 1) t (.agg ⟨ks⟩)).run P w = .ok () w := by
 have := Xaq (P := P) (n := n) (e := e) w fs.toList l b hl hb
 rw [Instr.checkKey]
 simp only [Sem.run_bind, run_underlying hfs, Result.andThen_ok]
 rw [← Array.forIn_toList]
 rw [this]
 rfl
theorem XbK {t : TypeId} {l : List (Nat × Bool)} {ks : List Value} (hl : Jp P t = some l) (w : World) : ∀ (es : List MapEntry) (i : Nat) (r : Option (Nat × Value)), J4 l ks es i = some r → (Instr.findAsking t (.agg ⟨ks⟩) es i).run P w = .ok r w
 | [], i, r, h => by
  simp only [J4, Option.some.injEq] at h
  subst h
  rfl
 | e :: es, i, r, h => by
  simp only [J4] at h
  split at h
  ·rename_i ys hk
   split at h
   ·rename_i hc
    have := (XaZ (P := P) (w := w) (t := t) (J5.refl ks) (J5.refl ys) (by rw [hl]; exact hc)).2
    simp only [Option.some.injEq] at h
    subst h
    simp only [Instr.findAsking, Sem.run_bind, hk, this, Result.andThen_ok]
    rfl
   ·rename_i hc
    have := (XaZ (P := P) (w := w) (t := t) (J5.refl ks) (J5.refl ys) (by rw [hl]; exact hc)).2
    simp only [Instr.findAsking, Sem.run_bind, hk, this, Result.andThen_ok]
    exact XbK hl w es (i + 1) r h
   ·simp at h
  ·simp at h
theorem Xb5 {e : Bool} {kt : TypeId} {key : Value} {es : List MapEntry} {r : Option (Nat × Value)} (h : XeT P e kt key es = some r) (w : World) :
  (∃ u, (Instr.checkKey e 10000 kt key).run P w = .ok u w) ∧ (Instr.findKey kt key es).run P w = .ok r w := by
 unfold XeT at h
 split at h
 ·rename_i l ks hl
  split at h
  ·rename_i b hb
   have hu := hl
   unfold Jp at hu
   split at hu
   ·rename_i fs hfs
    split at hu
    ·refine ⟨⟨(), ?_⟩, ?_⟩
     ·exact Xct (n := 9998) w hfs hu hb
     ·have hf := XbK hl w es 0 r h
      unfold Instr.findKey
      simp only [Sem.run_bind, run_underlying hfs, Result.andThen_ok]
      cases es with
      | nil =>
       simp only [J4, Option.some.injEq] at h
       subst h
       rfl
      | cons x es => exact hf
    ·simp at hu
   ·simp at hu
  ·simp at h
 ·split at h
  ·rename_i u hu; exact ⟨⟨u, XaO P _ hu w⟩, XaO P _ h w⟩
  ·simp at h
theorem Xdn (h : HR B ro U ρ st.next st.mem w) {x x' : Value} {es : List MapEntry} (hx : VR U ρ x x') (he : Xb6 st.mem x = some es) :
  (x' = .map none ∧ es = []) ∨ ∃ g clock, x' = .map (some g) ∧ w.heap[g]? = some (.map ⟨es⟩ clock) := by
 unfold Xb6 at he
 split at he
 ·cases hx; simp only [Option.some.injEq] at he; exact .inl ⟨rfl, he.symm⟩
 ·rename_i b
  split at he
  ·rename_i es' clock hb
   simp only [Option.some.injEq] at he
   subst he
   exact .inr ⟨_, clock, hx.map_inv.2, (h.blk b _ hb).2⟩
  ·simp at he
 ·simp at he
theorem XcO {t kt el : TypeId} {x' key : Value} {ok : Bool} {es : List MapEntry} (hu : P.underlying t = some (.map kt el)) (hes : (x' = .map none ∧ es = []) ∨ ∃ g clock, x' = .map (some g) ∧ w.heap[g]? = some (.map ⟨es⟩ clock))
  {r : Option (Nat × Value)} (hf : XeT P es.isEmpty kt key es = some r) {z : Value} (hz : r = none → (zeroValue el).run P w = .ok z w) :
  (Instr.lookup t x' key ok).run P w = .ok (match r with | some (_, v) => (if ok = true then .tuple #[v, .bool true] else v) | none => (if ok = true then .tuple #[z, .bool false] else z)) w := by
 obtain ⟨⟨u, h1⟩, h2⟩ := Xb5 hf w
 rcases hes with ⟨rfl, rfl⟩ | ⟨g, clock, rfl, hg⟩
 ·unfold Instr.lookup
  simp only [Sem.run_bind, run_underlying hu, Result.andThen_ok, Sem.run_pure]
  have h1' : (Instr.checkKey (#[] : Array MapEntry).isEmpty 10000 kt key).run P w = .ok u w := h1
  rw [h1']
  simp only [Result.andThen_ok, h2]
  cases r with
  | some p => obtain ⟨i, v⟩ := p; cases ok <;> simp
  | none => cases ok <;> simp [hz rfl]
 ·unfold Instr.lookup
  simp only [Sem.run_bind, run_underlying hu, Result.andThen_ok, Sem.run_pure, YQ hg (fun _ _ _ => by simp)]
  have h1' : (Instr.checkKey (⟨es⟩ : Array MapEntry).isEmpty 10000 kt key).run P w = .ok u w := by rw [List.isEmpty_toArray]; exact h1
  rw [h1']
  simp only [Result.andThen_ok, h2]
  cases r with
  | some p => obtain ⟨i, v⟩ := p; cases ok <;> simp
  | none => cases ok <;> simp [hz rfl]
theorem Xfg (h : HR B ro U ρ st.next st.mem w) {t : TypeId} {x k : Operand} {ok : Bool} (ho : o.op = .lookup t x k ok) (hev : ∀ x ∈ o.op.operands, VR U ρ (ev x) (ev' x)) (he : Xd7 P t (ev x) (ev k) ok st = some (v, st')) :
  YG P (execOp ev' o) w (Post B ro U ρ st.next w v st') := by
 have hx := hev x (by simp [ho, Op.operands])
 have hk := hev k (by simp [ho, Op.operands])
 unfold Xd7 at he
 split at he
 ·rename_i kt el es h1 h2 h3
  have hu := Xb2 h1
  have hkey := Xfs h2 hk
  have hes := Xdn h hx h3
  split at he
  ·rename_i i u hf
   split at he
   ·rename_i hg
    simp only [Option.some.injEq, Prod.mk.injEq] at he
    obtain ⟨rfl, rfl⟩ := he
    have hrun := XcO (P := P) (w := w) (ok := ok) (z := undef) hu hes hf (fun q => by simp at q)
    refine .inl ⟨if ok = true then .tuple #[u, .bool true] else u, w, by simp only [execOp, ho, hkey, Sem.run_bind, hrun, Result.andThen_ok, Sem.run_pure], Post.same h ?_⟩
    cases ok
    ·exact VR.refl 8 u hg
    ·exact .tup _ _ (.cons _ _ _ _ (VR.refl 8 u hg) (.cons _ _ _ _ (.bool _) .nil))
   ·simp at he
  ·rename_i hf
   split at he
   ·rename_i z hz
    simp only [Option.some.injEq, Prod.mk.injEq] at he
    obtain ⟨rfl, rfl⟩ := he
    have hrun := XcO (P := P) (w := w) (ok := ok) (z := z) hu hes hf (fun _ => JZ hz w)
    have hg := (Y0 hz).1
    refine .inl ⟨if ok = true then .tuple #[z, .bool false] else z, w, by simp only [execOp, ho, hkey, Sem.run_bind, hrun, Result.andThen_ok, Sem.run_pure], Post.same h ?_⟩
    cases ok
    ·exact VR.refl 8 z hg
    ·exact .tup _ _ (.cons _ _ _ _ (VR.refl 8 z hg) (.cons _ _ _ _ (.bool _) .nil))
   ·simp at he
  ·simp at he
 ·simp at he

theorem HR.setO (h : HR B ro U ρ st.next st.mem w) {b : Nat} {k k' : Blk} (hb : Xr st.mem b = some k) (hro : ro ≤ b) (ob : Obj) (hk : Y3 U ρ b k' (w.putObj (ρ b).g ob)) (v : Value) (v' : Value) (hv : VR U ρ v v') :
  Post B ro U ρ st.next w v ⟨st.next, put st.mem b k'⟩ v' (w.putObj (ρ b).g ob) := by
 refine ⟨U, ρ, Ext.refl _ _ _, h.putAt hb hk (fun j hj => World.putObj_heap_other hj) (by simp), hv, ⟨rfl, rfl, rfl, by simp, fun j hj => World.putObj_heap_other ?_⟩⟩
 have := h.own _ _ hb hro
 omega
theorem Xdk (h : HR B ro U ρ st.next st.mem w) {t : TypeId} {x k y : Operand} (ho : o.op = .mapUpdate t x k y) (hev : ∀ x ∈ o.op.operands, VR U ρ (ev x) (ev' x)) (he : J7 P ro t (ev x) (ev k) (ev y) st = some (v, st')) :
  YG P (execOp ev' o) w (Post B ro U ρ st.next w v st') := by
 have hx := hev x (by simp [ho, Op.operands])
 have hk := hev k (by simp [ho, Op.operands])
 have hy := hev y (by simp [ho, Op.operands])
 unfold J7 at he
 split at he
 ·rename_i kt el b h1 h2 hxe
  have hu := Xb2 h1
  simp only [Bool.and_eq_true] at h2
  have hkey := Xfs h2.1 hk
  have hval := Xfs h2.2 hy
  rw [hxe] at hx
  obtain ⟨hU, ex⟩ := hx.map_inv
  split at he
  ·rename_i es clock hro hb
   have hro := Nat.le_of_ble_eq_true hro
   have hg : w.heap[(ρ b).g]? = some (.map ⟨es⟩ clock) := (h.blk b _ hb).2
   have hlt := (Array.getElem?_eq_some_iff.1 hg).1
   split at he
   ·rename_i i u hf
    obtain ⟨⟨u', c1⟩, c2⟩ := Xb5 hf w
    split at he
    ·rename_i key' hks
     simp only [Option.some.injEq, Prod.mk.injEq] at he
     obtain ⟨rfl, rfl⟩ := he
     have c3 := XaO P _ hks w
     refine .inr (.inl ⟨w.putObj (ρ b).g (.map (Array.modify ⟨es⟩ i fun e => { e with key := key', val := ev y }) clock), ?_, ?_⟩)
     ·have hrun : (Instr.mapUpdate t (.map (some (ρ b).g)) (ev k) (ev y)).run P w = .ok () (w.putObj (ρ b).g (.map (Array.modify ⟨es⟩ i fun e => { e with key := key', val := ev y }) clock)) := by
       unfold Instr.mapUpdate
       simp only [Sem.run_bind, run_underlying hu, Result.andThen_ok, Sem.run_pure, YQ hg (fun _ _ _ => by simp), c1, c2]
       have c3' : (Instr.keyThatStays ((((⟨es⟩ : Array MapEntry)[i]?).map (·.key)).getD (ev k)) (ev k)).run P w = .ok key' w := by rw [List.getElem?_toArray]; exact c3
       rw [c3']
       simp only [Result.andThen_ok, Xa7 _ hg (fun _ _ _ => by simp)]
       rfl
      simp only [execOp, ho, ex, hkey, hval, Sem.run_bind, hrun, Result.andThen_ok, Sem.run_pure]
     ·refine h.setO hb hro _ ⟨hU, ?_⟩ _ _ (.tup _ _ .nil)
      show (w.putObj (ρ b).g _).heap[(ρ b).g]? = _
      rw [World.putObj_heap_same hlt]
      congr 2
      apply Array.ext'
      simp
    ·simp at he
   ·rename_i hf
    obtain ⟨⟨u', c1⟩, c2⟩ := Xb5 hf w
    simp only [Option.some.injEq, Prod.mk.injEq] at he
    obtain ⟨rfl, rfl⟩ := he
    refine .inr (.inl ⟨w.putObj (ρ b).g (.map (Array.push ⟨es⟩ { key := ev k, val := ev y, born := clock }) (clock + 1)), ?_, ?_⟩)
    ·have hrun : (Instr.mapUpdate t (.map (some (ρ b).g)) (ev k) (ev y)).run P w = .ok () (w.putObj (ρ b).g (.map (Array.push ⟨es⟩ { key := ev k, val := ev y, born := clock }) (clock + 1))) := by
      unfold Instr.mapUpdate
      simp only [Sem.run_bind, run_underlying hu, Result.andThen_ok, Sem.run_pure, YQ hg (fun _ _ _ => by simp), c1, c2, Xa7 _ hg (fun _ _ _ => by simp)]
      rfl
     simp only [execOp, ho, ex, hkey, hval, Sem.run_bind, hrun, Result.andThen_ok, Sem.run_pure]
    ·refine h.setO hb hro _ ⟨hU, ?_⟩ _ _ (.tup _ _ .nil)
     show (w.putObj (ρ b).g _).heap[(ρ b).g]? = _
     rw [World.putObj_heap_same hlt]
     congr 2
     apply Array.ext'
     simp
   ·simp at he
  ·simp at he
 ·simp at he
theorem Post.newO (h : HR B ro U ρ st.next st.mem w) {k : Blk} (ob : Obj) (hk : Y3 (fun b => U b ∨ b = st.next) (fun b => if b = st.next then ⟨w.heap.size, 0, 0⟩ else ρ b) st.next k (w.alloc ob)) {v v' : Value}
  (hv : VR (fun b => U b ∨ b = st.next) (fun b => if b = st.next then ⟨w.heap.size, 0, 0⟩ else ρ b) v v') : Post B ro U ρ st.next w v ⟨st.next + 1, (st.next, k) :: st.mem⟩ v' (w.alloc ob) :=
 ⟨_, _, HR.fresh_ext h.lt _, h.allocO ob hk, hv, (Below.refl _ _).alloc h.base _⟩
theorem XeE (h : HR B ro U ρ st.next st.mem w) {t : TypeId} {r : Option Operand} (ho : o.op = .makeMap t r) (he : XcI r st = some (v, st')) :
  YG P (execOp ev' o) w (Post B ro U ρ st.next w v st') := by
 unfold XcI at he
 split at he
 ·simp only [Option.some.injEq, Prod.mk.injEq] at he
  obtain ⟨rfl, rfl⟩ := he
  refine .inl ⟨.map (some w.heap.size), w.alloc (.map #[] 0), ?_, Post.newO h _ ⟨.inr rfl, ?_⟩ ?_⟩
  ·simp only [execOp, ho, Instr.makeMap, Option.map_none, Sem.run_bind, Sem.run_pure, Result.andThen_ok, run_newObj_alloc]
  ·show (w.alloc (.map #[] 0)).heap[(if st.next = st.next then _ else _ : Pl).g]? = _
   rw [if_pos rfl]; exact World.alloc_heap_new w _
  ·have := VR.mapv (U := fun b => U b ∨ b = st.next) (ρ := fun b => if b = st.next then ⟨w.heap.size, 0, 0⟩ else ρ b) st.next (.inr rfl)
   simpa using this
 ·simp at he
theorem Xgk (h : HR B ro U ρ st.next st.mem w) {t : TypeId} {x : Operand} (ho : o.op = .range t x) (hev : ∀ x ∈ o.op.operands, VR U ρ (ev x) (ev' x)) (he : Xff P t (ev x) st = some (v, st')) :
  YG P (execOp ev' o) w (Post B ro U ρ st.next w v st') := by
 have hx := hev x (by simp [ho, Op.operands])
 unfold Xff at he
 split at he
 ·rename_i kv b h1 hxe
  obtain ⟨kt, el⟩ := kv
  have hu := Xb2 h1
  rw [hxe] at hx
  obtain ⟨hU, ex⟩ := hx.map_inv
  split at he
  ·rename_i es clock hb
   simp only [Option.some.injEq, Prod.mk.injEq] at he
   obtain ⟨rfl, rfl⟩ := he
   have hg : w.heap[(ρ b).g]? = some (.map ⟨es⟩ clock) := (h.blk b _ hb).2
   have hne : b ≠ st.next := by have := h.lt b hU; omega
   refine .inl ⟨.pointer (some ⟨w.heap.size, 0, none⟩), w.alloc (.mapIter (some (ρ b).g) clock #[] clock), ?_, Post.newO h _ ⟨.inr rfl, ?_⟩ Xd2⟩
   ·simp only [execOp, ho, ex, Instr.range, Sem.run_bind, run_underlying hu, Sem.run_pure, Result.andThen_ok, YQ hg (fun _ _ _ => by simp), run_newObj_alloc]
   ·refine ⟨.inl hU, by simp, ?_⟩
    simp only [if_true, if_neg hne]
    exact World.alloc_heap_new w _
  ·simp at he
 ·simp at he
theorem Xgm (h : HR B ro U ρ st.next st.mem w) {x : Operand} (ho : o.op = .entry x) (hev : ∀ x ∈ o.op.operands, VR U ρ (ev x) (ev' x)) (he : Xfh (ev x) st = some (v, st')) :
  YG P (execOp ev' o) w (Post B ro U ρ st.next w v st') := by
 have hx := hev x (by simp [ho, Op.operands])
 unfold Xfh at he
 split at he
 ·rename_i r hxe
  rw [hxe] at hx
  obtain ⟨hU, ex⟩ := hx.ptr_inv
  split at he
  ·rename_i b since seen stepped hr
   obtain ⟨_, hUb, hoff, hg⟩ := h.blk r _ hr
   rw [hoff] at ex
   split at he
   ·rename_i es clock hb
    have hgm : w.heap[(ρ b).g]? = some (.map ⟨es⟩ clock) := (h.blk b _ hb).2
    split at he
    ·rename_i stamp hst hlast
     have hst := Nat.eq_of_beq_eq_true hst
     split at he
     ·rename_i e hf
      split at he
      ·rename_i hgd
       simp only [Bool.and_eq_true] at hgd
       simp only [Option.some.injEq, Prod.mk.injEq] at he
       obtain ⟨rfl, rfl⟩ := he
       refine .inl ⟨.tuple #[e.key, e.val], w, ?_, Post.same h (.tup _ _ (.cons _ _ _ _ (VR.refl 8 _ hgd.1) (.cons _ _ _ _ (VR.refl 8 _ hgd.2) .nil)))⟩
       have hrun : (Instr.entry (.pointer (some ⟨(ρ r).g, 0 + 0, none⟩))).run P w = .ok (.tuple #[e.key, e.val]) w := by
        unfold Instr.entry
        have hb2 : (⟨seen⟩ : Array Nat).back? = some stamp := by rw [← hlast]; simp
        have hf2 : (⟨es⟩ : Array MapEntry).find? (·.born == stamp) = some e := by rw [← hf]; simp
        simp only [Sem.run_bind, YQ hg (fun _ _ _ => by simp), Result.andThen_ok, hb2, YQ hgm (fun _ _ _ => by simp), hst, bne_self_eq_false, Bool.false_eq_true, if_false, hf2, Sem.run_pure]
       simp only [execOp, ho, ex, Sem.run_bind, hrun, Result.andThen_ok, Sem.run_pure]
      ·simp at he
     ·simp at he
    ·simp at he
   ·simp at he
  ·simp at he
 ·simp at he
end
end Go.Proofs.Ytiaiecfnpompcaa.Ab
namespace Go.Proofs.Ytiaiecfnpompcaa.Ab
open Go Go.RowKit
set_option linter.unusedVariables false
set_option linter.unusedSimpArgs false
section
variable {P : Program} {B ro : Nat} {U : Nat → Prop} {ρ : Nat → Pl} {st : St} {w : World}
variable {ev ev' : Operand → Value} {o : Oper} {v : Value} {st' : St}

theorem Xbv : ∀ {fs : List Field} {pl : List (Nat × Nat)}, J0 P fs = some pl → (fs.mapM fun f => (do pure (f.offset, ← sizeOf f.type) : Sem (Nat × Nat))).run P w = .ok pl w
 | [], pl, h => by
  simp only [J0, Option.some.injEq] at h
  subst h
  rfl
 | f :: fs, pl, h => by
  simp only [J0] at h
  split at h
  ·rename_i n l hn hl
   simp only [Option.some.injEq] at h
   subst h
   have ih := Xbv hl
   rw [List.mapM_cons]
   simp only [Sem.run_bind, Y1 hn, Result.andThen_ok, Sem.run_pure, ih]
  ·simp at h
theorem XdR {t : TypeId} {parts : List (Nat × Value)} {cells' : Array Value} {z : Value} (hz : (zeroValue t).run P w = .ok z w)
  (hp : (∃ fs pl, P.underlying t = some (.struct fs) ∧ J0 P fs.toList = some pl ∧ Instr.fill (fun i => pl[i]?) z.cells parts = some cells') ∨
   (∃ n elem size, P.underlying t = some (.array n elem) ∧ szOf P elem = some size ∧ Instr.fill (fun i => some (i * size, size)) z.cells parts = some cells')) :
  (Instr.build t ⟨parts⟩).run P w = .ok (.agg cells') w := by
 unfold Instr.build
 rcases hp with ⟨fs, pl, hu, hpl, hf⟩ | ⟨n, elem, size, hu, hs, hf⟩
 ·simp only [Sem.run_bind, hz, Result.andThen_ok, run_underlying hu]
  have hm : (fs.mapM fun f => (do pure (f.offset, ← sizeOf f.type) : Sem (Nat × Nat))).run P w = .ok ⟨pl⟩ w := by
   rw [← Array.toArray_toList (xs := fs), List.mapM_toArray]
   show ((List.toArray <$> fs.toList.mapM _ : Sem (Array (Nat × Nat)))).run P w = _
   rw [map_eq_pure_bind]
   simp only [Sem.run_bind, Xbv hpl, Result.andThen_ok, Sem.run_pure]
  simp only [hm, Result.andThen_ok]
  have hf' : Instr.fill (fun x => (⟨pl⟩ : Array (Nat × Nat))[x]?) z.cells parts = some cells' := by rw [← hf]; congr 1; funext i; simp
  simp only [hf', Sem.run_pure]
 ·simp only [Sem.run_bind, hz, Result.andThen_ok, run_underlying hu, Y1 hs, hf, Sem.run_pure]
theorem Xgo (h : HR B ro U ρ st.next st.mem w) {t : TypeId} {parts : Array (Nat × Operand)} (ho : o.op = .build t parts) (hev : ∀ x ∈ o.op.operands, VR U ρ (ev x) (ev' x))
  (he : Xd9 P t (parts.toList.map fun p => (p.1, ev p.2)) st = some (v, st')) : YG P (execOp ev' o) w (Post B ro U ρ st.next w v st') := by
 have hparts : (parts.map fun x => (x.1, ev' x.2)) = ⟨parts.toList.map fun p => (p.1, ev' p.2)⟩ := by apply Array.ext'; simp
 have hpe : ∀ p ∈ parts.toList, VR U ρ (ev p.2) (ev' p.2) := fun p hp => hev p.2 (by simp [ho, Op.operands]; exact ⟨p.1, by simpa using hp⟩)
 unfold Xd9 at he
 split at he
 ·rename_i fs z hu hz
  split at he
  ·rename_i pl hpl
   split at he
   ·rename_i cells hf
    simp only [Option.some.injEq, Prod.mk.injEq] at he
    obtain ⟨rfl, rfl⟩ := he
    obtain ⟨r', h1, h2, h3⟩ := XbJ (ev := ev) (ev' := ev') (U := U) (ρ := ρ) (fun i => pl[i]?) parts.toList hpe (a := z.cells) (b := z.cells) (VR.refl 8 z (Y0 hz).1).cells hf
    refine .inl ⟨.agg r', w, ?_, Post.same h (by have := VR.agg cells.toList r'.toList h2; simpa using this)⟩
    simp only [execOp, ho, hparts, Sem.run_bind, XdR (JZ hz w) (.inl ⟨fs, pl, hu, hpl, h1⟩), Result.andThen_ok, Sem.run_pure]
   ·simp at he
  ·simp at he
 ·rename_i n elem z hu hz
  split at he
  ·rename_i size hs
   split at he
   ·rename_i cells hf
    simp only [Option.some.injEq, Prod.mk.injEq] at he
    obtain ⟨rfl, rfl⟩ := he
    obtain ⟨r', h1, h2, h3⟩ := XbJ (ev := ev) (ev' := ev') (U := U) (ρ := ρ) (fun i => some (i * size, size)) parts.toList hpe (a := z.cells) (b := z.cells) (VR.refl 8 z (Y0 hz).1).cells hf
    refine .inl ⟨.agg r', w, ?_, Post.same h (by have := VR.agg cells.toList r'.toList h2; simpa using this)⟩
    simp only [execOp, ho, hparts, Sem.run_bind, XdR (JZ hz w) (.inr ⟨n, elem, size, hu, hs, h1⟩), Result.andThen_ok, Sem.run_pure]
   ·simp at he
  ·simp at he
 ·simp at he
theorem Xg1 {t : TypeId} {cs cs' : List Value} {off : Nat} {v : Value} (hc : VL U ρ cs cs') (hv : Xdb P t cs off = some v) : ∃ v', (part t ⟨cs'⟩ off).run P w = .ok v' w ∧ VR U ρ v v' := by
 unfold Xdb at hv
 cases ha : aggT P t with
 | none => simp [ha] at hv
 | some r =>
  cases r with
  | true =>
   simp only [ha] at hv
   cases hs : szOf P t with
   | none => simp [hs] at hv
   | some k =>
    simp only [hs, Option.map_eq_some_iff] at hv
    obtain ⟨l, hl, rfl⟩ := hv
    obtain ⟨h1, h2, h3⟩ := XbM hl
    refine ⟨.agg (Array.extract ⟨cs'⟩ off (off + k)), ?_, ?_⟩
    ·simp [part, Jw ha, Y1 hs]
    ·have e : (Array.extract ⟨cs'⟩ off (off + k) : Array Value) = ⟨(cs'.drop off).take k⟩ := by
      apply Array.ext'
      simp [List.extract_eq_take_drop]
     rw [e]
     refine .agg _ _ (VL.of (by rw [h3]; have := hc.len; simp; omega) fun i x hx => ?_)
     rw [h2, List.getElem?_take] at hx
     split at hx
     ·rename_i hik
      rw [List.getElem?_drop] at hx
      obtain ⟨y, hy, hr⟩ := hc.get hx
      exact ⟨y, by rw [List.getElem?_take, if_pos hik, List.getElem?_drop]; exact hy, hr⟩
     ·simp at hx
  | false =>
   simp only [ha] at hv
   obtain ⟨y, h1, h2⟩ := hc.get hv
   exact ⟨y, by simp [part, Jw ha, h1], h2⟩
theorem Xgl (h : HR B ro U ρ st.next st.mem w) {t : TypeId} {x : Operand} {f : Nat} (ho : o.op = .field t x f) (hev : ∀ x ∈ o.op.operands, VR U ρ (ev x) (ev' x)) (he : Xd8 P t (ev x) f st = some (v, st')) :
  YG P (execOp ev' o) w (Post B ro U ρ st.next w v st') := by
 have hx := hev x (by simp [ho, Op.operands])
 unfold Xd8 at he
 split at he
 ·rename_i fs cs hu hxe
  rw [hxe] at hx
  obtain ⟨cs', ex, hc⟩ := hx.agg_inv
  split at he
  ·rename_i fl hfl
   split at he
   ·rename_i u hv
    simp only [Option.some.injEq, Prod.mk.injEq] at he
    obtain ⟨rfl, rfl⟩ := he
    obtain ⟨v', h1, h2⟩ := Xg1 (P := P) (w := w) hc hv
    refine .inl ⟨v', w, ?_, Post.same h h2⟩
    have hrun : (Instr.field t (.agg ⟨cs'⟩) f).run P w = .ok v' w := by
     unfold Instr.field
     simp only [Sem.run_bind, run_underlying hu, Result.andThen_ok, hfl, asAgg, Sem.run_pure, h1]
    simp only [execOp, ho, ex, Sem.run_bind, hrun, Result.andThen_ok, Sem.run_pure]
   ·simp at he
  ·simp at he
 ·simp at he
theorem Xg9 (h : HR B ro U ρ st.next st.mem w) {x : Operand} {isS : Bool} (ho : o.op = .next x isS) (hev : ∀ x ∈ o.op.operands, VR U ρ (ev x) (ev' x)) {l : List (Value × St)} (he : Xd6 ro (ev x) isS st = some l) :
  YG P (execOp ev' o) w fun v' w' => ∃ p ∈ l, Post B ro U ρ st.next w p.1 p.2 v' w' := by
 have hx := hev x (by simp [ho, Op.operands])
 unfold Xd6 at he
 split at he
 ·rename_i r hxe
  rw [hxe] at hx
  obtain ⟨hU, ex⟩ := hx.ptr_inv
  split at he
  ·rename_i b since seen last hro hr
   have hro := Nat.le_of_ble_eq_true hro
   obtain ⟨_, hUb, hoff, hg⟩ := h.blk r _ hr
   rw [hoff] at ex
   have hlt := (Array.getElem?_eq_some_iff.1 hg).1
   split at he
   ·rename_i es clock hb
    have hgm : w.heap[(ρ b).g]? = some (.map ⟨es⟩ clock) := (h.blk b _ hb).2
    split at he
    ·simp at he
    ·rename_i hun
     split at he
     ·rename_i hgd
      simp only [Option.some.injEq] at he
      have hcand : ∀ (a : Array (Option MapEntry)), a = ((if ((Array.filter (fun e => decide (e.born < since)) (Array.filter (fun e => !(⟨seen⟩ : Array Nat).contains e.born) (⟨es⟩ : Array MapEntry)))).isEmpty = true then #[none] else #[]) ++
        (Array.filter (fun e => decide (e.born < since)) (Array.filter (fun e => !(⟨seen⟩ : Array Nat).contains e.born) ⟨es⟩) ++ Array.filter (fun e => decide (e.born ≥ since)) (Array.filter (fun e => !(⟨seen⟩ : Array Nat).contains e.born) ⟨es⟩)).map some) → a = ⟨Y7 es since seen⟩ := by
       rintro a rfl
       have e0 : (fun e : MapEntry => !(⟨seen⟩ : Array Nat).contains e.born) = fun e => !seen.contains e.born := by funext e; simp
       have e1 : ∀ (p : MapEntry → Bool) (l : List MapEntry), Array.filter p (⟨l⟩ : Array MapEntry) = ⟨l.filter p⟩ := by intro p l; apply Array.ext'; simp
       rw [e0, e1, e1, e1, List.isEmpty_toArray]
       unfold Y7
       simp only
       generalize List.filter (fun e => decide (e.born < since)) (List.filter (fun e => !seen.contains e.born) es) = A1
       generalize List.filter (fun e => decide (e.born ≥ since)) (List.filter (fun e => !seen.contains e.born) es) = A2
       apply Array.ext'
       cases hA : A1.isEmpty <;> simp
      have hne : 0 < (Y7 es since seen).length := by
       unfold Y7
       simp only [List.length_append, List.length_map]
       split
       ·simp only [List.length_singleton]; omega
       ·rename_i q
        have : 0 < (List.filter (fun x => decide (x.born < since)) (List.filter (fun e => !seen.contains e.born) es)).length := by
         rw [List.isEmpty_iff] at q
         exact List.length_pos_iff.mpr q
        omega
      -- the choice
      obtain ⟨i, w1, hi, hch, hw1, hd1⟩ : ∃ i w1, i < (Y7 es since seen).length ∧ (choose (.mapNext (Y7 es since seen).length)).run P w = .ok i w1 ∧ w1.heap = w.heap ∧ Below B w w1 := by
       by_cases q : (Question.mapNext (Y7 es since seen).length).forced = true
       ·exact ⟨0, w, hne, by simp [choose, Sem.run, q], rfl, Below.refl _ _⟩
       ·refine ⟨(Question.mapNext (Y7 es since seen).length).cut (w.tape w.drawn (.mapNext (Y7 es since seen).length)), { w with drawn := w.drawn + 1 }, ?_, by simp [choose, Sem.run, q], rfl, ⟨rfl, rfl, rfl, Nat.le_refl _, fun _ _ => rfl⟩⟩
        simp only [Question.cut]
        exact Nat.mod_lt _ hne
      have hun' : (!(⟨seen⟩ : Array Nat).isEmpty && !(⟨es⟩ : Array MapEntry).isEmpty && (⟨es⟩ : Array MapEntry).all (·.born ≥ last)) = false := by
       simpa using hun
      have hrun : (Instr.next (.pointer (some ⟨(ρ r).g, 0 + 0, none⟩)) false o.type).run P w = (match (Y7 es since seen)[i]? with
        | some (some e) => .ok (.tuple #[.bool true, e.key, e.val]) (w1.putObj (ρ r).g (.mapIter (some (ρ b).g) since ((⟨seen⟩ : Array Nat).push e.born) clock))
        | some none => .ok (.tuple #[.bool false]) w1
        | none => (stuck "Next: no such candidate" : Sem Value).run P w1) := by
       unfold Instr.next
       simp only [Sem.run_bind, YQ hg (fun _ _ _ => by simp), Result.andThen_ok, YQ hgm (fun _ _ _ => by simp), hun', Bool.false_eq_true, if_false]
       rw [hcand _ rfl]
       have hsz : (⟨Y7 es since seen⟩ : Array (Option MapEntry)).size = (Y7 es since seen).length := rfl
       simp only [Sem.run_bind, hsz, hch, Result.andThen_ok, List.getElem?_toArray]
       have hg1 : w1.heap[(ρ r).g]? = some (.mapIter (some (ρ b).g) since ⟨seen⟩ last) := by rw [hw1]; exact hg
       cases hc : (Y7 es since seen)[i]? with
       | none => rfl
       | some c =>
        cases c with
        | none => simp only [Sem.run_pure]
        | some e =>
         simp only [Sem.run_bind, Xa7 _ hg1 (fun _ _ _ => by simp), Result.andThen_ok, Sem.run_pure]
         rfl
      have hc := List.getElem?_eq_getElem hi
      rw [hc] at hrun
      have hmem := List.getElem_mem hi
      generalize (Y7 es since seen)[i] = c at hrun hmem
      have h1 : HR B ro U ρ st.next st.mem w1 := by
       refine ⟨h.lt, fun b k hb => ?_, h.own, h.inj, by rw [hw1]; exact h.base⟩
       exact (h.blk b k hb).move (fun b hb => ⟨hb, rfl⟩) (by rw [hw1])
      cases c with
      | none =>
       simp only at hrun
       refine .inl ⟨.tuple #[.bool false], w1, by simp only [execOp, ho, ex, Sem.run_bind, hrun, Result.andThen_ok, Sem.run_pure], (.tuple ⟨[.bool false]⟩, st), ?_, U, ρ, Ext.refl _ _ _, h1, .tup _ _ (.cons _ _ _ _ (.bool _) .nil), hd1⟩
       rw [← he]
       exact List.mem_map.mpr ⟨none, hmem, rfl⟩
      | some e =>
       simp only at hrun
       have hge : gnd 8 e.key = true ∧ gnd 8 e.val = true := by
        rw [List.all_eq_true] at hgd
        have hin : e ∈ es := by
         unfold Y7 at hmem
         simp only [List.mem_append, List.mem_map, List.mem_filter] at hmem
         rcases hmem with hmem | ⟨e', h3, h4⟩
         ·split at hmem <;> simp at hmem
         ·simp only [Option.some.injEq] at h4
          subst h4
          rcases h3 with h3 | h3 <;> exact h3.1.1
        have := hgd e hin
        simpa using this
       have hlt1 : (ρ r).g < w1.heap.size := by rw [hw1]; exact hlt
       have hp := h1.setO (st := st) hr hro (.mapIter (some (ρ b).g) since ((⟨seen⟩ : Array Nat).push e.born) clock) (k' := .it b since (seen ++ [e.born]) clock)
        ⟨hU, hUb, hoff, by rw [World.putObj_heap_same hlt1]; congr 2; apply Array.ext'; simp⟩ (.tuple ⟨[.bool true, e.key, e.val]⟩) (.tuple #[.bool true, e.key, e.val]) (.tup _ _ (.cons _ _ _ _ (.bool _) (.cons _ _ _ _ (VR.refl 8 _ hge.1) (.cons _ _ _ _ (VR.refl 8 _ hge.2) .nil))))
       refine .inl ⟨.tuple #[.bool true, e.key, e.val], w1.putObj (ρ r).g (.mapIter (some (ρ b).g) since ((⟨seen⟩ : Array Nat).push e.born) clock), by simp only [execOp, ho, ex, Sem.run_bind, hrun, Result.andThen_ok, Sem.run_pure], (.tuple ⟨[.bool true, e.key, e.val]⟩, ⟨st.next, put st.mem r (.it b since (seen ++ [e.born]) clock)⟩), ?_, ?_⟩
       ·rw [← he]
        exact List.mem_map.mpr ⟨some e, hmem, rfl⟩
       ·obtain ⟨U', ρ', a1, a2, a3, a4⟩ := hp
        exact ⟨U', ρ', a1, a2, a3, hd1.trans a4⟩
     ·simp at he
   ·simp at he
  ·simp at he
 ·simp at he
end
end Go.Proofs.Ytiaiecfnpompcaa.Ab
namespace Go.Proofs.Ytiaiecfnpompcaa.Ab
open Go Go.RowKit
set_option linter.unusedVariables false
set_option linter.unusedSimpArgs false

def JY (P : Program) (call : Nat → Tgt → List Value → St → Ans) : Prop :=
 ∀ ro g args (st : St) v st', call ro g args st = some (v, st') → match g with
  | .fn f => (∃ fn, P.funcs[f]? = some fn ∧ (fn.name == "runtime.NumGoroutine") = false ∧ fn.body.isSome = true) ∧
   ∀ B U ρ w args', HR B ro U ρ st.next st.mem w → VL U ρ args args' → Calls P f ⟨args'⟩ w fun e w' => ∃ v', e = .returned v' ∧ Post B ro U ρ st.next w v st' v' w'
  | .yld l => ∀ B U ρ w args', HR B ro U ρ st.next st.mem w → VL U ρ args args' → ∃ L : Loop, w.heap[(ρ l).g]? = some (.loop L) ∧ args'.length = L.params.size ∧
   RoundIn Fence.wide 0 P (ρ l).g L.fn ((L.params.zip ⟨args'⟩).foldl (fun tmps (t, a) => tmps.setIfInBounds t a) L.tmps) L.assign L.body w fun e w' => ∃ v', e = .returned v' ∧ Post B ro U ρ st.next w v st' v' w'

section
variable {P : Program} {B ro : Nat} {U : Nat → Prop} {ρ : Nat → Pl} {st : St} {w : World}
variable {ev ev' : Operand → Value} {o : Oper} {v : Value} {st' : St} {call : Nat → Tgt → List Value → St → Ans}

theorem VR.yld_inv {l : Nat} {y : Value} (h : VR U ρ (.func (.yield l) ⟨[]⟩ ⟨[]⟩) y) : U l ∧ y = .func (.yield (ρ l).g) ⟨[]⟩ ⟨[]⟩ := by cases h with | yld _ h => exact ⟨h, rfl⟩
theorem Xgn (hcall : JY P call) (h : HR B ro U ρ st.next st.mem w) {c : Call} {f : Operand} (ho : o.op = .call c) (hc : c.callee = .value f) (hev : ∀ x ∈ o.op.operands, VR U ρ (ev x) (ev' x))
  (he : Xfi call ro (ev f) (c.args.toList.map ev) st = some (v, st')) : YG P (execOp ev' o) w (Post B ro U ρ st.next w v st') := by
 have hf := hev f (by simp [ho, Op.operands, Call.operands, hc])
 have ha := VL.map (U := U) (ρ := ρ) ev ev' c.args.toList fun x hx => hev x (by simp [ho, Op.operands, Call.operands, hc]; exact .inr (by simpa using hx))
 unfold Xfi at he
 split at he
 ·rename_i g first captured e
  rw [e] at hf
  obtain ⟨xs', ys', e1, h1, h2⟩ := hf.fn_inv
  rw [XdQ] at he
  obtain ⟨⟨fn, q1, q2, q3⟩, hC⟩ := hcall _ _ _ _ _ _ he
  refine .inr (.inr (.inl ⟨g, ⟨xs' ++ c.args.toList.map ev' ++ ys'⟩, ?_, hC B U ρ w _ h ((h1.append ha).append h2)⟩))
  have hargs : (⟨xs'⟩ : Array Value) ++ c.args.map ev' ++ ⟨ys'⟩ = ⟨xs' ++ c.args.toList.map ev' ++ ys'⟩ := by apply Array.ext'; simp
  have q3' : fn.body.isNone = false := by cases hb : fn.body <;> simp_all
  simp only [execOp, ho, resolve, hc, e1, Deferred.ofValue, Sem.run_bind, Sem.run_pure, Result.andThen_ok, invoke, callFunc, run_program, q1, q2, q3', hargs, Bool.false_eq_true, if_false]
 ·rename_i l e
  rw [e] at hf
  obtain ⟨hU, e1⟩ := hf.yld_inv
  rw [XdQ] at he
  obtain ⟨L, q1, q2, q3⟩ := hcall _ _ _ _ _ _ he B U ρ w _ h ha
  refine .inr (.inr (.inr ⟨(ρ l).g, L.fn, _, L.assign, L.body, ?_, q3⟩))
  have hargs : (⟨[]⟩ : Array Value) ++ c.args.map ev' = ⟨c.args.toList.map ev'⟩ := by apply Array.ext'; simp
  have hy := run_yield (P := P) (w := w) (args := ⟨c.args.toList.map ev'⟩) q1 (by simpa using q2)
  simp only [execOp, ho, resolve, hc, e1, Deferred.ofValue, Sem.run_bind, Sem.run_pure, Result.andThen_ok, invoke, hargs, hy]
 ·simp at he

theorem Xcj {a b : Option (Value × St)} {p : Value × St} (h : Xb1 a b = some p) : a = some p ∨ b = some p := by
 unfold Xb1 at h
 cases a with
 | none => exact .inr h
 | some q => exact .inl h
theorem Xel (hcall : JY P call) (h : HR B ro U ρ st.next st.mem w) (hev : ∀ x ∈ o.op.operands, VR U ρ (ev x) (ev' x)) (he : aOp P call ro ev o st = some (v, st')) :
  YG P (execOp ev' o) w (Post B ro U ρ st.next w v st') := by
 have hpure := fun hs => Xc9 (P := P) (v := v) (st' := st') h hev hs
 unfold aOp at he
 split at he
 case h_1 x ho =>
  simp only [Option.some.injEq, Prod.mk.injEq] at he
  obtain ⟨rfl, rfl⟩ := he
  exact .inl ⟨ev' x, w, by simp [execOp, ho], Post.same h (hev x (by simp [ho, Op.operands]))⟩
 case h_2 x ho =>
  simp only [Option.some.injEq, Prod.mk.injEq] at he
  obtain ⟨rfl, rfl⟩ := he
  exact .inl ⟨ev' x, w, by simp [execOp, ho], Post.same h (hev x (by simp [ho, Op.operands]))⟩
 case h_3 ho => exact Xg6 h ho hev he
 case h_4 ho => exact XeG h ho hev he
 case h_5 ho => exact Xgp h ho he
 case h_6 ho => exact XhO h ho hev he
 case h_7 ho => exact Xg7 h ho hev he
 case h_8 ho => exact Xgj h ho hev he
 case h_9 ho => exact Xdo h ho hev he
 case h_10 ho => exact Xdm h ho hev he
 case h_11 ho => exact Xdl h ho hev he
 case h_12 t x lo hi mx ho =>
  split at he
  ·exact XgO h ho hev he
  ·simp at he
 case h_13 ho => exact Xea h ho hev he
 case h_14 ho =>
  split at he
  ·simp only [Option.some.injEq, Prod.mk.injEq] at he
   obtain ⟨rfl, rfl⟩ := he
   exact XeJ h ho hev
  ·simp at he
 case h_15 ho => exact Xd5 h ho hev he
 case h_16 ho => exact XhP h ho hev he
 case h_17 c ho =>
  unfold Xg8 at he
  split at he
  ·rename_i f hc; exact Xgn hcall h ho hc hev he
  ·rename_i hc; exact XgM h ho hc hev he
  ·rename_i hc; exact XhN h ho hc hev he
  ·exact hpure (fun cs b => by rw [ho]; simp) he
  ·simp at he
 case h_18 ho => exact Xfg h ho hev he
 case h_19 ho => exact Xdk h ho hev he
 case h_20 ho => exact XeE h ho he
 case h_21 ho => exact Xgk h ho hev he
 case h_22 ho => exact Xgm h ho hev he
 case h_23 ho => exact hpure (fun cs b => by rw [ho]; simp) he
 case h_24 ho => exact hpure (fun cs b => by rw [ho]; simp) he
 case h_25 ho =>
  rcases Xcj he with he | he
  ·exact hpure (fun cs b => by rw [ho]; simp) he
  ·exact Xgl h ho hev he
 case h_26 ho => exact hpure (fun cs b => by rw [ho]; simp) he
 case h_27 ho =>
  rcases Xcj he with he | he
  ·exact hpure (fun cs b => by rw [ho]; simp) he
  ·exact Xgo h ho hev he
 case h_28 => simp at he

theorem JT (he : aOp P call ro ev o st = some (v, st')) : ∀ c, o.op ≠ .defer c := by
 intro c e
 simp [aOp, e] at he
theorem Xda {st2 : St} (he : Jh P ev o st = none) : Jh P ev o st2 = none := by
 unfold Jh at he ⊢
 split at he
 ·rename_i h1
  split at he
  ·rename_i u hu
   split at he
   ·simp at he
   ·rename_i hg; simp [h1, hu, hg]
  ·rename_i hu
   simp only [h1]
 ·rename_i h1; simp [h1]
theorem Xby {st2 : St} {a b a2 b2 : Option (Value × St)} (h1 : ∀ v st', a = some (v, st') → st' = st ∧ a2 = some (v, st2)) (h2 : a = none → a2 = none) (h3 : ∀ v st', b = some (v, st') → st' = st ∧ b2 = some (v, st2)) (he : Xb1 a b = some (v, st')) : st' = st ∧ Xb1 a2 b2 = some (v, st2) := by
 cases ha : a with
 | some p =>
  rw [ha] at he
  have := h1 v st' (by rw [ha]; exact he)
  exact ⟨this.1, by rw [this.2]; rfl⟩
 | none =>
  rw [ha] at he
  have := h3 v st' he
  exact ⟨this.1, by rw [h2 ha]; exact this.2⟩
theorem XaF {st2 : St} (he : Jh P ev o st = some (v, st')) : st' = st ∧ Jh P ev o st2 = some (v, st2) := by
 unfold Jh at he ⊢
 split at he
 ·rename_i h1
  split at he
  ·rename_i u hu
   split at he
   ·rename_i hg
    simp only [Option.some.injEq, Prod.mk.injEq] at he
    obtain ⟨rfl, rfl⟩ := he
    simp [h1, hu, hg]
   ·simp at he
  ·simp at he
 ·simp at he

theorem XgW {call2 : Nat → Tgt → List Value → St → Ans} {ro2 : Nat} {st2 : St} (hm : st.mem = []) (hs : still o.op = true) (he : aOp P call ro ev o st = some (v, st')) : st' = st ∧ aOp P call2 ro2 ev o st2 = some (v, st2) := by
 have hpure := fun (q : Jh P ev o st = some (v, st')) => XaF (st2 := st2) q
 unfold aOp at he ⊢
 split at he
 case h_1 x ho => simp only [Option.some.injEq, Prod.mk.injEq] at he; simp [ho, he.1, he.2]
 case h_2 x ho => simp only [Option.some.injEq, Prod.mk.injEq] at he; simp [ho, he.1, he.2]
 case h_3 ho =>
  unfold XfH at he ⊢
  split at he <;> simp only [Option.some.injEq, Prod.mk.injEq, reduceCtorEq] at he <;> simp [*]
 case h_4 ho =>
  unfold Xbz at he ⊢
  split at he
  ·split at he <;> simp only [Option.some.injEq, Prod.mk.injEq, reduceCtorEq] at he <;> simp [*]
  ·simp at he
 case h_5 ho => simp [ho, still] at hs
 case h_6 ho => simp [ho, still] at hs
 case h_7 ho => simp [ho, still] at hs
 case h_8 ho => simp [ho, still] at hs
 case h_9 ho => simp [ho, still] at hs
 case h_10 ho =>
  unfold J9 at he ⊢
  repeat' split at he
  all_goals first
   | (simp only [Option.some.injEq, Prod.mk.injEq] at he; obtain ⟨rfl, rfl⟩ := he; simp [*])
   | simp at he
 case h_11 ho =>
  unfold J8 at he ⊢
  repeat' split at he
  all_goals first
   | (simp only [Option.some.injEq, Prod.mk.injEq] at he; obtain ⟨rfl, rfl⟩ := he; simp [*])
   | simp at he
 case h_12 ho => simp [ho, still] at hs
 case h_13 ho => simp [ho, still] at hs
 case h_14 ho =>
  split at he
  ·simp only [Option.some.injEq, Prod.mk.injEq] at he; simp [he.1, he.2]
  ·simp at he
 case h_15 ho =>
  unfold XaR at he ⊢
  repeat' split at he
  all_goals first
   | (simp only [Option.some.injEq, Prod.mk.injEq] at he; obtain ⟨rfl, rfl⟩ := he; simp [*])
   | simp at he
 case h_16 ho =>
  unfold oBin at he ⊢
  split at he
  ·split at he
   ·simp only [Option.some.injEq, Prod.mk.injEq] at he
    obtain ⟨rfl, rfl⟩ := he
    simp [*]
   ·exact hpure he
  ·split at he
   ·simp only [Option.some.injEq, Prod.mk.injEq] at he
    obtain ⟨rfl, rfl⟩ := he
    simp [*]
   ·simp only [Option.some.injEq, Prod.mk.injEq] at he
    obtain ⟨rfl, rfl⟩ := he
    simp [*]
   ·exact hpure he
  ·split at he
   ·simp only [Option.some.injEq, Prod.mk.injEq] at he
    obtain ⟨rfl, rfl⟩ := he
    simp [*]
   ·simp only [Option.some.injEq, Prod.mk.injEq] at he
    obtain ⟨rfl, rfl⟩ := he
    simp [*]
   ·obtain ⟨q1, q2⟩ := hpure he
    refine ⟨q1, ?_⟩
    simp only [*]
 case h_17 c ho =>
  unfold Xg8 at he ⊢
  split at he
  ·rename_i hc; obtain ⟨a, b, d⟩ := c; simp only at hc; subst hc; simp [ho, still] at hs
  ·rename_i hc; obtain ⟨a, b, d⟩ := c; simp only at hc; subst hc; simp [ho, still] at hs
  ·rename_i hc
   unfold oLen at he ⊢
   split at he
   ·rename_i e1 e2
    split at he
    ·rename_i hu
     simp only [Option.some.injEq, Prod.mk.injEq] at he
     obtain ⟨rfl, rfl⟩ := he
     simp [*]
    ·simp at he
   ·rw [hm] at he
    simp only [Xr] at he
    split at he
    ·rename_i q; simp at q
    ·simp at he
   ·exact hpure he
  ·rename_i hc1 hc2 hc3
   obtain ⟨h1, h2⟩ := hpure he
   exact ⟨h1, h2⟩
  ·simp at he
 case h_18 ho => simp [ho, still] at hs
 case h_19 ho => simp [ho, still] at hs
 case h_20 ho => simp [ho, still] at hs
 case h_21 ho => simp [ho, still] at hs
 case h_22 ho => simp [ho, still] at hs
 case h_23 ho => exact hpure he
 case h_24 ho => exact hpure he
 case h_25 ho =>
  refine Xby (fun v st' q => XaF q) Xda (fun v st' q => ?_) he
  unfold Xd8 at q ⊢
  repeat' split at q
  all_goals first
   | (simp only [Option.some.injEq, Prod.mk.injEq] at q; obtain ⟨rfl, rfl⟩ := q; simp [*])
   | simp at q
 case h_26 ho => exact hpure he
 case h_27 ho =>
  refine Xby (fun v st' q => XaF q) Xda (fun v st' q => ?_) he
  unfold Xd9 at q ⊢
  repeat' split at q
  all_goals first
   | (simp only [Option.some.injEq, Prod.mk.injEq] at q; obtain ⟨rfl, rfl⟩ := q; simp [*])
   | simp at q
 case h_28 => simp at he
end
end Go.Proofs.Ytiaiecfnpompcaa.Ab
namespace Go.Proofs.Ytiaiecfnpompcaa.Ab
open Go Go.RowKit
set_option linter.unusedVariables false
set_option linter.unusedSimpArgs false

theorem JH (k i : Nat) : getT k .nil i = undef := by cases k <;> rfl
theorem XdO (k : Nat) (l : Tr) (x : Value) (r : Tr) : getT (k + 1) (.node l x r) 0 = x := rfl
theorem Y4 (k : Nat) (l : Tr) (x : Value) (r : Tr) (m : Nat) : getT (k + 1) (.node l x r) (m + 1) = if m % 2 = 0 then getT k l (m / 2) else getT k r (m / 2) := by
 show Nat.casesOn (motive := fun _ => Value) (m % 2) (getT k l (m / 2)) (fun _ => getT k r (m / 2)) = _
 rcases Nat.mod_two_eq_zero_or_one m with h | h <;> rw [h] <;> rfl
theorem Xgh (k : Nat) (v : Value) : putT (k + 1) .nil 0 v = .node .nil v .nil := rfl
theorem Xgg (k m : Nat) (v : Value) : putT (k + 1) .nil (m + 1) v = if m % 2 = 0 then .node (putT k .nil (m / 2) v) undef .nil else .node .nil undef (putT k .nil (m / 2) v) := by
 show Nat.casesOn (motive := fun _ => Tr) (m % 2) (.node (putT k .nil (m / 2) v) undef .nil) (fun _ => .node .nil undef (putT k .nil (m / 2) v)) = _
 rcases Nat.mod_two_eq_zero_or_one m with h | h <;> rw [h] <;> rfl
theorem Xge (k : Nat) (l : Tr) (x : Value) (r : Tr) (v : Value) : putT (k + 1) (.node l x r) 0 v = .node l v r := rfl
theorem Xgf (k m : Nat) (l : Tr) (x : Value) (r : Tr) (v : Value) : putT (k + 1) (.node l x r) (m + 1) v = if m % 2 = 0 then .node (putT k l (m / 2) v) x r else .node l x (putT k r (m / 2) v) := by
 show Nat.casesOn (motive := fun _ => Tr) (m % 2) (.node (putT k l (m / 2) v) x r) (fun _ => .node l x (putT k r (m / 2) v)) = _
 rcases Nat.mod_two_eq_zero_or_one m with h | h <;> rw [h] <;> rfl
theorem JD : ∀ (k : Nat) (t : Tr) (n : Nat) (v : Value) (i : Nat), n + 1 < 2 ^ k → getT k (putT k t n v) i = if i = n then v else getT k t i
 | 0, t, n, v, i, h => by simp at h
 | k + 1, .nil, 0, v, i, h => by
  rw [Xgh, JH]
  cases i with
  | zero => rfl
  | succ i => rw [Y4, JH]; simp
 | k + 1, .nil, m + 1, v, i, h => by
  have hk : m / 2 + 1 < 2 ^ k := by have := Nat.pow_succ 2 k; omega
  rw [Xgg, JH]
  cases i with
  | zero => split <;> simp [XdO]
  | succ i =>
   have ih := JD k .nil (m / 2) v (i / 2) hk
   rw [JH] at ih
   split
   ·rw [Y4]
    split
    ·rw [ih]
     by_cases e : i = m
     ·rw [if_pos (by omega), if_pos (by omega)]
     ·rw [if_neg (by omega), if_neg (by omega)]
    ·rw [JH, if_neg (by omega)]
   ·rw [Y4]
    split
    ·rw [JH, if_neg (by omega)]
    ·rw [ih]
     by_cases e : i = m
     ·rw [if_pos (by omega), if_pos (by omega)]
     ·rw [if_neg (by omega), if_neg (by omega)]
 | k + 1, .node l x r, 0, v, i, h => by
  rw [Xge]
  cases i with
  | zero => rfl
  | succ i => rw [Y4, Y4]; simp
 | k + 1, .node l x r, m + 1, v, i, h => by
  have hk : m / 2 + 1 < 2 ^ k := by have := Nat.pow_succ 2 k; omega
  rw [Xgf]
  cases i with
  | zero => split <;> simp [XdO]
  | succ i =>
   split
   ·rw [Y4, Y4]
    split
    ·rw [JD k l (m / 2) v (i / 2) hk]
     by_cases e : i = m
     ·rw [if_pos (by omega), if_pos (by omega)]
     ·rw [if_neg (by omega), if_neg (by omega)]
    ·rw [if_neg (by omega)]
   ·rw [Y4, Y4]
    split
    ·rw [if_neg (by omega)]
    ·rw [JD k r (m / 2) v (i / 2) hk]
     by_cases e : i = m
     ·rw [if_pos (by omega), if_pos (by omega)]
     ·rw [if_neg (by omega), if_neg (by omega)]

structure TR (U : Nat → Prop) (ρ : Nat → Pl) (nt : Nat) (t : Tr) (a : Act) : Prop where
 size : a.tmps.size = nt
 get : ∀ i, i < nt → VR U ρ (getT 12 t i) (a.tmps.getD i undef)

section
variable {U U' : Nat → Prop} {ρ ρ' : Nat → Pl} {nt : Nat} {t : Tr} {a : Act}
theorem TR.up (h : TR U ρ nt t a) (hu : ∀ b, U b → U' b ∧ ρ' b = ρ b) : TR U' ρ' nt t a := ⟨h.size, fun i hi => (h.get i hi).up hu⟩
theorem TR.put (h : TR U ρ nt t a) (hn : nt < 4095) {dst : Option Tmp} (hd : ∀ d, dst = some d → d < nt) {v v' : Value} (hv : VR U ρ v v') : TR U ρ nt (setT t dst v) (a.put dst v') := by
 cases dst with
 | none => exact h
 | some d =>
  have hd : @LT.lt Nat instLTNat d nt := hd d rfl
  refine ⟨by simp [Act.put, h.size], fun i hi => ?_⟩
  simp only [setT, Act.put]
  rw [JD 12 t d v i (by omega)]
  by_cases e : i = d
  ·subst e
   rw [if_pos rfl]
   simp [h.size, hi, hv]
  ·rw [if_neg e]
   simp only [Array.getD_eq_getD_getElem?, Array.getElem?_setIfInBounds_ne (show d ≠ i from fun q => e q.symm)]
   simpa using h.get i hi
theorem TR.eval (h : TR U ρ nt t a) {x : Operand} (hx : YU nt x = true) : VR U ρ (evl t x) (a.eval x) := by
 cases x with
 | tmp i => exact h.get i (Nat.le_of_ble_eq_true hx)
 | const v => exact VR.refl 8 v hx
 | global g => simp [YU] at hx
 | func f => exact .fn f [] [] [] [] .nil .nil
theorem VR.bool_inv {b : Bool} {y : Value} (h : VR U ρ (.bool b) y) : y = .bool b := by cases h; rfl
theorem TR.wanted (h : TR U ρ nt t a) {ops : Array Oper} (hd : ∀ o ∈ ops, ∀ d, o.dst = some d → d < nt) (o : Oper) : Yu ops t o = Region.wanted o (yielded ops a.tmps) := by
 unfold Yu Region.wanted
 cases hg : o.guard with
 | none => rfl
 | some g =>
  obtain ⟨j, want⟩ := g
  simp only [yielded]
  cases hj : (ops[j]?).bind (·.dst) with
  | none => simp
  | some d =>
   obtain ⟨oj, h1, h2⟩ := Option.bind_eq_some_iff.mp hj
   have hdn := hd oj (Array.mem_of_getElem? h1) d h2
   have hr := h.get d hdn
   have e : a.tmps[d]? = some (a.tmps.getD d undef) := by simp [h.size, hdn]
   simp only [Option.bind_some, e]
   generalize getT 12 t d = x at hr
   generalize a.tmps.getD d undef = y at hr
   cases hr <;> simp
end

def CPost (B ro nt : Nat) (U : Nat → Prop) (ρ : Nat → Pl) (n : Nat) (w : World) (ds : List Deferred) (t' : Tr) (st' : St) (a' : Act) (w' : World) : Prop :=
 ∃ U' ρ', Ext U ρ n U' ρ' st'.next ∧ TR U' ρ' nt t' a' ∧ HR B ro U' ρ' st'.next st'.mem w' ∧ Below B w w' ∧ a'.defers = ds
theorem CPost.after {B ro nt n n1 : Nat} {U U1 : Nat → Prop} {ρ ρ1 : Nat → Pl} {w w1 : World} {ds : List Deferred} {t' : Tr} {st' : St} {a' : Act} {w' : World} (he : Ext U ρ n U1 ρ1 n1) (hb : Below B w w1)
  (h : CPost B ro nt U1 ρ1 n1 w1 ds t' st' a' w') : CPost B ro nt U ρ n w ds t' st' a' w' := by
 obtain ⟨U', ρ', h1, h2, h3, h4, h5⟩ := h
 exact ⟨U', ρ', he.trans h1, h2, h3, hb.trans h4, h5⟩
theorem Y9 (a : Act) (d : Option Tmp) (v : Value) : (a.put d v).defers = a.defers := by cases d <;> rfl

section
variable {P : Program} {call : Nat → Tgt → List Value → St → Ans} {B ro nt : Nat}

theorem XcF {ops : Array Oper} (h : XeD nt ops = true) : (∀ o ∈ ops, ∀ d, o.dst = some d → d < nt) ∧ (∀ o ∈ ops, ∀ x ∈ o.op.operands, YU nt x = true) := by
 unfold XeD at h
 rw [List.all_eq_true] at h
 refine ⟨fun o ho d hd => ?_, fun o ho x hx => ?_⟩
 ·have := h o (by simpa using ho)
  simp only [hd, Bool.and_eq_true] at this
  exact Nat.le_of_ble_eq_true this.1
 ·have := h o (by simpa using ho)
  simp only [Bool.and_eq_true, List.all_eq_true] at this
  exact this.2 x (by simpa using hx)

theorem Xaj {α β : Type} {f : α → Option (List β)} : ∀ {l : List α} {r : List β}, Xcp l f = some r → ∀ x ∈ l, ∃ y, f x = some y ∧ ∀ z ∈ y, z ∈ r
 | [], r, h, x, hx => by simp at hx
 | a :: l, r, h, x, hx => by
  simp only [Xcp] at h
  split at h
  ·rename_i u v hu hv
   simp only [Option.some.injEq] at h
   subst h
   rcases List.mem_cons.1 hx with rfl | hx
   ·exact ⟨u, hu, fun z hz => List.mem_append_left _ hz⟩
   ·obtain ⟨y, h1, h2⟩ := Xaj hv x hx
    exact ⟨y, h1, fun z hz => List.mem_append_right _ (h2 z hz)⟩
  ·simp at h

theorem Xh5 (hcall : JY P call) (hn : nt < 4095) {r : Option Nat} {ops : Array Oper} (hok : XeD nt ops = true) {Q : Exit → Act → World → Prop} :
  ∀ (l : List Oper), (∀ o ∈ l, o ∈ ops) → ∀ (t : Tr) (st : St) (U : Nat → Prop) (ρ : Nat → Pl) (a : Act) (w : World) (os : List (Tr × St)), TR U ρ nt t a → HR B ro U ρ st.next st.mem w →
   aOps P call ro ops l t st = some os → (∀ p ∈ os, ∀ a' w', CPost B ro nt U ρ st.next w a.defers p.1 p.2 a' w' → Q .normal a' w') → wpListIn (Fw r) 0 P ops Q l a w := by
 obtain ⟨hd, hx⟩ := XcF hok
 intro l
 induction l with
 | nil =>
  intro _ t st U ρ a w os ht hr he hq
  simp only [aOps, Option.some.injEq] at he
  exact hq (t, st) (by rw [← he]; simp) a w ⟨U, ρ, Ext.refl _ _ _, ht, hr, Below.refl _ _, rfl⟩
 | cons o l ih =>
  intro hl t st U ρ a w os ht hr he hq
  have ho := hl o (by simp)
  have hw := ht.wanted hd o
  change (match Yu ops t o with
   | true => match o.op with
    | .next x isS => match Xd6 ro (evl t x) isS st with
     | some l' => Xcp l' fun p => aOps P call ro ops l (setT t o.dst p.1) p.2
     | none => none
    | _ => match aOp P call ro (evl t) o st with
     | some (v, st') => aOps P call ro ops l (setT t o.dst v) st'
     | none => none
   | false => aOps P call ro ops l (setT t o.dst undef) st) = some os at he
  unfold wpListIn
  rw [← hw]
  split at he
  ·rename_i hwt
   rw [if_pos hwt]
   split at he
   ·rename_i x isS hop
    split at he
    ·rename_i l' hnx
     have hrel := Xg9 (P := P) (o := o) (ev' := a.eval) hr hop (fun x hxo => ht.eval (hx o ho x hxo)) hnx
     refine hrel.wpIn (fun c q => by rw [hop] at q; simp at q) fun v' w' hp => ?_
     obtain ⟨p, hpm, U1, ρ1, h1, h2, h3, h4⟩ := hp
     obtain ⟨os1, he1, hin⟩ := Xaj he p hpm
     refine ih (fun q hq => hl q (by simp [hq])) _ _ U1 ρ1 _ w' os1 ((ht.up h1.up).put hn (hd o ho) h3) h2 he1 fun p1 hp1 a' w'' hp => hq p1 (hin p1 hp1) a' w'' ?_
     rw [Y9] at hp
     exact hp.after h1 h4
    ·simp at he
   ·split at he
    ·rename_i v st1 hop
     refine (Xel hcall hr (fun x hxo => ht.eval (hx o ho x hxo)) hop).wpIn (JT hop) fun v' w' hp => ?_
     obtain ⟨U1, ρ1, h1, h2, h3, h4⟩ := hp
     refine ih (fun q hq => hl q (by simp [hq])) _ _ U1 ρ1 _ w' os ((ht.up h1.up).put hn (hd o ho) h3) h2 he fun p hp a' w'' hq2 => hq p hp a' w'' ?_
     rw [Y9] at hq2
     exact hq2.after h1 h4
    ·simp at he
  ·rename_i hwt
   rw [if_neg (by rw [hwt]; simp)]
   refine ⟨fun _ _ => trivial, ih (fun q hq => hl q (by simp [hq])) _ _ U ρ _ w os (ht.put hn (hd o ho) (.tup _ _ .nil)) hr he fun p hp a' w'' hq2 => hq p hp a' w'' ?_⟩
   rw [Y9] at hq2
   exact hq2

theorem Xde {F : Fence} {n : Nat} {c : Code} {Q : Exit → Act → World → Prop} (J : Nat → Act → World → Prop) (round : ∀ k a w, J k a w → c.wpIn F n P (Exit.then (fun a' w' => ∃ k', k' < k ∧ J k' a' w') Q) a w) :
  ∀ (m : Nat) (a : Act) (w : World), J m a w → (Code.loop c).wpIn F n P Q a w := by
 intro m a w h0 b k cs hro hb hr
 have key : ∀ m a w, J m a w → ∃ e a' w', Q e a' w' ∧ ArrivesIn (Machine.fenced P F) P (lone (b.atR a (.code c :: .inLoop c :: k)) cs w) b k cs e a' w' := by
  intro m
  induction m using Nat.strongRecOn with
  | _ m ih =>
   intro a w hI
   obtain ⟨e, a₁, w₁, hq, harr⟩ := round m a w hI b (.inLoop c :: k) cs hro hb hr
   cases e with
   | normal =>
    obtain ⟨k', hlt, hI₁⟩ := hq
    obtain ⟨e₂, a₂, w₂, hq₂, harr₂⟩ := ih k' hlt a₁ w₁ hI₁
    exact ⟨e₂, a₂, w₂, hq₂, .of_steps (StepsIn.trans harr (.one (fenced_calm hb hr rfl) stepR_inLoop)) harr₂⟩
   | exit id => exact ⟨_, a₁, w₁, hq, .pass (x := .inLoop c) rfl (fun _ _ => .inl (by simp)) harr⟩
   | goto l => exact ⟨_, a₁, w₁, hq, .pass (x := .inLoop c) rfl (fun _ _ => .inl (by simp)) harr⟩
   | ret => exact ⟨_, a₁, w₁, hq, .pass (x := .inLoop c) rfl (fun _ _ => .inl (by simp)) harr⟩
   | panic ch => exact ⟨_, a₁, w₁, hq, .pass (x := .inLoop c) rfl (fun _ _ => .inl (by simp)) harr⟩
   | outgrown => exact ⟨_, a₁, w₁, hq, .pass (x := .inLoop c) rfl (fun _ _ => .inl (by simp)) harr⟩
 obtain ⟨e, a', w', hq, harr⟩ := key m a w h0
 exact ⟨e, a', w', hq, .of_steps (.one (fenced_calm hb hr rfl) stepR_loop) harr⟩
end
end Go.Proofs.Ytiaiecfnpompcaa.Ab
namespace Go.Proofs.Ytiaiecfnpompcaa.Ab
open Go Go.RowKit
set_option linter.unusedVariables false
set_option linter.unusedSimpArgs false
section
variable {P : Program} {call : Nat → Tgt → List Value → St → Ans}

structure Tab where
 ops : Array Oper
 nt : Nat
 t0 : Tr
 E : Nat → Bool       -- what acts
 F : Nat → Option Nat -- the block of a load that may come before or behind a store
 la : Nat → Option Nat -- what acted last ahead of it
 MB : Option Nat → Mem -- the memory behind that
 V : Nat → Value      -- the value of each operation
 N : Nat → Mem        -- the blocks that it has made
 nx : Nat → Nat       -- the number of the next block ahead of it
 D : Nat → Nat        -- what comes ahead of it: bits
variable (T : Tab)
noncomputable def Tab.tm (T : Tab) (L : Nat → Bool) : Nat → Tr
 | 0 => T.t0
 | k + 1 => match L k, T.ops[k]? with
  | true, some o => setT (Tab.tm T L k) o.dst (T.V k)
  | _, _ => Tab.tm T L k
structure Closed (L : Nat → Bool) : Prop where
 down : ∀ i j, L i = true → (T.D i).testBit j = true → L j = true
 lt : ∀ i, L i = true → i < T.ops.size

structure Plan : Prop where
 hd : ∀ o ∈ T.ops, ∀ d, o.dst = some d → d < T.nt
 hx : ∀ o ∈ T.ops, ∀ x ∈ o.op.operands, YU T.nt x = true
 hn : T.nt < 4095
 back : ∀ (i : Nat) o, T.ops[i]? = some o → ∀ e ∈ o.after, Region.binds .any e = true → e.on < i
 dep : ∀ (i : Nat) o, T.ops[i]? = some o → ∀ j, (T.D i).testBit j = true → ∃ e ∈ o.after, Region.binds .any e = true ∧ (j = e.on ∨ (T.D e.on).testBit j = true)
 apart : ∀ (j i : Nat) oj oi, j < i → T.ops[j]? = some oj → T.ops[i]? = some oi → (T.D i).testBit j = true ∨ oj.apart T.ops oi = true
 mono : ∀ i, T.nx i ≤ T.nx (i + 1)
 trans : ∀ i j k, (T.D i).testBit j = true → (T.D j).testBit k = true → (T.D i).testBit k = true
 less : ∀ i j, (T.D i).testBit j = true → j < i
variable {T}

theorem Tab.tm_set (hn : T.nt < 4095) (hd : ∀ o ∈ T.ops, ∀ d, o.dst = some d → d < T.nt) (L : Nat → Bool) (k : Nat) (x : Nat) : getT 12 (T.tm L (k + 1)) x = if L k = true ∧ (∃ o, T.ops[k]? = some o ∧ o.dst = some x) then T.V k else getT 12 (T.tm L k) x := by
 rw [Tab.tm]
 cases hL : L k with
 | false => simp
 | true =>
  cases ho : T.ops[k]? with
  | none => simp
  | some o =>
   simp only [true_and]
   cases hdst : o.dst with
   | none => simp [setT, hdst]
   | some d =>
    have hdn : @LT.lt Nat instLTNat d T.nt := hd o (Array.mem_of_getElem? ho) d hdst
    simp only [setT]
    rw [JD 12 _ d _ x (by omega)]
    by_cases e : x = d
    ·subst e; simp [hdst]
    ·rw [if_neg e, if_neg]
     rintro ⟨o', h1, h2⟩
     simp only [Option.some.injEq] at h1
     subst h1
     rw [hdst] at h2
     simp only [Option.some.injEq] at h2
     exact e h2.symm

theorem Plan.ready (hp : Plan T) {L : Nat → Bool} (hc : Closed T L) {i : Nat} {o : Oper} (ho : T.ops[i]? = some o) (hr : ∀ e ∈ o.after, Region.binds .any e = true → L e.on = true) : ∀ j, (T.D i).testBit j = true → L j = true := by
 intro j hj
 obtain ⟨e, he, hb, h1⟩ := hp.dep i o ho j hj
 rcases h1 with rfl | h1
 ·exact hr e he hb
 ·exact hc.down _ _ (hr e he hb) h1

theorem Plan.read (hp : Plan T) {L : Nat → Bool} (hc : Closed T L) {i : Nat} {o : Oper} (ho : T.ops[i]? = some o) (hi : L i = false) (hr : ∀ j, (T.D i).testBit j = true → L j = true) {x : Nat} (hx : x ∈ o.looksAt T.ops) :
  getT 12 (T.tm L T.ops.size) x = getT 12 (T.tm (fun _ => true) i) x := by
 have hin : i < T.ops.size := (Array.getElem?_eq_some_iff.1 ho).1
 have key : ∀ k, k ≤ T.ops.size → getT 12 (T.tm L k) x = getT 12 (T.tm (fun _ => true) (min k i)) x := by
  intro k
  induction k with
  | zero => intro _; simp [Tab.tm]
  | succ k ih =>
   intro hk
   have ih := ih (by omega)
   rw [Tab.tm_set hp.hn hp.hd]
   by_cases h1 : k < i
   ·rw [show min (k + 1) i = k + 1 by omega, Tab.tm_set hp.hn hp.hd]
    rw [show min k i = k by omega] at ih
    cases hL : L k with
    | true => simp [ih]
    | false =>
     simp only [Bool.false_eq_true, false_and, if_false, true_and]
     rw [if_neg, ih]
     rintro ⟨ok, h2, h3⟩
     rcases hp.apart k i ok o h1 h2 ho with h4 | h4
     ·rw [hr k h4] at hL; simp at hL
     ·exact (Oper.apart_spec h4).1 x h3 hx
   ·rw [show min (k + 1) i = i by omega]
    rw [show min k i = i by omega] at ih
    rw [if_neg, ih]
    rintro ⟨hL, ok, h2, h3⟩
    by_cases h5 : k = i
    ·subst h5; rw [hL] at hi; simp at hi
    ·rcases hp.apart i k o ok (by omega) ho h2 with h4 | h4
     ·rw [hc.down k i hL h4] at hi; simp at hi
     ·exact (Oper.apart_spec h4).2.2 x h3 hx
 have := key T.ops.size (Nat.le_refl _)
 rwa [show min T.ops.size i = i by omega] at this

theorem Plan.write (hp : Plan T) {L : Nat → Bool} (hc : Closed T L) {i : Nat} {o : Oper} (ho : T.ops[i]? = some o) (hi : L i = false) (x : Nat) :
  getT 12 (T.tm (fun j => L j || j == i) T.ops.size) x = getT 12 (setT (T.tm L T.ops.size) o.dst (T.V i)) x := by
 have hin : i < T.ops.size := (Array.getElem?_eq_some_iff.1 ho).1
 have lo : ∀ k, k ≤ i → T.tm (fun j => L j || j == i) k = T.tm L k := by
  intro k
  induction k with
  | zero => intro _; rfl
  | succ k ih =>
   intro hk
   rw [Tab.tm, Tab.tm, ih (by omega)]
   rw [show (k == i) = false by simp; omega, Bool.or_false]
 have hset : ∀ (t : Tr) (x : Nat), getT 12 (setT t o.dst (T.V i)) x = if o.dst = some x then T.V i else getT 12 t x := by
  intro t x
  cases hdst : o.dst with
  | none => simp [setT]
  | some d =>
   have hdn : @LT.lt Nat instLTNat d T.nt := hp.hd o (Array.mem_of_getElem? ho) d hdst
   have := hp.hn
   simp only [setT]
   rw [JD 12 _ d _ x (by omega)]
   by_cases e : x = d
   ·subst e; simp
   ·rw [if_neg e, if_neg (by simp; exact fun q => e q.symm)]
 have key : ∀ n, i + 1 + n ≤ T.ops.size → getT 12 (T.tm (fun j => L j || j == i) (i + 1 + n)) x = getT 12 (setT (T.tm L (i + 1 + n)) o.dst (T.V i)) x := by
  intro n
  induction n with
  | zero =>
   intro _
   rw [Nat.add_zero, Tab.tm, lo i (Nat.le_refl _), ho]
   simp only [BEq.rfl, Bool.or_true]
   have : T.tm L (i + 1) = T.tm L i := by rw [Tab.tm, hi]
   rw [this]
  | succ n ih =>
   intro hk
   have ih := ih (by omega)
   rw [← Nat.add_assoc, Tab.tm_set hp.hn hp.hd, hset, Tab.tm_set hp.hn hp.hd]
   rw [show (i + 1 + n == i) = false by simp; omega, Bool.or_false]
   rw [hset] at ih
   by_cases h1 : L (i + 1 + n) = true ∧ ∃ ok, T.ops[i + 1 + n]? = some ok ∧ ok.dst = some x
   ·rw [if_pos h1, if_pos h1]
    rw [if_neg]
    obtain ⟨hL, ok, h2, h3⟩ := h1
    intro h4
    rcases hp.apart i (i + 1 + n) o ok (by omega) ho h2 with h5 | h5
    ·rw [hc.down _ i hL h5] at hi; simp at hi
    ·exact (Oper.apart_spec h5).2.1 x h4 h3
   ·rw [if_neg h1, if_neg h1]
    exact ih
 have := key (T.ops.size - (i + 1)) (by omega)
 rwa [show i + 1 + (T.ops.size - (i + 1)) = T.ops.size by omega] at this
end
end Go.Proofs.Ytiaiecfnpompcaa.Ab
namespace Go.Proofs.Ytiaiecfnpompcaa.Ab
open Go Go.RowKit
set_option linter.unusedVariables false
set_option linter.unusedSimpArgs false

section
variable {P : Program} {call : Nat → Tgt → List Value → St → Ans}
variable (T : Tab) (U0 : Nat → Prop)
def Tab.UD (i b : Nat) : Prop := U0 b ∨ ∃ j, ((T.D i).testBit j = true ∨ j = i) ∧ T.nx j ≤ b ∧ b < T.nx (j + 1)
def Tab.UI (i b : Nat) : Prop := U0 b ∨ ∃ j, (T.D i).testBit j = true ∧ T.nx j ≤ b ∧ b < T.nx (j + 1)
noncomputable def Tab.wr (T : Tab) (L : Nat → Bool) (x : Nat) : Nat → Option Nat
 | 0 => none
 | k + 1 => match L k, T.ops[k]? with
  | true, some o => if o.dst = some x then some k else Tab.wr T L x k
  | _, _ => Tab.wr T L x k
def Tab.UW (o : Option Nat) (b : Nat) : Prop := match o with
 | some j => T.UD U0 j b
 | none => U0 b

def Quiet (P : Program) (call : Nat → Tgt → List Value → St → Ans) (i : Nat) (o : Oper) : Prop :=
 (Yu T.ops (T.tm (fun _ => true) i) o = false ∧ T.V i = undef ∧ T.N i = [] ∧ T.nx (i + 1) = T.nx i) ∨
 (Yu T.ops (T.tm (fun _ => true) i) o = true ∧ ∃ mi st', aOp P call (T.nx i) (evl (T.tm (fun _ => true) i)) o ⟨T.nx i, mi⟩ = some (T.V i, st') ∧ st'.next = T.nx (i + 1) ∧
  (∀ b cs, Xr mi b = some cs → Xr (T.MB (T.la i)) b = some cs ∨ ∃ j, (T.D i).testBit j = true ∧ T.la j = T.la i ∧ Xr (T.N j) b = some cs) ∧
  (∀ b cs, Xr (T.N i) b = some cs → T.nx i ≤ b ∧ Xr st'.mem b = some cs) ∧
  ((mi = [] ∧ T.N i = []) ∨ (still o.op = false ∧ ∀ k, k < i → T.E k = true → (T.D i).testBit k = true)))
def Acts (P : Program) (call : Nat → Tgt → List Value → St → Ans) (ro : Nat) (i : Nat) (o : Oper) : Prop :=
 Yu T.ops (T.tm (fun _ => true) i) o = true ∧ T.N i = [] ∧ still o.op = false ∧ ∃ me, aOp P call ro (evl (T.tm (fun _ => true) i)) o ⟨T.nx i, me⟩ = some (T.V i, ⟨T.nx (i + 1), T.MB (some i)⟩) ∧
  (∀ b cs, Xr me b = some cs → Xr (T.MB (T.la i)) b = some cs ∨ ∃ j, j < i ∧ T.la j = T.la i ∧ Xr (T.N j) b = some cs) ∧
  (∀ j oj, j < i → T.ops[j]? = some oj → (T.D i).testBit j = true ∨ still oj.op = true ∨ ∃ b, T.F j = some b)
def Free (P : Program) (call : Nat → Tgt → List Value → St → Ans) (i : Nat) (o : Oper) (b : Nat) : Prop :=
 Yu T.ops (T.tm (fun _ => true) i) o = true ∧ T.N i = [] ∧ T.nx (i + 1) = T.nx i ∧ gnd 8 (T.V i) = true ∧ (∀ k, k < i → T.E k = true → (T.D i).testBit k = true) ∧
  ∃ cs, aOp P call (T.nx i) (evl (T.tm (fun _ => true) i)) o ⟨T.nx i, [(b, cs)]⟩ = some (T.V i, ⟨T.nx i, [(b, cs)]⟩) ∧ Xr (T.MB (T.la i)) b = some cs ∧
  (∀ k, i < k → T.E k = true → (T.D k).testBit i = true ∨ Xr (T.MB (some k)) b = some cs)
def Xcb (o : Oper) : Prop := ∃ t a, o.op = .load t a
theorem Xcb.any {o : Oper} (h : Xcb o) {P : Program} {call : Nat → Tgt → List Value → St → Ans} {ro ro' n n' : Nat} {m : Mem} {ev : Operand → Value} {v : Value} (he : aOp P call ro ev o ⟨n, m⟩ = some (v, ⟨n, m⟩)) :
  aOp P call ro' ev o ⟨n', m⟩ = some (v, ⟨n', m⟩) := by
 obtain ⟨t, a, h⟩ := h
 simp only [aOp, h, XeF] at he ⊢
 split at he
 ·rename_i b off e
  split at he
  ·rename_i cs hl
   split at he
   ·rename_i u hv
    simp only [Option.some.injEq, Prod.mk.injEq] at he
    rw [he.1]
   ·simp at he
  ·simp at he
 ·simp at he
structure Facts (P : Program) (call : Nat → Tgt → List Value → St → Ans) (ro : Nat) : Prop where
 quiet : ∀ (i : Nat) o, T.ops[i]? = some o → T.E i = false → T.F i = none → Quiet T P call i o
 free : ∀ (i : Nat) o b, T.ops[i]? = some o → T.F i = some b → Free T P call i o b
 freeL : ∀ (i : Nat) o b, T.ops[i]? = some o → T.F i = some b → Xcb o
 FE : ∀ i b, T.F i = some b → T.E i = false
 acts : ∀ (i : Nat) o, T.ops[i]? = some o → T.E i = true → Acts T P call ro i o
 stillN : ∀ (i : Nat) o, T.ops[i]? = some o → still o.op = true → T.N i = []
 last : ∀ i k, T.la i = some k → k < i ∧ T.E k = true
 great : ∀ i k, k < i → i ≤ T.ops.size → T.E k = true → ∃ k', T.la i = some k' ∧ k ≤ k'
 lt : ∀ k, T.E k = true → k < T.ops.size
structure Cur (L : Nat → Bool) (c : Option Nat) : Prop where
 is : ∀ k, c = some k → T.E k = true ∧ L k = true
 great : ∀ k, T.E k = true → L k = true → ∃ k', c = some k' ∧ k ≤ k'

structure RInv (B ro : Nat) (ρ0 : Nat → Pl) (w0 : World) (ds : List Deferred) (L : Nat → Bool) (ρ : Nat → Pl) (a : Act) (w : World) : Prop where
 size : a.tmps.size = T.nt
 val : ∀ x, x < T.nt → VR (T.UW U0 (T.wr L x T.ops.size)) ρ (getT 12 (T.tm L T.ops.size) x) (a.tmps.getD x undef)
 mem0 : ∀ c, Cur T L c → ∀ b cs, Xr (T.MB c) b = some cs → Y3 (T.UW U0 c) ρ b cs w ∧ (ro ≤ b → B ≤ (ρ b).g)
 memN : ∀ c, Cur T L c → ∀ j, L j = true → T.la j = c → ∀ b cs, Xr (T.N j) b = some cs → (T.nx j ≤ b ∧ b < T.nx (j + 1)) ∧ Y3 (T.UD U0 j) ρ b cs w ∧ B ≤ (ρ b).g
 inj : ∀ c, Cur T L c → ∀ b b' cs cs', (Xr (T.MB c) b = some cs ∨ ∃ j, L j = true ∧ T.la j = c ∧ Xr (T.N j) b = some cs) → (Xr (T.MB c) b' = some cs' ∨ ∃ j, L j = true ∧ T.la j = c ∧ Xr (T.N j) b' = some cs') → (ρ b).g = (ρ b').g → b = b'
 base : B ≤ w.heap.size
 below : Below B w0 w
 dfr : a.defers = ds
 old : ∀ b, U0 b → ρ b = ρ0 b
 ltU : ∀ b, U0 b → b < T.nx 0
variable {T U0}
variable {B ro : Nat} {ρ0 ρ : Nat → Pl} {w0 w : World} {ds : List Deferred} {L : Nat → Bool} {a : Act}

theorem Plan.nx_le (hp : Plan T) {i j : Nat} (h : i ≤ j) : T.nx i ≤ T.nx j := by
 induction j with
 | zero => rw [show i = 0 by omega]; exact Nat.le_refl _
 | succ j ih =>
  rcases Nat.lt_or_ge i (j + 1) with h1 | h1
  ·exact Nat.le_trans (ih (by omega)) (hp.mono j)
  ·rw [show i = j + 1 by omega]; exact Nat.le_refl _
theorem Plan.far (hp : Plan T) {i j b : Nat} (h : i ≠ j) (hi : T.nx i ≤ b ∧ b < T.nx (i + 1)) : ¬ (T.nx j ≤ b ∧ b < T.nx (j + 1)) := by
 intro hj
 rcases Nat.lt_or_ge i j with h1 | h1
 ·have := hp.nx_le (show i + 1 ≤ j by omega); omega
 ·have := hp.nx_le (show j + 1 ≤ i by omega); omega
theorem Tab.UI_lt (hp : Plan T) (hl : ∀ b, U0 b → b < T.nx 0) {i b : Nat} (h : T.UI U0 i b) : b < T.nx i := by
 rcases h with h | ⟨j, h1, h2, h3⟩
 ·have := hl b h; have := hp.nx_le (Nat.zero_le i); omega
 ·have := hp.nx_le (show j + 1 ≤ i from hp.less i j h1); omega
theorem Tab.UD_of_UI {i b : Nat} (h : T.UI U0 i b) : T.UD U0 i b := by
 rcases h with h | ⟨j, h1, h2⟩
 ·exact .inl h
 ·exact .inr ⟨j, .inl h1, h2⟩
theorem Tab.UI_of_UD (hp : Plan T) {i j b : Nat} (hj : (T.D i).testBit j = true) (h : T.UD U0 j b) : T.UI U0 i b := by
 rcases h with h | ⟨k, h1, h2⟩
 ·exact .inl h
 ·rcases h1 with h1 | rfl
  ·exact .inr ⟨k, hp.trans i j k hj h1, h2⟩
  ·exact .inr ⟨k, hj, h2⟩
theorem Tab.UD_far (hp : Plan T) (hl : ∀ b, U0 b → b < T.nx 0) (hc : Closed T L) {i j b : Nat} (hi : L i = false) (hj : L j = true) (h : T.UD U0 j b) : ¬ (T.nx i ≤ b ∧ b < T.nx (i + 1)) := by
 rcases h with h | ⟨k, h1, h2⟩
 ·have := hl b h; have := hp.nx_le (Nat.zero_le i); omega
 ·have hk : L k = true := by rcases h1 with h1 | rfl; exact hc.down j k hj h1; exact hj
  have hne : k ≠ i := fun q => by rw [q, hi] at hk; simp at hk
  exact hp.far hne h2
theorem Tab.UW_far (hp : Plan T) (hl : ∀ b, U0 b → b < T.nx 0) (hc : Closed T L) {i x b : Nat} (hi : L i = false) (n : Nat) (h : T.UW U0 (T.wr L x n) b) : ¬ (T.nx i ≤ b ∧ b < T.nx (i + 1)) := by
 induction n with
 | zero => have := hl b h; have := hp.nx_le (Nat.zero_le i); omega
 | succ n ih =>
  rw [Tab.wr] at h
  split at h
  ·rename_i o hL ho
   split at h
   ·exact Tab.UD_far hp hl hc hi hL h
   ·exact ih h
  ·exact ih h

theorem Tab.UD_lt (hp : Plan T) (hl : ∀ b, U0 b → b < T.nx 0) {i b : Nat} (h : T.UD U0 i b) : b < T.nx (i + 1) := by
 rcases h with h | ⟨j, h1, h2, h3⟩
 ·have := hl b h; have := hp.nx_le (Nat.zero_le (i + 1)); omega
 ·have h4 : j ≤ i := by rcases h1 with h1 | rfl; exact Nat.le_of_lt (hp.less i j h1); exact Nat.le_refl _
  have := hp.nx_le (show j + 1 ≤ i + 1 by omega); omega
theorem Cur.far (hp : Plan T) (hl : ∀ b, U0 b → b < T.nx 0) (hc : Closed T L) {c : Option Nat} (h : Cur T L c) {i b : Nat} (hi : L i = false) (hb : T.UW U0 c b) : ¬ (T.nx i ≤ b ∧ b < T.nx (i + 1)) := by
 cases c with
 | none => have := hl b hb; have := hp.nx_le (Nat.zero_le i); omega
 | some k => exact Tab.UD_far hp hl hc hi (h.is k rfl).2 hb
theorem Cur.of_quiet {c : Option Nat} {i : Nat} (h : Cur T (fun j => L j || j == i) c) (hE : T.E i = false) : Cur T L c := by
 refine ⟨fun k hk => ?_, fun k hk hL => h.great k hk (by simp [hL])⟩
 obtain ⟨h1, h2⟩ := h.is k hk
 refine ⟨h1, ?_⟩
 simp only [Bool.or_eq_true, beq_iff_eq] at h2
 rcases h2 with h2 | h2
 ·exact h2
 ·rw [h2, hE] at h1; simp at h1
theorem Facts.cur (hF : Facts T P call ro) (hp : Plan T) (hc : Closed T L) {i : Nat} {o : Oper} (ho : T.ops[i]? = some o) (hi : L i = false) (hr : ∀ j, (T.D i).testBit j = true → L j = true) (hs : still o.op = false) (hf : T.F i = none)
  (hb : ∀ k, k < i → T.E k = true → (T.D i).testBit k = true) : Cur T L (T.la i) := by
 refine ⟨fun k hk => ?_, fun k hk hL => ?_⟩
 ·obtain ⟨h1, h2⟩ := hF.last i k hk
  exact ⟨h2, hr k (hb k h1 h2)⟩
 ·rcases Nat.lt_trichotomy k i with h1 | h1 | h1
  ·exact hF.great i k h1 (Nat.le_of_lt (Array.getElem?_eq_some_iff.1 ho).1) hk
  ·rw [h1, hi] at hL; simp at hL
  ·obtain ⟨ok, hok⟩ : ∃ ok, T.ops[k]? = some ok := ⟨T.ops[k]'(hF.lt k hk), Array.getElem?_eq_getElem (hF.lt k hk)⟩
   obtain ⟨_, _, _, me, _, _, a1⟩ := hF.acts k ok hok hk
   rcases a1 i o h1 ho with h2 | h2 | ⟨b, h2⟩
   ·have := hc.down k i hL h2; rw [hi] at this; simp at this
   ·rw [hs] at h2; simp at h2
   ·rw [hf] at h2; simp at h2
theorem Cur.ex (hF : Facts T P call ro) : ∃ c, Cur T L c := by
 have : ∀ n, ∃ c, (∀ k, c = some k → T.E k = true ∧ L k = true) ∧ ∀ k, k < n → T.E k = true → L k = true → ∃ k', c = some k' ∧ k ≤ k' := by
  intro n
  induction n with
  | zero => exact ⟨none, by simp, fun k hk => by omega⟩
  | succ n ih =>
   obtain ⟨c, h1, h2⟩ := ih
   by_cases h : T.E n = true ∧ L n = true
   ·exact ⟨some n, fun k hk => by simp only [Option.some.injEq] at hk; subst hk; exact h, fun k hk _ _ => ⟨n, rfl, by omega⟩⟩
   ·refine ⟨c, h1, fun k hk hE hL => ?_⟩
    rcases Nat.lt_or_ge k n with h3 | h3
    ·exact h2 k h3 hE hL
    ·have : k = n := by omega
     subst this
     exact absurd ⟨hE, hL⟩ h
 obtain ⟨c, h1, h2⟩ := this T.ops.size
 exact ⟨c, h1, fun k hE hL => h2 k (hF.lt k hE) hE hL⟩

theorem Plan.writer (hp : Plan T) (hc : Closed T L) {i : Nat} {o : Oper} (ho : T.ops[i]? = some o) (hi : L i = false) {x : Nat} (hx : x ∈ o.looksAt T.ops) : ∀ k, ∀ b, T.UW U0 (T.wr L x k) b → T.UI U0 i b := by
 intro k
 induction k with
 | zero => intro b h; exact .inl h
 | succ k ih =>
  intro b h
  rw [Tab.wr] at h
  split at h
  ·rename_i ok hL hok
   split at h
   ·rename_i hd
    have hne : k ≠ i := fun q => by rw [q, hi] at hL; simp at hL
    rcases Nat.lt_or_ge k i with h1 | h1
    ·rcases hp.apart k i ok o h1 hok ho with h2 | h2
     ·exact Tab.UI_of_UD hp h2 h
     ·exact absurd hx ((Oper.apart_spec h2).1 x hd)
    ·rcases hp.apart i k o ok (by omega) ho hok with h2 | h2
     ·have := hc.down k i hL h2
      rw [hi] at this; simp at this
     ·exact absurd hx ((Oper.apart_spec h2).2.2 x hd)
   ·exact ih b h
  ·exact ih b h

theorem JE {o : Oper} {ops : Array Oper} {x : Nat} (h : Operand.tmp x ∈ o.op.operands) : x ∈ o.looksAt ops :=
 List.mem_append_left _ (List.mem_filterMap.2 ⟨.tmp x, by simpa using h, rfl⟩)
theorem JU {ops : Array Oper} {t t' : Tr} {o : Oper} (h : ∀ x ∈ o.looksAt ops, getT 12 t x = getT 12 t' x) : Yu ops t o = Yu ops t' o := by
 unfold Yu
 cases hg : o.guard with
 | none => rfl
 | some g =>
  obtain ⟨j, want⟩ := g
  simp only
  cases hj : (ops[j]?).bind (·.dst) with
  | none => rfl
  | some d =>
   simp only
   rw [h d (by simp [Oper.looksAt, hg, hj])]

theorem RInv.tr (h : RInv T U0 B ro ρ0 w0 ds L ρ a w) : TR (fun b => ∃ x, T.UW U0 (T.wr L x T.ops.size) b) ρ T.nt (T.tm L T.ops.size) a :=
 ⟨h.size, fun x hx => (h.val x hx).up fun b hb => ⟨⟨x, hb⟩, rfl⟩⟩

theorem RInv.put (hp : Plan T) (hc : Closed T L) (h : RInv T U0 B ro ρ0 w0 ds L ρ a w) {i : Nat} {o : Oper} (ho : T.ops[i]? = some o) (hi : L i = false) {ρ' : Nat → Pl} {v' : Value}
  (hρ : ∀ b, ¬ (T.nx i ≤ b ∧ b < T.nx (i + 1)) → ρ' b = ρ b) (hv : VR (T.UD U0 i) ρ' (T.V i) v') :
  (a.put o.dst v').tmps.size = T.nt ∧ ∀ x, x < T.nt → VR (T.UW U0 (T.wr (fun j => L j || j == i) x T.ops.size)) ρ' (getT 12 (T.tm (fun j => L j || j == i) T.ops.size) x) ((a.put o.dst v').tmps.getD x undef) := by
 have hin : i < T.ops.size := (Array.getElem?_eq_some_iff.1 ho).1
 have hdst : ∀ d, o.dst = some d → @LT.lt Nat instLTNat d T.nt := fun d hd => hp.hd o (Array.mem_of_getElem? ho) d hd
 have hn := hp.hn
 -- who wrote x
 have wlo : ∀ x k, k ≤ i → T.wr (fun j => L j || j == i) x k = T.wr L x k := by
  intro x k
  induction k with
  | zero => intro _; rfl
  | succ k ih =>
   intro hk
   rw [Tab.wr, Tab.wr, ih (by omega), show (k == i) = false by simp; omega, Bool.or_false]
 have whi : ∀ x n, i + 1 + n ≤ T.ops.size → T.wr (fun j => L j || j == i) x (i + 1 + n) = if o.dst = some x then some i else T.wr L x (i + 1 + n) := by
  intro x n
  induction n with
  | zero =>
   intro _
   rw [Nat.add_zero, Tab.wr, Tab.wr, wlo x i (Nat.le_refl _), ho, hi]
   simp
  | succ n ih =>
   intro hk
   have ih := ih (by omega)
   rw [← Nat.add_assoc, Tab.wr, Tab.wr, ih, show (i + 1 + n == i) = false by simp; omega, Bool.or_false]
   cases hL : L (i + 1 + n) with
   | false => rfl
   | true =>
    cases hk2 : T.ops[i + 1 + n]? with
    | none => rfl
    | some ok =>
     simp only
     by_cases h1 : ok.dst = some x
     ·rw [if_pos h1, if_pos h1, if_neg]
      intro h4
      rcases hp.apart i (i + 1 + n) o ok (by omega) ho hk2 with h5 | h5
      ·have := hc.down _ i hL h5
       rw [hi] at this; simp at this
      ·exact (Oper.apart_spec h5).2.1 x h4 h1
     ·rw [if_neg h1, if_neg h1]
 have wall : ∀ x, T.wr (fun j => L j || j == i) x T.ops.size = if o.dst = some x then some i else T.wr L x T.ops.size := fun x => by
  have := whi x (T.ops.size - (i + 1)) (by omega)
  rwa [show i + 1 + (T.ops.size - (i + 1)) = T.ops.size by omega] at this
 refine ⟨by cases o.dst <;> simp [Act.put, h.size], fun x hx => ?_⟩
 rw [hp.write hc ho hi x, wall x]
 have hold := (h.val x hx).up (U' := T.UW U0 (T.wr L x T.ops.size)) (ρ' := ρ') fun b hb => ⟨hb, hρ b (Tab.UW_far hp h.ltU hc hi _ hb)⟩
 cases hd : o.dst with
 | none =>
  simp only [setT, Act.put, reduceCtorEq, if_false]
  exact hold
 | some d =>
  have hdn := hdst d hd
  simp only [setT, Act.put]
  rw [JD 12 _ d _ x (by omega)]
  by_cases e' : x = d
  ·subst e'
   rw [if_pos rfl, if_pos rfl]
   have hv' : VR (T.UW U0 (some i)) ρ' (T.V i) v' := hv
   simpa [h.size, hx] using hv'
  ·rw [if_neg e', if_neg (by simp; exact fun q => e' q.symm)]
   simp only [Array.getD_eq_getD_getElem?, Array.getElem?_setIfInBounds_ne (show d ≠ x from fun q => e' q.symm)]
   simpa using hold
end
end Go.Proofs.Ytiaiecfnpompcaa.Ab
namespace Go.Proofs.Ytiaiecfnpompcaa.Ab
open Go Go.RowKit
set_option linter.unusedVariables false
set_option linter.unusedSimpArgs false
section
variable {P : Program} {call : Nat → Tgt → List Value → St → Ans}
variable {T : Tab} {U0 : Nat → Prop} {rd : Option Nat}
variable {B ro : Nat} {ρ0 ρ : Nat → Pl} {w0 w : World} {ds : List Deferred} {L : Nat → Bool} {a : Act}

theorem RInv.quiet (hcall : JY P call) (hp : Plan T) (hF : Facts T P call ro) (hc : Closed T L) (h : RInv T U0 B ro ρ0 w0 ds L ρ a w) {i : Nat} {o : Oper} (ho : T.ops[i]? = some o) (hi : L i = false)
  (hr : ∀ j, (T.D i).testBit j = true → L j = true) (hie : T.E i = false) (hif : T.F i = none) {K : Act → World → Prop} {Q : Exit → Act → World → Prop} (hK : ∀ ρ' a' w', RInv T U0 B ro ρ0 w0 ds (fun j => L j || j == i) ρ' a' w' → K a' w') : wpOpIn (Fw rd) 0 P T.ops Q i K a w := by
 have hin : i < T.ops.size := (Array.getElem?_eq_some_iff.1 ho).1
 have hom := Array.mem_of_getElem? ho
 unfold wpOpIn
 simp only [ho]
 have hw : Region.wanted o (yielded T.ops a.tmps) = Yu T.ops (T.tm (fun _ => true) i) o := by
  rw [← h.tr.wanted hp.hd o]
  exact JU fun x hx => hp.read hc ho hi hr hx
 rw [hw]
 have hnb : ∀ b, ¬ (T.nx i ≤ b ∧ b < T.nx (i + 1)) → ρ b = ρ b := fun _ _ => rfl
 rcases hF.quiet i o ho hie hif with ⟨q1, q2, q3, q4⟩ | ⟨q1, mi, st', q2, q3, q4, q5, q6⟩
 ·rw [q1]
  simp only [Bool.false_eq_true, if_false]
  obtain ⟨p1, p2⟩ := h.put hp hc ho hi (ρ' := ρ) (v' := undef) hnb (by rw [q2]; exact .tup _ _ .nil)
  refine ⟨fun _ _ => trivial, hK ρ _ w ⟨p1, p2, fun c hl => h.mem0 c (hl.of_quiet hie), fun c hl j hj hjc b cs hb => ?_, fun c hl b b' cs cs' hb hb' => ?_, h.base, h.below, by rw [Y9]; exact h.dfr, h.old, h.ltU⟩⟩
  ·simp only [Bool.or_eq_true, beq_iff_eq] at hj
   rcases hj with hj | rfl
   ·exact h.memN c (hl.of_quiet hie) j hj hjc b cs hb
   ·rw [q3] at hb; simp [Xr] at hb
  ·have red : ∀ b cs, (Xr (T.MB c) b = some cs ∨ ∃ j, (L j || j == i) = true ∧ T.la j = c ∧ Xr (T.N j) b = some cs) → (Xr (T.MB c) b = some cs ∨ ∃ j, L j = true ∧ T.la j = c ∧ Xr (T.N j) b = some cs) := by
    rintro b2 cs2 (hb2 | ⟨j, hj, hjc, hb2⟩)
    ·exact .inl hb2
    ·simp only [Bool.or_eq_true, beq_iff_eq] at hj
     rcases hj with hj | hj
     ·exact .inr ⟨j, hj, hjc, hb2⟩
     ·rw [hj, q3] at hb2; simp [Xr] at hb2
   exact h.inj c (hl.of_quiet hie) b b' cs cs' (red _ _ hb) (red _ _ hb')
 ·rw [q1]
  simp only [if_true]
  -- what it reads
  have hev : ∀ x ∈ o.op.operands, VR (T.UI U0 i) ρ (evl (T.tm (fun _ => true) i) x) (a.eval x) := by
   intro x hx
   have hok := hp.hx o hom x hx
   cases x with
   | tmp t =>
    have ht : t < T.nt := Nat.le_of_ble_eq_true hok
    have := (h.val t ht).up (U' := T.UI U0 i) (ρ' := ρ) fun b hb => ⟨hp.writer hc ho hi (JE hx) _ b hb, rfl⟩
    rw [hp.read hc ho hi hr (JE hx)] at this
    exact this
   | const v => exact VR.refl 8 v hok
   | global g => simp [YU] at hok
   | func f => exact .fn f [] [] [] [] .nil .nil
  -- the memory that it asks
  have hmi : mi ≠ [] → Cur T L (T.la i) := fun hne => by
   rcases q6 with q6 | ⟨q6, q7⟩
   ·exact absurd q6.1 hne
   ·exact hF.cur hp hc ho hi hr q6 hif q7
  have hup : ∀ b, T.UW U0 (T.la i) b → mi ≠ [] → T.UI U0 i b := by
   intro b hb hne
   rcases q6 with q6 | ⟨q6, q7⟩
   ·exact absurd q6.1 hne
   ·cases hla : T.la i with
    | none => rw [hla] at hb; exact .inl hb
    | some k =>
     rw [hla] at hb
     obtain ⟨g1, g2⟩ := hF.last i k hla
     exact Tab.UI_of_UD hp (q7 k g1 g2) hb
  have hHR : HR w.heap.size (T.nx i) (T.UI U0 i) ρ (T.nx i) mi w := by
   refine ⟨fun b hb => Tab.UI_lt hp h.ltU hb, fun b cs hb => ?_, fun b cs hb hro => ?_, fun b b' cs cs' hb hb' he => ?_, Nat.le_refl _⟩
   ·have hne : mi ≠ [] := fun q => by rw [q] at hb; simp [Xr] at hb
    rcases q4 b cs hb with h1 | ⟨j, h1, hj, h2⟩
    ·exact (h.mem0 _ (hmi hne) b cs h1).1.up (fun b hb => ⟨hup b hb hne, rfl⟩) fun _ _ => rfl
    ·exact (h.memN _ (hmi hne) j (hr j h1) hj b cs h2).2.1.up (fun b hb => ⟨Tab.UI_of_UD hp h1 hb, rfl⟩) fun _ _ => rfl
   ·exfalso
    have hne : mi ≠ [] := fun q => by rw [q] at hb; simp [Xr] at hb
    have : b < T.nx i := by
     rcases q4 b cs hb with h1 | ⟨j, h1, hj, h2⟩
     ·exact Tab.UI_lt hp h.ltU (hup b (h.mem0 _ (hmi hne) b cs h1).1.1 hne)
     ·have := (h.memN _ (hmi hne) j (hr j h1) hj b cs h2).1; have := hp.nx_le (show j + 1 ≤ i from hp.less i j h1); omega
    omega
   ·have hne : mi ≠ [] := fun q => by rw [q] at hb; simp [Xr] at hb
    have up : ∀ b cs, Xr mi b = some cs → (Xr (T.MB (T.la i)) b = some cs ∨ ∃ j, L j = true ∧ T.la j = T.la i ∧ Xr (T.N j) b = some cs) := fun b cs hb => by
     rcases q4 b cs hb with h1 | ⟨j, h1, hj, h2⟩
     ·exact .inl h1
     ·exact .inr ⟨j, hr j h1, hj, h2⟩
    exact h.inj _ (hmi hne) b b' cs cs' (up _ _ hb) (up _ _ hb') he
  refine (Xel hcall (st := ⟨T.nx i, mi⟩) hHR hev q2).wpIn (JT q2) fun v' w' hpost => ?_
  obtain ⟨U', ρ', h1, h2, h3, h4⟩ := hpost
  rw [q3] at h1 h2
  -- the places: the new ones of this operation, the others as they were
  let ρ2 : Nat → Pl := fun b => if T.nx i ≤ b ∧ b < T.nx (i + 1) then ρ' b else ρ b
  have hρ2 : ∀ b, ¬ (T.nx i ≤ b ∧ b < T.nx (i + 1)) → ρ2 b = ρ b := fun b hb => if_neg hb
  have hU' : ∀ b, U' b → T.UD U0 i b ∧ ρ2 b = ρ' b := by
   intro b hb
   rcases h1.new b hb with h5 | h5
   ·refine ⟨Tab.UD_of_UI h5, ?_⟩
    have := Tab.UI_lt hp h.ltU h5
    rw [hρ2 b (by omega)]
    exact (h1.up b h5).2.symm
   ·exact ⟨.inr ⟨i, .inr rfl, h5⟩, if_pos h5⟩
  have hsz : w.heap.size ≤ w'.heap.size := h4.size
  have hblk : ∀ k, k < w.heap.size → w'.heap[k]? = w.heap[k]? := fun k hk => h4.block k hk
  obtain ⟨p1, p2⟩ := h.put hp hc ho hi (ρ' := ρ2) (v' := v') hρ2 (h3.up hU')
  have hN : ∀ b cs, Xr (T.N i) b = some cs → (T.nx i ≤ b ∧ b < T.nx (i + 1)) ∧ Y3 (T.UD U0 i) ρ2 b cs w' ∧ w.heap.size ≤ (ρ2 b).g := by
   intro b cs hb
   obtain ⟨g1, g2⟩ := q5 b cs hb
   have gb := h2.blk b cs g2
   have g3 := gb.1
   have g7 := h2.lt b g3
   refine ⟨⟨g1, g7⟩, ?_, ?_⟩
   ·exact Y3.up (U := U') (ρ := ρ') (w := w') gb hU' fun _ _ => rfl
   ·rw [(hU' b g3).2]; exact h2.own b cs g2 g1
  have h0old : ∀ b, U0 b → ¬ (T.nx i ≤ b ∧ b < T.nx (i + 1)) := fun b hb q => by have := h.ltU b hb; have := hp.nx_le (Nat.zero_le i); omega
  refine hK ρ2 _ w' ⟨p1, p2, fun c hl b cs hb => ?_, fun c hl j hj hjc b cs hb => ?_, fun c hl b b' cs cs' hb hb' he => ?_, Nat.le_trans h.base hsz, h.below.trans (h4.mono h.base), by rw [Y9]; exact h.dfr, fun b hb => (hρ2 b (h0old b hb)).trans (h.old b hb), h.ltU⟩
  ·have hl' := hl.of_quiet hie
   obtain ⟨g1, g2⟩ := h.mem0 c hl' b cs hb
   refine ⟨g1.up (fun b hb => ⟨hb, hρ2 b (hl'.far hp h.ltU hc hi hb)⟩) hblk, fun hro => ?_⟩
   rw [hρ2 b (hl'.far hp h.ltU hc hi g1.1)]; exact g2 hro
  ·have hl' := hl.of_quiet hie
   simp only [Bool.or_eq_true, beq_iff_eq] at hj
   rcases hj with hj | rfl
   ·obtain ⟨g1, g2, g3⟩ := h.memN c hl' j hj hjc b cs hb
    refine ⟨g1, g2.up (fun b hb => ⟨hb, hρ2 b (Tab.UD_far hp h.ltU hc hi hj hb)⟩) hblk, ?_⟩
    rw [hρ2 b (Tab.UD_far hp h.ltU hc hi hj g2.1)]; exact g3
   ·obtain ⟨g1, g2, g3⟩ := hN b cs hb
    exact ⟨g1, g2, Nat.le_trans h.base g3⟩
  ·have hl' := hl.of_quiet hie
   have part : ∀ b cs, (Xr (T.MB c) b = some cs ∨ ∃ j, (L j || j == i) = true ∧ T.la j = c ∧ Xr (T.N j) b = some cs) → ((Xr (T.MB c) b = some cs ∨ ∃ j, L j = true ∧ T.la j = c ∧ Xr (T.N j) b = some cs) ∧ ρ2 b = ρ b ∧ (ρ b).g < w.heap.size) ∨ (Xr (T.N i) b = some cs ∧ w.heap.size ≤ (ρ2 b).g) := by
    rintro b2 cs2 (hb2 | ⟨j, hj, hjc, hb2⟩)
    ·obtain ⟨g0, g2⟩ := h.mem0 c hl' b2 cs2 hb2
     exact .inl ⟨.inl hb2, hρ2 b2 (hl'.far hp h.ltU hc hi g0.1), g0.lt⟩
    ·simp only [Bool.or_eq_true, beq_iff_eq] at hj
     rcases hj with hj | hj
     ·obtain ⟨g1, g5, g3⟩ := h.memN c hl' j hj hjc b2 cs2 hb2
      exact .inl ⟨.inr ⟨j, hj, hjc, hb2⟩, hρ2 b2 (Tab.UD_far hp h.ltU hc hi hj g5.1), g5.lt⟩
     ·rw [hj] at hb2; exact .inr ⟨hb2, (hN b2 cs2 hb2).2.2⟩
   rcases part b cs hb with ⟨a1, a2, a3⟩ | ⟨a1, a2⟩ <;> rcases part b' cs' hb' with ⟨c1, c2, c3⟩ | ⟨c1, c2⟩
   ·rw [a2, c2] at he; exact h.inj c hl' b b' cs cs' a1 c1 he
   ·rw [a2] at he; omega
   ·rw [c2] at he; omega
   ·obtain ⟨d1, d2⟩ := q5 b cs a1
    obtain ⟨d3, d4⟩ := q5 b' cs' c1
    rw [(hU' b (h2.blk b cs d2).1).2, (hU' b' (h2.blk b' cs' d4).1).2] at he
    exact h2.inj b b' cs cs' d2 d4 he

theorem RInv.free (hcall : JY P call) (hp : Plan T) (hF : Facts T P call ro) (hc : Closed T L) (h : RInv T U0 B ro ρ0 w0 ds L ρ a w) {i : Nat} {o : Oper} (ho : T.ops[i]? = some o) (hi : L i = false)
  (hr : ∀ j, (T.D i).testBit j = true → L j = true) {b0 : Nat} (hif : T.F i = some b0) {K : Act → World → Prop} {Q : Exit → Act → World → Prop} (hK : ∀ ρ' a' w', RInv T U0 B ro ρ0 w0 ds (fun j => L j || j == i) ρ' a' w' → K a' w') : wpOpIn (Fw rd) 0 P T.ops Q i K a w := by
 have hin : i < T.ops.size := (Array.getElem?_eq_some_iff.1 ho).1
 have hom := Array.mem_of_getElem? ho
 have hie := hF.FE i b0 hif
 unfold wpOpIn
 simp only [ho]
 have hw : Region.wanted o (yielded T.ops a.tmps) = Yu T.ops (T.tm (fun _ => true) i) o := by
  rw [← h.tr.wanted hp.hd o]
  exact JU fun x hx => hp.read hc ho hi hr hx
 rw [hw]
 obtain ⟨q1, q2, q3, q4, q5, cs0, q6, q7, q8⟩ := hF.free i o b0 ho hif
 rw [q1]
 simp only [if_true]
 obtain ⟨c, hcur⟩ := Cur.ex (L := L) hF
 have hlook : Xr (T.MB c) b0 = some cs0 := by
  cases hcc : c with
  | none =>
   cases hla : T.la i with
   | none => rw [hla] at q7; exact q7
   | some k =>
    obtain ⟨g1, g2⟩ := hF.last i k hla
    obtain ⟨k', g3, _⟩ := hcur.great k g2 (hr k (q5 k g1 g2))
    rw [hcc] at g3; simp at g3
  | some k =>
   obtain ⟨g1, g2⟩ := hcur.is k hcc
   rcases Nat.lt_trichotomy k i with h1 | h1 | h1
   ·obtain ⟨k', g3, g4⟩ := hF.great i k h1 (Nat.le_of_lt hin) g1
    obtain ⟨g5, g6⟩ := hF.last i k' g3
    obtain ⟨k2, g7, g8⟩ := hcur.great k' g6 (hr k' (q5 k' g5 g6))
    rw [hcc] at g7
    simp only [Option.some.injEq] at g7
    subst g7
    rw [g3, ← Nat.le_antisymm g4 g8] at q7
    exact q7
   ·rw [h1, hi] at g2; simp at g2
   ·rcases q8 k h1 g1 with h2 | h2
    ·have := hc.down k i g2 h2; rw [hi] at this; simp at this
    ·exact h2
 have hmem := h.mem0 c hcur b0 cs0 hlook
 have hev : ∀ x ∈ o.op.operands, VR (T.UI U0 i) ρ (evl (T.tm (fun _ => true) i) x) (a.eval x) := by
  intro x hx
  have hok := hp.hx o hom x hx
  cases x with
  | tmp t =>
   have ht : t < T.nt := Nat.le_of_ble_eq_true hok
   have := (h.val t ht).up (U' := T.UI U0 i) (ρ' := ρ) fun b hb => ⟨hp.writer hc ho hi (JE hx) _ b hb, rfl⟩
   rw [hp.read hc ho hi hr (JE hx)] at this
   exact this
  | const v => exact VR.refl 8 v hok
  | global g => simp [YU] at hok
  | func f => exact .fn f [] [] [] [] .nil .nil
 -- a number beyond all blocks
 obtain ⟨n1, hn1, hn2⟩ : ∃ n1, T.nx i ≤ n1 ∧ ∀ b, T.UW U0 c b → b < n1 := by
  cases hcc : c with
  | none => exact ⟨T.nx i, Nat.le_refl _, fun b hb => by have := h.ltU b hb; have := hp.nx_le (Nat.zero_le i); omega⟩
  | some k => exact ⟨T.nx i + T.nx (k + 1), by omega, fun b hb => by have := Tab.UD_lt hp h.ltU hb; omega⟩
 have one : ∀ b cs, Xr [(b0, cs0)] b = some cs → b = b0 ∧ cs = cs0 := by
  intro b cs hb
  simp only [Xr] at hb
  split at hb
  ·rename_i he
   simp only [Option.some.injEq] at hb
   exact ⟨(Nat.eq_of_beq_eq_true he).symm, hb.symm⟩
  ·simp at hb
 have hHR : HR w.heap.size n1 (fun b => T.UI U0 i b ∨ T.UW U0 c b) ρ n1 [(b0, cs0)] w := by
  refine ⟨fun b hb => ?_, fun b cs hb => ?_, fun b cs hb hro => ?_, fun b b' cs cs' hb hb' he => ?_, Nat.le_refl _⟩
  ·rcases hb with hb | hb
   ·have := Tab.UI_lt hp h.ltU hb; omega
   ·exact hn2 b hb
  ·obtain ⟨rfl, rfl⟩ := one b cs hb
   exact Y3.up (U' := fun b => T.UI U0 i b ∨ T.UW U0 c b) hmem.1 (fun b hb => ⟨.inr hb, rfl⟩) fun _ _ => rfl
  ·obtain ⟨rfl, rfl⟩ := one b cs hb
   have := hn2 b hmem.1.1; omega
  ·obtain ⟨rfl, rfl⟩ := one b cs hb
   exact (one b' cs' hb').1.symm
 have hev' : ∀ x ∈ o.op.operands, VR (fun b => T.UI U0 i b ∨ T.UW U0 c b) ρ (evl (T.tm (fun _ => true) i) x) (a.eval x) := fun x hx => (hev x hx).up fun b hb => ⟨.inl hb, rfl⟩
 have q6' : aOp P call n1 (evl (T.tm (fun _ => true) i)) o ⟨n1, [(b0, cs0)]⟩ = some (T.V i, ⟨n1, [(b0, cs0)]⟩) := (hF.freeL i o b0 ho hif).any q6
 refine (Xel hcall (st := ⟨n1, [(b0, cs0)]⟩) hHR hev' q6').wpIn (JT q6') fun v' w' hpost => ?_
 obtain ⟨U', ρ', h1, h2, h3, h4⟩ := hpost
 have hv' : v' = T.V i := VR.eq 8 _ _ q4 h3
 have hsz : w.heap.size ≤ w'.heap.size := h4.size
 have hblk : ∀ k, k < w.heap.size → w'.heap[k]? = w.heap[k]? := fun k hk => h4.block k hk
 obtain ⟨p1, p2⟩ := h.put hp hc ho hi (ρ' := ρ) (v' := v') (fun _ _ => rfl) (by rw [hv']; exact VR.refl 8 _ q4)
 refine hK ρ _ w' ⟨p1, p2, fun c hl b cs hb => ?_, fun c hl j hj hjc b cs hb => ?_, fun c hl b b' cs cs' hb hb' => ?_, Nat.le_trans h.base hsz, h.below.trans (h4.mono h.base), by rw [Y9]; exact h.dfr, h.old, h.ltU⟩
 ·obtain ⟨g1, g2⟩ := h.mem0 c (hl.of_quiet hie) b cs hb
  exact ⟨g1.up (fun b hb => ⟨hb, rfl⟩) hblk, g2⟩
 ·simp only [Bool.or_eq_true, beq_iff_eq] at hj
  rcases hj with hj | rfl
  ·obtain ⟨g1, g2, g3⟩ := h.memN c (hl.of_quiet hie) j hj hjc b cs hb
   exact ⟨g1, g2.up (fun b hb => ⟨hb, rfl⟩) hblk, g3⟩
  ·rw [q2] at hb; simp [Xr] at hb
 ·have red : ∀ b cs, (Xr (T.MB c) b = some cs ∨ ∃ j, (L j || j == i) = true ∧ T.la j = c ∧ Xr (T.N j) b = some cs) → (Xr (T.MB c) b = some cs ∨ ∃ j, L j = true ∧ T.la j = c ∧ Xr (T.N j) b = some cs) := by
   rintro b2 cs2 (hb2 | ⟨j, hj, hjc, hb2⟩)
   ·exact .inl hb2
   ·simp only [Bool.or_eq_true, beq_iff_eq] at hj
    rcases hj with hj | hj
    ·exact .inr ⟨j, hj, hjc, hb2⟩
    ·rw [hj, q2] at hb2; simp [Xr] at hb2
  exact h.inj c (hl.of_quiet hie) b b' cs cs' (red _ _ hb) (red _ _ hb')

theorem RInv.act (hcall : JY P call) (hp : Plan T) (hF : Facts T P call ro) (hc : Closed T L) (h : RInv T U0 B ro ρ0 w0 ds L ρ a w) {i : Nat} {o : Oper} (ho : T.ops[i]? = some o) (hi : L i = false)
  (hr : ∀ j, (T.D i).testBit j = true → L j = true) (hie : T.E i = true) {K : Act → World → Prop} {Q : Exit → Act → World → Prop} (hK : ∀ ρ' a' w', RInv T U0 B ro ρ0 w0 ds (fun j => L j || j == i) ρ' a' w' → K a' w') : wpOpIn (Fw rd) 0 P T.ops Q i K a w := by
 have hin : i < T.ops.size := (Array.getElem?_eq_some_iff.1 ho).1
 have hom := Array.mem_of_getElem? ho
 unfold wpOpIn
 simp only [ho]
 have hw : Region.wanted o (yielded T.ops a.tmps) = Yu T.ops (T.tm (fun _ => true) i) o := by
  rw [← h.tr.wanted hp.hd o]
  exact JU fun x hx => hp.read hc ho hi hr hx
 rw [hw]
 obtain ⟨q1, q0, qs, me, q2, q3, q4⟩ := hF.acts i o ho hie
 rw [q1]
 simp only [if_true]
 have hlt := hF.lt
 have q5 : ∀ k, k < i → T.E k = true → (T.D i).testBit k = true := by
  intro k hk hE
  obtain ⟨ok, hok⟩ : ∃ ok, T.ops[k]? = some ok := ⟨T.ops[k]'(hlt k hE), Array.getElem?_eq_getElem (hlt k hE)⟩
  rcases q4 k ok hk hok with h2 | h2 | ⟨b, h2⟩
  ·exact h2
  ·rw [(hF.acts k ok hok hE).2.2.1] at h2; simp at h2
  ·rw [hF.FE k b h2] at hE; simp at hE
 have hif : T.F i = none := by
  cases hf : T.F i with
  | none => rfl
  | some b => rw [hF.FE i b hf] at hie; simp at hie
 have hl' : Cur T L (T.la i) := hF.cur hp hc ho hi hr qs hif q5
 have hup : ∀ b, T.UW U0 (T.la i) b → T.UI U0 i b := by
  intro b hb
  cases hla : T.la i with
  | none => rw [hla] at hb; exact .inl hb
  | some k =>
   rw [hla] at hb
   obtain ⟨g1, g2⟩ := hF.last i k hla
   exact Tab.UI_of_UD hp (q5 k g1 g2) hb
 have hev : ∀ x ∈ o.op.operands, VR (T.UI U0 i) ρ (evl (T.tm (fun _ => true) i) x) (a.eval x) := by
  intro x hx
  have hok := hp.hx o hom x hx
  cases x with
  | tmp t =>
   have ht : t < T.nt := Nat.le_of_ble_eq_true hok
   have := (h.val t ht).up (U' := T.UI U0 i) (ρ' := ρ) fun b hb => ⟨hp.writer hc ho hi (JE hx) _ b hb, rfl⟩
   rw [hp.read hc ho hi hr (JE hx)] at this
   exact this
  | const v => exact VR.refl 8 v hok
  | global g => simp [YU] at hok
  | func f => exact .fn f [] [] [] [] .nil .nil
 have q3' : ∀ b cs, Xr me b = some cs → Xr (T.MB (T.la i)) b = some cs ∨ ∃ j, (T.D i).testBit j = true ∧ T.la j = T.la i ∧ Xr (T.N j) b = some cs := by
  intro b cs hb
  rcases q3 b cs hb with h1 | ⟨j, h1, hj, h2⟩
  ·exact .inl h1
  ·have hjl : j < T.ops.size := by omega
   obtain ⟨oj, hoj⟩ : ∃ oj, T.ops[j]? = some oj := ⟨T.ops[j], Array.getElem?_eq_getElem hjl⟩
   rcases q4 j oj h1 hoj with h3 | h3 | ⟨b, h3⟩
   ·exact .inr ⟨j, h3, hj, h2⟩
   ·rw [hF.stillN j oj hoj h3] at h2; simp [Xr] at h2
   ·rw [(hF.free j oj b hoj h3).2.1] at h2; simp [Xr] at h2
 have hHR : HR B ro (T.UI U0 i) ρ (T.nx i) me w := by
  refine ⟨fun b hb => Tab.UI_lt hp h.ltU hb, fun b cs hb => ?_, fun b cs hb hro => ?_, fun b b' cs cs' hb hb' he => ?_, h.base⟩
  ·rcases q3' b cs hb with h1 | ⟨j, h1, hj, h2⟩
   ·exact (h.mem0 _ hl' b cs h1).1.up (fun b hb => ⟨hup b hb, rfl⟩) fun _ _ => rfl
   ·exact (h.memN _ hl' j (hr j h1) hj b cs h2).2.1.up (fun b hb => ⟨Tab.UI_of_UD hp h1 hb, rfl⟩) fun _ _ => rfl
  ·rcases q3' b cs hb with h1 | ⟨j, h1, hj, h2⟩
   ·exact (h.mem0 _ hl' b cs h1).2 hro
   ·exact (h.memN _ hl' j (hr j h1) hj b cs h2).2.2
  ·have up : ∀ b cs, Xr me b = some cs → (Xr (T.MB (T.la i)) b = some cs ∨ ∃ j, L j = true ∧ T.la j = T.la i ∧ Xr (T.N j) b = some cs) := fun b cs hb => by
    rcases q3' b cs hb with h1 | ⟨j, h1, hj, h2⟩
    ·exact .inl h1
    ·exact .inr ⟨j, hr j h1, hj, h2⟩
   exact h.inj _ hl' b b' cs cs' (up _ _ hb) (up _ _ hb') he
 refine (Xel hcall (st := ⟨T.nx i, me⟩) hHR hev q2).wpIn (JT q2) fun v' w' hpost => ?_
 obtain ⟨U', ρ', h1, h2, h3, h4⟩ := hpost
 let ρ2 : Nat → Pl := fun b => if T.nx i ≤ b ∧ b < T.nx (i + 1) then ρ' b else ρ b
 have hρ2 : ∀ b, ¬ (T.nx i ≤ b ∧ b < T.nx (i + 1)) → ρ2 b = ρ b := fun b hb => if_neg hb
 have hU' : ∀ b, U' b → T.UD U0 i b ∧ ρ2 b = ρ' b := by
  intro b hb
  rcases h1.new b hb with h5 | h5
  ·refine ⟨Tab.UD_of_UI h5, ?_⟩
   have := Tab.UI_lt hp h.ltU h5
   rw [hρ2 b (by omega)]
   exact (h1.up b h5).2.symm
  ·exact ⟨.inr ⟨i, .inr rfl, h5⟩, if_pos h5⟩
 obtain ⟨p1, p2⟩ := h.put hp hc ho hi (ρ' := ρ2) (v' := v') hρ2 (h3.up hU')
 have h0old : ∀ b, U0 b → ¬ (T.nx i ≤ b ∧ b < T.nx (i + 1)) := fun b hb q => by have := h.ltU b hb; have := hp.nx_le (Nat.zero_le i); omega
 have late : ∀ k, i < k → T.E k = true → L k = false := by
  intro k hk hE
  cases hL : L k with
  | false => rfl
  | true =>
   obtain ⟨ok, hok⟩ : ∃ ok, T.ops[k]? = some ok := ⟨T.ops[k]'(hlt k hE), Array.getElem?_eq_getElem (hlt k hE)⟩
   obtain ⟨_, _, _, _, _, _, a1⟩ := hF.acts k ok hok hE
   rcases a1 i o hk ho with h5 | h5 | ⟨b, h5⟩
   ·have := hc.down k i hL h5; rw [hi] at this; simp at this
   ·rw [qs] at h5; simp at h5
   ·rw [hif] at h5; simp at h5
 have only : ∀ c, Cur T (fun j => L j || j == i) c → c = some i := by
  intro c hcur
  obtain ⟨k, hk, hik⟩ := hcur.great i hie (by simp)
  obtain ⟨g1, g2⟩ := hcur.is k hk
  rcases Nat.lt_or_ge i k with g3 | g3
  ·have := late k g3 g1
   simp only [this, Bool.false_or, beq_iff_eq] at g2
   omega
  ·rw [hk, Nat.le_antisymm hik g3]
 have noN : ∀ j, (L j || j == i) = true → T.la j = some i → ∀ b cs, Xr (T.N j) b = some cs → False := by
  intro j hj hjc b cs hb
  obtain ⟨g1, _⟩ := hF.last j i hjc
  have hLj : L j = true := by
   simp only [Bool.or_eq_true, beq_iff_eq] at hj
   rcases hj with hj | hj
   ·exact hj
   ·omega
  have hjl := hc.lt j hLj
  obtain ⟨oj, hoj⟩ : ∃ oj, T.ops[j]? = some oj := ⟨T.ops[j], Array.getElem?_eq_getElem hjl⟩
  cases hEj : T.E j with
  | true => rw [late j g1 hEj] at hLj; simp at hLj
  | false =>
   cases hf : T.F j with
   | some b => rw [(hF.free j oj b hoj hf).2.1] at hb; simp [Xr] at hb
   | none =>
    rcases hF.quiet j oj hoj hEj hf with ⟨_, _, g2, _⟩ | ⟨_, mi, st', _, _, _, _, g2⟩
    ·rw [g2] at hb; simp [Xr] at hb
    ·rcases g2 with ⟨_, g2⟩ | ⟨_, g2⟩
     ·rw [g2] at hb; simp [Xr] at hb
     ·have := hc.down j i hLj (g2 i g1 hie); rw [hi] at this; simp at this
 refine hK ρ2 _ w' ⟨p1, p2, fun c hl b cs hb => ?_, fun c hl j hj hjc b cs hb => ?_, fun c hl b b' cs cs' hb hb' he => ?_, Nat.le_trans h.base h4.size, h.below.trans h4, by rw [Y9]; exact h.dfr, fun b hb => (hρ2 b (h0old b hb)).trans (h.old b hb), h.ltU⟩
 ·obtain rfl := only c hl
  refine ⟨Y3.up (U' := T.UD U0 i) (h2.blk b cs hb) hU' fun _ _ => rfl, fun hro => ?_⟩
  rw [(hU' b (h2.blk b cs hb).1).2]; exact h2.own b cs hb hro
 ·obtain rfl := only c hl
  exact (noN j hj hjc b cs hb).elim
 ·obtain rfl := only c hl
  have hb : Xr (T.MB (some i)) b = some cs := hb.resolve_right fun ⟨j, g1, g2, g3⟩ => noN j g1 g2 b cs g3
  have hb' : Xr (T.MB (some i)) b' = some cs' := hb'.resolve_right fun ⟨j, g1, g2, g3⟩ => noN j g1 g2 b' cs' g3
  rw [(hU' b (h2.blk b cs hb).1).2, (hU' b' (h2.blk b' cs' hb').1).2] at he; exact h2.inj b b' cs cs' hb hb' he
end
end Go.Proofs.Ytiaiecfnpompcaa.Ab
namespace Go.Proofs.Ytiaiecfnpompcaa.Ab
open Go Go.RowKit
set_option linter.unusedVariables false
set_option linter.unusedSimpArgs false
section
variable {P : Program} {call : Nat → Tgt → List Value → St → Ans}
variable {T : Tab} {U0 : Nat → Prop} {rd : Option Nat}
variable {B ro : Nat} {ρ0 ρ : Nat → Pl} {w0 w : World} {ds : List Deferred} {L : Nat → Bool} {a : Act}

theorem Xf7 (a : Array Bool) (i : Nat) (x : Bool) : (a.setIfInBounds i x).toList = a.toList.set i x := by
 simp

theorem Xhn (hcall : JY P call) (hp : Plan T) (hF : Facts T P call ro) {Q : Exit → Act → World → Prop} (hfin : ∀ ρ a w, RInv T U0 B ro ρ0 w0 ds (fun j => decide (j < T.ops.size)) ρ a w → Q .normal a w) :
  ∀ (fuel : Nat) (listed : Array Bool) (ρ : Nat → Pl) (a : Act) (w : World), listed.size = T.ops.size → listed.toList.count false ≤ fuel → Closed T (fun j => listed.getD j false) → RInv T U0 B ro ρ0 w0 ds (fun j => listed.getD j false) ρ a w →
   wpAnyIn (Fw rd) 0 P .any T.ops Q fuel listed a w := by
 have hdone : ∀ (listed : Array Bool) (ρ : Nat → Pl) (a : Act) (w : World), listed.size = T.ops.size → Closed T (fun j => listed.getD j false) → RInv T U0 B ro ρ0 w0 ds (fun j => listed.getD j false) ρ a w → Region.ready .any T.ops listed = [] → Q .normal a w := by
  intro listed ρ a w hs hc h hr
  have hall : ∀ i, i < T.ops.size → listed.getD i false = true := by
   intro i
   induction i using Nat.strongRecOn with
   | _ i ih =>
    intro hi
    cases hL : listed.getD i false with
    | true => rfl
    | false =>
     exfalso
     have hmem : i ∈ Region.ready .any T.ops listed := by
      rw [mem_ready]
      obtain ⟨o, ho⟩ : ∃ o, T.ops[i]? = some o := ⟨T.ops[i], Array.getElem?_eq_getElem hi⟩
      refine ⟨by simpa [hs, hi] using hL, o, ho, fun q hq hb => ?_⟩
      have := hp.back i o ho q hq hb
      exact ih q.on this (by omega)
     rw [hr] at hmem
     cases hmem
  have e1 : (fun j => listed.getD j false) = fun j => decide (j < T.ops.size) := by
   funext j
   by_cases hj : j < T.ops.size
   ·rw [hall j hj]; simp [hj]
   ·have : listed.getD j false = false := by simp [hs, hj]
    rw [this]; simp [hj]
  rw [e1] at h
  exact hfin ρ a w h
 intro fuel
 induction fuel with
 | zero =>
  intro listed ρ a w hs hcnt hc h
  have hr : Region.ready .any T.ops listed = [] := by
   rw [List.eq_nil_iff_forall_not_mem]
   intro i hi
   obtain ⟨h0, o, ho, _⟩ := mem_ready.1 hi
   have hin : i < listed.size := by rw [hs]; exact (Array.getElem?_eq_some_iff.1 ho).1
   have hf : false ∈ listed.toList := by
    have : listed[i] = false := by simpa [hin] using h0
    rw [← this]; simp
   have := List.count_pos_iff.2 hf
   omega
  exact ⟨hr, hdone listed ρ a w hs hc h hr⟩
 | succ fuel ih =>
  intro listed ρ a w hs hcnt hc h
  refine ⟨hdone listed ρ a w hs hc h, fun i hi => ?_⟩
  obtain ⟨h0, o, ho, hall⟩ := mem_ready.1 hi
  have hin : i < listed.size := by rw [hs]; exact (Array.getElem?_eq_some_iff.1 ho).1
  have hLi : listed.getD i false = false := by simpa [hin] using h0
  have hready := hp.ready hc ho (fun q hq hb => hall q hq hb)
  have e1 : (fun j => (listed.setIfInBounds i true).getD j false) = fun j => listed.getD j false || j == i := by
   funext j
   by_cases hj : i = j
   ·subst hj; simp [hin]
   ·rw [getD_set_ne false hj]
    simp [show ¬ j = i from fun q => hj q.symm]
  have hc' : Closed T (fun j => (listed.setIfInBounds i true).getD j false) := by
   rw [e1]
   refine ⟨fun k j hk hj => ?_, fun k hk => ?_⟩
   ·simp only [Bool.or_eq_true, beq_iff_eq] at hk ⊢
    rcases hk with hk | rfl
    ·exact .inl (hc.down k j hk hj)
    ·exact .inl (hready j hj)
   ·simp only [Bool.or_eq_true, beq_iff_eq] at hk
    rcases hk with hk | rfl
    ·exact hc.lt k hk
    ·omega
  have hcnt' : (listed.setIfInBounds i true).toList.count false ≤ fuel := by
   rw [Xf7]
   have hget : listed.toList[i]'(by simpa using hin) = false := by simpa [hin] using h0
   rw [List.count_set (by simpa using hin), hget, if_pos (show (false == false) = true from rfl), if_neg (by decide)]
   omega
  have hK : ∀ ρ' a' w', RInv T U0 B ro ρ0 w0 ds (fun j => listed.getD j false || j == i) ρ' a' w' → wpAnyIn (Fw rd) 0 P .any T.ops Q fuel (listed.setIfInBounds i true) a' w' := by
   intro ρ' a' w' h'
   rw [← e1] at h'
   exact ih _ ρ' a' w' (by simpa using hs) hcnt' hc' h'
  cases hie : T.E i with
  | true => exact h.act hcall hp hF hc ho hLi hready hie hK
  | false =>
   cases hif : T.F i with
   | some b => exact h.free hcall hp hF hc ho hLi hready hif hK
   | none => exact h.quiet hcall hp hF hc ho hLi hready hie hif hK
end

section
theorem Xck {a b : Mem} {k : Nat} {cs : Blk} (h : Xr (a ++ b) k = some cs) : Xr a k = some cs ∨ Xr b k = some cs := by
 induction a with
 | nil => exact .inr h
 | cons p a ih =>
  obtain ⟨i, c⟩ := p
  simp only [List.cons_append, Xr] at h ⊢
  split at h
  ·exact .inl h
  ·exact ih h
theorem XcK {m0 : Mem} {mask : Nat} : ∀ {ns : List Mem} {i b : Nat} {cs : Blk}, Xr (Xao m0 mask i ns) b = some cs → Xr m0 b = some cs ∨ ∃ (j : Nat) (r : Mem), mask.testBit (i + j) = true ∧ ns[j]? = some r ∧ Xr r b = some cs
 | [], i, b, cs, h => .inl h
 | r :: rs, i, b, cs, h => by
  have more : Xr (Xao m0 mask (i + 1) rs) b = some cs → Xr m0 b = some cs ∨ ∃ (j : Nat) (r' : Mem), mask.testBit (i + j) = true ∧ (r :: rs)[j]? = some r' ∧ Xr r' b = some cs := by
   intro h
   rcases XcK h with h1 | ⟨j, r', h1, h2, h3⟩
   ·exact .inl h1
   ·exact .inr ⟨j + 1, r', by rw [show i + (j + 1) = i + 1 + j by omega]; exact h1, by simpa using h2, h3⟩
  simp only [Xao] at h
  split at h
  ·exact more h
  ·split at h
   ·rename_i ht
    rcases Xck h with h1 | h1
    ·exact .inr ⟨0, r, by simpa using ht, rfl, h1⟩
    ·exact more h1
   ·exact more h
theorem Xav {m0 : Mem} : ∀ {ns : List Mem} {b : Nat} {cs : Blk}, Xr (JW m0 ns) b = some cs → Xr m0 b = some cs ∨ ∃ (j : Nat) (r : Mem), ns[j]? = some r ∧ Xr r b = some cs
 | [], b, cs, h => .inl h
 | r :: rs, b, cs, h => by
  simp only [JW] at h
  rcases Xck h with h1 | h1
  ·exact .inr ⟨0, r, rfl, h1⟩
  ·rcases Xav h1 with h2 | ⟨j, r', h2, h3⟩
   ·exact .inl h2
   ·exact .inr ⟨j + 1, r', by simpa using h2, h3⟩
theorem XaE {b : Nat} : ∀ {ns : List Mem}, absent b ns = true → ∀ r ∈ ns, Xr r b = none
 | [], _, r, hr => by simp at hr
 | q :: rs, h, r, hr => by
  simp only [absent] at h
  split at h
  ·rename_i hq
   rcases List.mem_cons.1 hr with rfl | hr
   ·exact hq
   ·exact XaE h r hr
  ·simp at h
theorem J1 {a b : Mem} {k : Nat} (h : Xr a k = none) : Xr (a ++ b) k = Xr b k := by
 induction a with
 | nil => rfl
 | cons p a ih =>
  obtain ⟨i, c⟩ := p
  simp only [List.cons_append, Xr] at h ⊢
  split at h
  ·simp at h
  ·exact ih h
theorem JC {m0 : Mem} {mask b : Nat} : ∀ {ns : List Mem} {i : Nat}, absent b ns = true → Xr (Xao m0 mask i ns) b = Xr m0 b
 | [], i, _ => rfl
 | r :: rs, i, h => by
  have hr := XaE h r (by simp)
  have hrs : absent b rs = true := by simp only [absent, hr] at h; exact h
  simp only [Xao]
  split
  ·exact JC hrs
  ·split
   ·rw [J1 hr]; exact JC hrs
   ·exact JC hrs
theorem Xa2 {m0 : Mem} {b : Nat} : ∀ {ns : List Mem}, absent b ns = true → Xr (JW m0 ns) b = Xr m0 b
 | [], _ => rfl
 | r :: rs, h => by
  have hr := XaE h r (by simp)
  have hrs : absent b rs = true := by simp only [absent, hr] at h; exact h
  simp only [JW]
  rw [J1 hr]; exact Xa2 hrs
theorem XcN {mask : Nat} {w : Option Nat} {ns : List Mem} : ∀ {l : List Oper} {j n : Nat} {q : List (Option Nat)}, louds mask w ns j n l q = true → ∀ k, k < n → ∀ o, l[k]? = some o →
  mask.testBit (j + k) = true ∨ still o.op = true ∨ ∃ b bk, q[k]? = some (some b) ∧ w = some bk ∧ b ≠ bk ∧ absent b ns = true
 | l, j, 0, q, _, k, hk, _, _ => by omega
 | [], j, n + 1, q, _, k, _, o, ho => by simp at ho
 | r :: rs, j, n + 1, q, h, k, hk, o, ho => by
  simp only [louds, Bool.and_eq_true, Bool.or_eq_true] at h
  cases k with
  | zero =>
   simp at ho; subst ho
   rcases h.1 with (h1 | h1) | h1
   ·exact .inl h1
   ·exact .inr (.inl h1)
   ·refine .inr (.inr ?_)
    unfold spared at h1
    split at h1
    ·rename_i b bk hq
     split at h1
     ·simp at h1
     ·rename_i hne
      cases q with
      | nil => simp [Xhi] at hq
      | cons x q =>
       simp only [Xhi] at hq
       exact ⟨b, bk, by simp [hq], rfl, fun e => by rw [e] at hne; simp at hne, h1⟩
    ·simp at h1
  | succ k =>
   have := XcN h.2 k (by omega) o (by simpa using ho)
   rw [show j + 1 + k = j + (k + 1) by omega] at this
   rcases this with h1 | h1 | ⟨b, bk, h1, h2⟩
   ·exact .inl h1
   ·exact .inr (.inl h1)
   ·refine .inr (.inr ⟨b, bk, ?_, h2⟩)
    cases q with
    | nil => simp at h1
    | cons x q => simpa using h1
theorem Xa5 {ops : Array Oper} {o : Oper} {mask : Nat} : ∀ {l : List Oper} {j n : Nat}, XaC ops o mask j n l = true → ∀ k, k < n → ∀ q, l[k]? = some q → mask.testBit (j + k) = true ∨ q.apart ops o = true
 | l, j, 0, _, k, hk, _, _ => by omega
 | [], j, n + 1, _, k, _, o, ho => by simp at ho
 | r :: rs, j, n + 1, h, k, hk, q, ho => by
  simp only [XaC, Bool.and_eq_true, Bool.or_eq_true] at h
  cases k with
  | zero => simp at ho; subst ho; exact h.1
  | succ k =>
   have := Xa5 h.2 k (by omega) q (by simpa using ho)
   rwa [show j + 1 + k = j + (k + 1) by omega] at this
theorem Xaw {ms : List Nat} {i : Nat} : ∀ {es : List Edge} {m : Nat}, Xbe ms i es = some m →
  (∀ e ∈ es, Region.binds .any e = true → e.on < i ∧ ∃ r, ms[e.on]? = some r ∧ ∀ k, r.testBit k = true → m.testBit k = true) ∧
  (∀ j, m.testBit j = true → ∃ e ∈ es, Region.binds .any e = true ∧ (j = e.on ∨ ∃ r, ms[e.on]? = some r ∧ r.testBit j = true))
 | [], m, h => by
  simp only [Xbe, Option.some.injEq] at h
  subst h
  exact ⟨by simp, by simp⟩
 | e :: es, m, h => by
  simp only [Xbe] at h
  split at h
  ·rename_i hb
   split at h
   ·rename_i r m' hlt hr hm
    simp only [Option.some.injEq] at h
    subst h
    obtain ⟨h1, h2⟩ := Xaw hm
    have tb : ∀ k, (Nat.lor (Nat.lor (2 ^ e.on) r) m').testBit k = true ↔ (k = e.on ∨ r.testBit k = true) ∨ m'.testBit k = true := by
     intro k
     show ((2 ^ e.on ||| r) ||| m').testBit k = true ↔ _
     rw [Nat.testBit_or, Nat.testBit_or, Nat.testBit_two_pow]
     simp only [Bool.or_eq_true, decide_eq_true_eq]
     constructor
     ·rintro ((h | h) | h)
      ·exact .inl (.inl h.symm)
      ·exact .inl (.inr h)
      ·exact .inr h
     ·rintro ((h | h) | h)
      ·exact .inl (.inl h.symm)
      ·exact .inl (.inr h)
      ·exact .inr h
    refine ⟨fun q hq hqb => ?_, fun j hj => ?_⟩
    ·rcases List.mem_cons.1 hq with rfl | hq
     ·exact ⟨Nat.le_of_ble_eq_true hlt, r, hr, fun k hk => (tb k).2 (.inl (.inr hk))⟩
     ·obtain ⟨a1, r', a2, a3⟩ := h1 q hq hqb
      exact ⟨a1, r', a2, fun k hk => (tb k).2 (.inr (a3 k hk))⟩
    ·rcases (tb j).1 hj with (h3 | h3) | h3
     ·exact ⟨e, by simp, hb, .inl h3⟩
     ·exact ⟨e, by simp, hb, .inr ⟨r, hr, h3⟩⟩
     ·obtain ⟨q, a1, a2, a3⟩ := h2 j h3
      exact ⟨q, by simp [a1], a2, a3⟩
   ·simp at h
  ·rename_i hb
   obtain ⟨h1, h2⟩ := Xaw h
   refine ⟨fun q hq hqb => ?_, fun j hj => ?_⟩
   ·rcases List.mem_cons.1 hq with rfl | hq
    ·rw [hqb] at hb; simp at hb
    ·exact h1 q hq hqb
   ·obtain ⟨q, a1, a2, a3⟩ := h2 j hj
    exact ⟨q, by simp [a1], a2, a3⟩
theorem XdA {ops : Array Oper} : ∀ {rest : List Oper} {i : Nat} {ms0 ms : List Nat}, plan ops rest i ms0 = some ms → ms0.length = i →
  ms.length = i + rest.length ∧ (∀ (j : Nat) r, ms0[j]? = some r → ms[j]? = some r) ∧
  (∀ (k : Nat) o, rest[k]? = some o → ∃ m, ms[i + k]? = some m ∧ Xbe (ms.take (i + k)) (i + k) o.after.toList = some m ∧ XaC ops o m 0 (i + k) ops.toList = true)
 | [], i, ms0, ms, h, hl => by
  simp only [plan, Option.some.injEq] at h
  subst h
  exact ⟨by simp [hl], fun _ _ h => h, by simp⟩
 | o :: rest, i, ms0, ms, h, hl => by
  simp only [plan] at h
  split at h
  ·rename_i mask hm
   split at h
   ·rename_i ha
    obtain ⟨h1, h2, h3⟩ := XdA h (by simp [hl])
    have hpre : ms.take i = ms0 := by
     apply List.ext_getElem?
     intro j
     rw [List.getElem?_take]
     split
     ·rename_i hj
      have e : ms0[j]? = some ms0[j] := List.getElem?_eq_getElem (by omega)
      rw [e]
      exact h2 j _ (by rw [List.getElem?_append_left (by omega)]; exact e)
     ·exact (List.getElem?_eq_none (by omega)).symm
    refine ⟨by rw [h1]; simp; omega, fun j r hj => h2 j r (by rw [List.getElem?_append_left (List.getElem?_eq_some_iff.1 hj).1]; exact hj), fun k q hq => ?_⟩
    cases k with
    | zero =>
     simp at hq
     subst hq
     refine ⟨mask, h2 i mask (by rw [List.getElem?_append_right (by omega)]; simp [hl]), ?_, ha⟩
     rw [Nat.add_zero, hpre]; exact hm
    | succ k =>
     have := h3 k q (by simpa using hq)
     rwa [show i + 1 + k = i + (k + 1) by omega] at this
   ·simp at h
  ·simp at h
end
end Go.Proofs.Ytiaiecfnpompcaa.Ab
