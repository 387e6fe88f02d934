-- cut down, squeezed and laid together by pack.py (a program of this repository) out of this seat's texts
import Derived.WalkKit
import Derived.MapKept
import Derived.Test.YticbhgjenidjlaaZE3
import Derived.Test.YticbhgjenidjlaaZE2
namespace Go.Proofs.Yticbhgjenidjlaa.T
open Go.RowKit
def putB (w : World) (r : Nat) (o : Obj) : World := { w with heap := w.heap.setIfInBounds r o }
theorem putB_at (w : World) (r : Nat) (o : Obj) (h : r < w.heap.size) : (putB w r o).heap[r]? = some o := by simp [putB, h]
theorem putB_ne (w : World) (r k : Nat) (o : Obj) (h : k ≠ r) : (putB w r o).heap[k]? = w.heap[k]? := by
  simp only [putB, Array.getElem?_setIfInBounds]; rw [if_neg (by omega)]
theorem putB_cell (w : World) (r : Nat) (o : Obj) (a : Addr) (h : a.block ≠ r) : (putB w r o).cell? a = w.cell? a := World.cell?_of_block (w := w) (putB_ne w r a.block o h)
theorem below_putB {B : Nat} {a w : World} (h : Below B a w) {r : Nat} (hr : B ≤ r) (o : Obj) : Below B a (putB w r o) :=
  h.trans ⟨rfl, rfl, rfl, by simp [putB], fun k hk => putB_ne _ _ _ _ (by omega)⟩

theorem run_mapUpdate_new {P : Program} {w : World} {t kt et : TypeId} {td : TypeDesc} {r clock : Nat} {es : Array MapEntry} {key val : Value} (hm : P.underlying t = some (.map kt et)) (hb : w.heap[r]? = some (.map es clock))
    (hk : MapKept.IsKey td key) (ht : P.underlying kt = some td) (hf : Instr.findNow td key es.toList 0 = some none) :
    (Instr.mapUpdate t (.map (some r)) key val).run P w = .ok () (putB w r (.map (es.push ⟨key, val, clock⟩) (clock + 1))) := by
  have hc := MapKept.run_checkKey (P := P) (w := w) ht hk false 9999
  simp [Instr.mapUpdate, run_underlying hm, MapKept.run_getObj_map hb, hc, MapKept.run_findKey ht hf, MapKept.run_setObj_map _ hb, Result.andThen, putB]
theorem run_lookup_at {P : Program} {w : World} {t kt et : TypeId} {td : TypeDesc} {r clock i : Nat} {es : Array MapEntry} {key val : Value} (hm : P.underlying t = some (.map kt et)) (hb : w.heap[r]? = some (.map es clock))
    (hk : MapKept.IsKey td key) (ht : P.underlying kt = some td) (hf : Instr.findNow td key es.toList 0 = some (some (i, val))) :
    (Instr.lookup t (.map (some r)) key false).run P w = .ok val w := by
  have hc := MapKept.run_checkKey (P := P) (w := w) ht hk es.isEmpty 9999
  simp [Instr.lookup, run_underlying hm, MapKept.run_getObj_map hb, hc, MapKept.run_findKey ht hf, Result.andThen]
end Go.Proofs.Yticbhgjenidjlaa.T
