/- A map by its entries: look-ups and updates where each comparison of keys is settled. No program in sight. -/
import Derived.Test.YtkkajcakgihckaaBase
import Derived.MapKept
import Derived.Maps.OwnIn
import Derived.WideLaws
import Derived.Lib.Hide
namespace Go.Proofs.Ytkkajcakgihckaa
open Go.RowKit Go.MapKept

section
variable {P : Program} {w : World} {t k e : TypeId} {d : TypeDesc} {b clock : Nat} {es : Array MapEntry} {key val z v : Value}

theorem run_lookup_hit (hm : P.underlying t = some (.map k e)) (hd : P.underlying k = some d) (hb : w.heap[b]? = some (.map es clock)) (hk : IsKey d key) {i : Nat} (hf : Instr.findNow d key es.toList 0 = some (some (i, v))) :
    (Instr.lookup t (.map (some b)) key true).run P w = .ok (.tuple #[v, .bool true]) w ∧ (Instr.lookup t (.map (some b)) key false).run P w = .ok v w := by
  have h1 : (Instr.checkKey es.isEmpty 10000 k key).run P w = .ok () w := run_checkKey hd hk es.isEmpty 9999
  have h2 := run_findKey (P := P) (w := w) hd hf
  have h3 : (getObj b).run P w = .ok (.map es clock) w := MapKept.run_getObj_map hb
  constructor <;> simp [Instr.lookup, run_underlying hm, h3, h1, h2, Result.andThen]
theorem run_lookup_miss (hm : P.underlying t = some (.map k e)) (hd : P.underlying k = some d) (hb : w.heap[b]? = some (.map es clock)) (hk : IsKey d key) (hf : Instr.findNow d key es.toList 0 = some none) (hz : (zeroValue e).run P w = .ok z w) :
    (Instr.lookup t (.map (some b)) key true).run P w = .ok (.tuple #[z, .bool false]) w ∧ (Instr.lookup t (.map (some b)) key false).run P w = .ok z w := by
  have h1 : (Instr.checkKey es.isEmpty 10000 k key).run P w = .ok () w := run_checkKey hd hk es.isEmpty 9999
  have h2 := run_findKey (P := P) (w := w) hd hf
  have h3 : (getObj b).run P w = .ok (.map es clock) w := MapKept.run_getObj_map hb
  constructor <;> simp [Instr.lookup, run_underlying hm, h3, h1, h2, hz, Result.andThen]
theorem run_mapUpdate_fresh (hm : P.underlying t = some (.map k e)) (hd : P.underlying k = some d) (hb : w.heap[b]? = some (.map es clock)) (hk : IsKey d key) (hf : Instr.findNow d key es.toList 0 = some none) :
    (Instr.mapUpdate t (.map (some b)) key val).run P w = .ok () { w with heap := w.heap.setIfInBounds b (.map (es.push { key, val, born := clock }) (clock + 1)) } := by
  have h1 : (Instr.checkKey false 10000 k key).run P w = .ok () w := run_checkKey hd hk false 9999
  have h2 := run_findKey (P := P) (w := w) hd hf
  have h3 : (getObj b).run P w = .ok (.map es clock) w := MapKept.run_getObj_map hb
  simp [Instr.mapUpdate, run_underlying hm, h3, h1, h2, run_setObj_map _ hb, Result.andThen]
/-- .. of a map that was made last. -/
theorem run_mapUpdate_last (hm : P.underlying t = some (.map k e)) (hd : P.underlying k = some d) (hk : IsKey d key) (hf : Instr.findNow d key es.toList 0 = some none) :
    (Instr.mapUpdate t (.map (some w.heap.size)) key val).run P (w.alloc (.map es clock)) = .ok () (w.alloc (.map (es.push { key, val, born := clock }) (clock + 1))) := by
  rw [run_mapUpdate_fresh hm hd (heap_alloc_new w _) hk hf]
  have hp : (w.heap.push (.map es clock)).setIfInBounds w.heap.size (.map (es.push { key, val, born := clock }) (clock + 1)) = w.heap.push (.map (es.push { key, val, born := clock }) (clock + 1)) := by
    apply Array.ext'
    simp [Array.setIfInBounds]
  exact congrArg (fun h => Result.ok () { w with heap := h }) hp
end
end Go.Proofs.Ytkkajcakgihckaa
