import Derived.Test.YtmimhgngbpancaaGreatDoorBa
import Derived.WideMake
/- Maps that are keyed by ints, by their raw entries. -/
set_option linter.unusedSimpArgs false
namespace Go.Proofs.YtmimhgngbpancaaGreatDoor
open Go.RowKit

/-- Block r is the map of these entries now. -/
def setMap (w : World) (r : Nat) (es : Array MapEntry) (clock : Nat) : World := { w with heap := w.heap.setIfInBounds r (.map es clock) }
def IsMap (w : World) (r : Nat) (es : Array MapEntry) (clock : Nat) : Prop := w.heap[r]? = some (.map es clock)

theorem IsMap.lt {w : World} {r : Nat} {es : Array MapEntry} {c : Nat} (h : IsMap w r es c) : r < w.heap.size := (Array.getElem?_eq_some_iff.1 h).1
theorem IsMap.new (w : World) (es : Array MapEntry) (c : Nat) : IsMap (w.alloc (.map es c)) w.heap.size es c := by
  unfold IsMap
  show (w.heap.push _)[w.heap.size]? = _
  rw [Array.getElem?_push, if_pos rfl]
theorem IsMap.alloc {w : World} {r : Nat} {es : Array MapEntry} {c : Nat} (h : IsMap w r es c) (o : Obj) : IsMap (w.alloc o) r es c := by
  have := h.lt
  unfold IsMap at *
  rw [Below.heap_alloc _ _ _ this]; exact h
theorem IsMap.set_cell {w : World} {r : Nat} {es : Array MapEntry} {c : Nat} (h : IsMap w r es c) {a : Addr} (hne : r ≠ a.block) (v : Value) : IsMap (w.setCell a v) r es c := by
  unfold IsMap at *
  rw [Below.heap_setCell _ _ _ _ hne]; exact h
theorem IsMap.set {w : World} {r : Nat} {es : Array MapEntry} {c : Nat} (h : IsMap w r es c) (es' : Array MapEntry) (c' : Nat) : IsMap (setMap w r es' c') r es' c' := by
  have := h.lt
  unfold IsMap setMap
  simp [this]
theorem Ch.map {S : List Nat} {w w' : World} (h : Ch S w w') {r : Nat} {es : Array MapEntry} {c : Nat} (hb : IsMap w r es c) (hn : r ∉ S) : IsMap w' r es c := by
  have := h.block r hb.lt hn
  unfold IsMap at *
  rw [this]; exact hb
theorem Blk.set_map {w : World} {b : Nat} {cs : Array Value} {t : TypeId} (h : Blk w b cs t) {r : Nat} (hne : b ≠ r) (es : Array MapEntry) (c : Nat) : Blk (setMap w r es c) b cs t := by
  unfold Blk setMap at *
  simp [Ne.symm hne, h]
theorem Ch.setMap {S : List Nat} {a w : World} (h : Ch S a w) {r : Nat} (hr : r ∈ S ∨ a.heap.size ≤ r) (es : Array MapEntry) (c : Nat) : Ch S a (setMap w r es c) :=
  h.step (T := [r]) ⟨rfl, rfl, rfl, by simp [Proofs.YtmimhgngbpancaaGreatDoor.setMap], fun k _ hn => by simp at hn; simp [Proofs.YtmimhgngbpancaaGreatDoor.setMap, Ne.symm hn]⟩ (by intro x hx; simp at hx; subst hx; exact hr)
@[go_sem, simp] theorem size_setMap (w : World) (r : Nat) (es : Array MapEntry) (c : Nat) : (setMap w r es c).heap.size = w.heap.size := by simp [setMap]
/-- A block that is a row is no map. -/
theorem Blk.ne_map {w : World} {b r : Nat} {cs : Array Value} {t : TypeId} {es : Array MapEntry} {c : Nat} (h : Blk w b cs t) (hm : IsMap w r es c) : b ≠ r := by
  rintro rfl
  unfold Blk at h
  unfold IsMap at hm
  rw [h] at hm
  cases hm
theorem Blk.ne_type {w : World} {b b' : Nat} {cs cs' : Array Value} {t t' : TypeId} (h : Blk w b cs t) (h' : Blk w b' cs' t') (ht : t ≠ t') : b ≠ b' := by
  rintro rfl
  unfold Blk at *
  rw [h] at h'
  simp at h'
  exact ht h'.2

theorem run_insert_int {P : Program} {T K E : TypeId} (hT : P.underlying T = some (.map K E)) (hK : P.underlying K = some (.int .i64)) {w : World} {r : Nat} {es : Array MapEntry} {c : Nat} (hm : IsMap w r es c) (n : Int) (v : Value)
    (hno : Instr.findNow (.int .i64) (.int .i64 n) es.toList 0 = some none) :
    (Instr.mapUpdate T (.map (some r)) (.int .i64 n) v).run P w = .ok () (setMap w r (es.push { key := .int .i64 n, val := v, born := c }) (c + 1)) := by
  have hc : (Instr.checkKey false 10000 K (.int .i64 n)).run P w = .ok () w := MapKept.run_checkKey (k := .int .i64 n) hK (by simp [MapKept.IsKey]) false 9999
  simp [Instr.mapUpdate, run_underlying hT, MapKept.run_getObj_map hm, hc, MapKept.run_findKey hK hno, MapKept.run_setObj_map _ hm, Result.andThen, setMap]

theorem run_lookup_int {P : Program} {T K E : TypeId} (hT : P.underlying T = some (.map K E)) (hK : P.underlying K = some (.int .i64)) {w : World} {r : Nat} {es : Array MapEntry} {c : Nat} (hm : IsMap w r es c) (n : Int) (i : Nat) (v : Value)
    (hf : Instr.findNow (.int .i64) (.int .i64 n) es.toList 0 = some (some (i, v))) :
    (Instr.lookup T (.map (some r)) (.int .i64 n) false).run P w = .ok v w := by
  have hc : ∀ b, (Instr.checkKey b 10000 K (.int .i64 n)).run P w = .ok () w := fun b => MapKept.run_checkKey (k := .int .i64 n) hK (by simp [MapKept.IsKey]) b 9999
  simp [Instr.lookup, run_underlying hT, MapKept.run_getObj_map hm, hc, MapKept.run_findKey hK hf, Result.andThen]

theorem run_lookup_int_none {P : Program} {T K E : TypeId} (hT : P.underlying T = some (.map K E)) (hK : P.underlying K = some (.int .i64)) {w : World} {r : Nat} {es : Array MapEntry} {c : Nat} (hm : IsMap w r es c) (n : Int) (z : Value)
    (hz : (zeroValue E).run P w = .ok z w) (hf : Instr.findNow (.int .i64) (.int .i64 n) es.toList 0 = some none) :
    (Instr.lookup T (.map (some r)) (.int .i64 n) false).run P w = .ok z w := by
  have hc : ∀ b, (Instr.checkKey b 10000 K (.int .i64 n)).run P w = .ok () w := fun b => MapKept.run_checkKey (k := .int .i64 n) hK (by simp [MapKept.IsKey]) b 9999
  simp [Instr.lookup, run_underlying hT, MapKept.run_getObj_map hm, hc, MapKept.run_findKey hK hf, hz, Result.andThen]
end Go.Proofs.YtmimhgngbpancaaGreatDoor
