import Derived.Test.YtmimhgngbpancaaGreatDoorWb
import Derived.Test.YtmimhgngbpancaaGreatDoorBm
set_option linter.unusedSimpArgs false
set_option linter.unusedVariables false
namespace Go.Proofs.YtmimhgngbpancaaGreatDoor
open Go.RowKit

/-- What a server's block holds: its table of tags, dice without numbers, connections, no flows, nobody's book, tenants, ticks. -/
def srvCells (tb tm : Nat) (lines : Value) (now : Int) : Array Value :=
  #[.pointer (some ⟨tb, 0, none⟩),
    .int .u64 0, .int .u64 0, .int .u64 0, .int .u64 0, .int .u64 0, .int .u64 0, .int .u64 0, .int .u64 0, .int .u64 0, .int .u64 0, .int .u64 0, .int .u64 0, .int .u64 0, .int .u64 0, .int .u64 0, .int .u64 0,
    .int .u64 0, .int .u64 0, .int .u64 0, .int .u64 0, .int .u64 0, .int .u64 0, .int .u64 0, .int .u64 0, .int .u64 0, .int .u64 0, .int .u64 0, .int .u64 0, .int .u64 0, .int .u64 0, .int .u64 0, .int .u64 0,
    .int .u64 0, .int .u64 0, .int .u64 0, .int .u64 0, .int .u64 0, .int .u64 0, .int .u64 0, .int .u64 0, .int .u64 0, .int .u64 0, .int .u64 0, .int .u64 0, .int .u64 0, .int .u64 0, .int .u64 0, .int .u64 0,
    .int .u64 0, .int .u64 0, .int .u64 0, .int .u64 0, .int .u64 0, .int .u64 0, .int .u64 0, .int .u64 0, .int .u64 0, .int .u64 0, .int .u64 0, .int .u64 0, .int .u64 0, .int .u64 0, .int .u64 0, .int .u64 0,
    .int .i64 0, .int .i64 0, lines, .map none, .slice none 0 0,
    .slice none 0 0, .slice none 0 0, .slice none 0 0, .slice none 0 0, .slice none 0 0, .slice none 0 0, .slice none 0 0, .slice none 0 0, .slice none 0 0,
    .map none, .map (some tm), .int .i64 now]

/-- A server without tenants. -/
structure Srv (B : Nat) (w : World) (s tb tm tn g : Nat) (lines : Value) (now : Int) : Prop where
  srv : Blk w s (srvCells tb tm lines now) 74
  map : IsMap w tm #[{ key := .int .i64 0, val := .pointer (some ⟨tn, 0, none⟩), born := 0 }] 1
  ten : Blk w tn #[.pointer (some ⟨g, 0, none⟩), .pointer none] 79
  gate : Blk w g #[.int .i64 1048576, .int .i64 1048576, .int .i64 1048576, .int .i64 0, .int .i64 0, .int .i64 0, .int .i64 0, .int .i64 32, .int .i64 0, .bool false] 109
  b1 : B ≤ s
  b2 : B ≤ tm
  b3 : B ≤ tn
  b4 : B ≤ g

theorem Srv.kept {B : Nat} {w w' : World} {s tb tm tn g : Nat} {lines : Value} {now : Int} (h : Srv B w s tb tm tn g lines now) {S : List Nat} (hc : Ch S w w') (hs : s ∉ S) (hm : tm ∉ S) (ht : tn ∉ S) (hg : g ∉ S) : Srv B w' s tb tm tn g lines now :=
  ⟨hc.blk h.srv hs, hc.map h.map hm, hc.blk h.ten ht, hc.blk h.gate hg, h.b1, h.b2, h.b3, h.b4⟩

set_option maxRecDepth 100000 in
set_option maxHeartbeats 400000 in
theorem servernew (key : Int) (w : World) : Calls Tryz.prog 48 #[.int .u64 key] w fun e w' => ∃ s tb tm tn g : Nat, e = .returned (.pointer (some ⟨s, 0, none⟩)) ∧ Srv w.heap.size w' s tb tm tn g (.slice none 0 0) 0 ∧ Ch [] w w' := by
  have hmm := @run_makeMap Tryz.prog
  go_enter Tryz.func48, Tryz.ntmps48
  go_wp2_with fail
  refine (macnew _).mono ?_
  rintro e w1 ⟨rfl, ⟨ts, ht, hts, t0, t9, t10⟩, hc1⟩
  have hn1 := ht.lt
  go_wp2_with fail
  refine (confadmin _).mono ?_
  rintro e w2 ⟨rfl, hc2⟩
  go_wp2_with fail
  refine (gatenew _ _ _ _ _ _ _ _ _ _ (by omega) (by omega) (by omega) (by omega) (by omega) (by omega) (by omega) (by omega) (by omega) (by omega)).mono ?_
  rintro e w3 ⟨g, rfl, hg, hgb, hc3⟩
  have hm3 : IsMap w3 w1.heap.size #[] 0 := hc3.map (hc2.map (IsMap.new w1 #[] 0) (by simp)) (by simp)
  have hn3 := hm3.lt
  have hins := run_insert_int (P := Tryz.prog) Tryz.underlying72 Tryz.underlying3 (hm3.alloc (.cells #[.pointer (some ⟨g, 0, none⟩), .pointer none] 79)) 0 (.pointer (some ⟨w3.heap.size, 0, none⟩)) rfl
  go_wp2_with fail
  refine (dicenew _).mono ?_
  rintro e w5 ⟨rfl, ⟨cs, hd, d0, d64, d65⟩, hc5⟩
  have hsrv := hc5.blk (Blk.new _ _ _) (by simp)
  have hmap := hc5.map (((hm3.alloc (.cells #[.pointer (some ⟨g, 0, none⟩), .pointer none] 79)).set #[{ key := .int .i64 0, val := .pointer (some ⟨w3.heap.size, 0, none⟩), born := 0 }] 1).alloc _) (by simp)
  have hten := hc5.blk (((Blk.new w3 #[.pointer (some ⟨g, 0, none⟩), .pointer none] 79).set_map (by omega) _ _).alloc _) (by simp)
  have hgat := hc5.blk (((hgb.alloc _).set_map (hgb.ne_map hm3) _ _).alloc _) (by simp)
  have htab := hc5.blk ((((hc3.blk (hc2.blk (ht.alloc _) (by simp)) (by simp)).alloc _).set_map (by omega) _ _).alloc _) (by simp)
  have hw5 : Ch [] w w5 := (((((((Ch.refl [] w).trans hc1).alloc _).trans hc2).trans hc3).alloc _).setMap (.inr hc1.size) _ _ |>.alloc _).trans hc5
  simp only [size_setMap, World.size_alloc] at hsrv hd
  have hsrv' : Blk w5 (w3.heap.size + 1) (srvCells w.heap.size w1.heap.size (.slice none 0 0) 0) 74 := hsrv
  have hS : Srv w.heap.size w5 (w3.heap.size + 1) w.heap.size w1.heap.size w3.heap.size g (.slice none 0 0) 0 := ⟨hsrv', hmap, hten, hgat, by have := hc1.size; have := hc2.size; have := hc3.size; simp at *; omega, hc1.size, by have := hc1.size; have := hc2.size; have := hc3.size; simp at *; omega, by have := hc1.size; have := hc2.size; have := hc3.size; simp at *; omega⟩
  clear hsrv hsrv' hmap hten hgat hins hgb hm3
  go_wp2_with fail
  refine (diceput (w3.heap.size + 1 + 1) key cs _ hd d0 d64 d65).mono ?_
  rintro e w6 ⟨rfl, hd6, hc6⟩
  have hS6 : Srv w.heap.size w6 (w3.heap.size + 1) w.heap.size w1.heap.size w3.heap.size g (.slice none 0 0) 0 := by
    have h2 := hS.ten.ne_type hd (by decide)
    have h3 := hS.gate.ne_type hd (by decide)
    have h4 := hd.ne_map hS.map
    exact hS.kept hc6 (by simp) (by simpa using Ne.symm h4) (by simpa using h2) (by simpa using h3)
  have hdt := htab.ne_type hd (by decide)
  have ht6 : Blk w6 w.heap.size ts 229 := hc6.blk htab (by simp only [List.mem_singleton]; exact hdt)
  have hsz : 65 < cs.size := (Array.getElem?_eq_some_iff.1 d65).1
  have c0 := hS6.srv.cell (i := 0) rfl
  go_wp2_with fail
  refine (macissue w.heap.size (w3.heap.size + 1 + 1) key ts _ w6 ?_ ht6 t0 t9 t10 hd6 ?_ ?_ ?_).mono ?_
  · exact hdt
  · simp [Array.getElem?_setIfInBounds, show 0 < cs.size by omega]
  · simp [Array.getElem?_setIfInBounds, d64]
  · simp [Array.getElem?_setIfInBounds]; omega
  rintro e w7 ⟨⟨_, _, _, rfl⟩, hc7⟩
  have hS7 : Srv w.heap.size w7 (w3.heap.size + 1) w.heap.size w1.heap.size w3.heap.size g (.slice none 0 0) 0 := by
    have h1 := hS6.srv.ne_type hd6 (by decide)
    have h2 := hS6.ten.ne_type hd6 (by decide)
    have h3 := hS6.gate.ne_type hd6 (by decide)
    have h4 := hd6.ne_map hS6.map
    have k1 := hS6.srv.ne_type ht6 (by decide)
    have k2 := hS6.ten.ne_type ht6 (by decide)
    have k3 := hS6.gate.ne_type ht6 (by decide)
    have k4 := ht6.ne_map hS6.map
    refine hS6.kept hc7 ?_ ?_ ?_ ?_
    · simp only [List.mem_cons, List.mem_nil_iff, or_false]; exact fun h => h.elim k1 h1
    · simp only [List.mem_cons, List.mem_nil_iff, or_false]; exact fun h => h.elim (Ne.symm k4) (Ne.symm h4)
    · simp only [List.mem_cons, List.mem_nil_iff, or_false]; exact fun h => h.elim k2 h2
    · simp only [List.mem_cons, List.mem_nil_iff, or_false]; exact fun h => h.elim k3 h3
  go_wp2_with fail
  go_ret
  refine ⟨_, _, _, _, _, rfl, hS7, (hw5.step hc6 ?_).step hc7 ?_⟩
  · intro x hx; simp at hx; subst hx; right; have := hc1.size; have := hc2.size; have := hc3.size; simp at *; omega
  · intro x hx; simp only [List.mem_cons, List.mem_nil_iff, or_false] at hx; right; have := hc1.size; have := hc2.size; have := hc3.size; simp at *; rcases hx with rfl | rfl <;> omega
end Go.Proofs.YtmimhgngbpancaaGreatDoor
