import Derived.Test.YtmimhgngbpancaaGreatDoorBa
import Derived.Laws.Tables
import Derived.Laws.Rows
import Derived.Deep.WholeRow
/- Whole structs into blocks, out of blocks, and as results. -/
set_option linter.unusedSimpArgs false
set_option linter.unusedVariables false
namespace Go.Proofs.YtmimhgngbpancaaGreatDoor
open Go.RowKit

theorem Blk.row {w : World} {b : Nat} {cs : Array Value} {t : TypeId} (h : Blk w b cs t) (cs' : Array Value) : Blk (w.setRow b cs') b cs' t := by
  unfold Blk at *
  simp [World.setRow, Array.getElem?_modify, h]
theorem Blk.row_other {w : World} {b g : Nat} {cs : Array Value} {t : TypeId} (h : Blk w b cs t) (hne : b ≠ g) (cs' : Array Value) : Blk (w.setRow g cs') b cs t := by
  unfold Blk at *
  rw [setRow_other _ _ _ _ hne]; exact h
theorem Ch.row {S : List Nat} {a w : World} (h : Ch S a w) {g : Nat} (hg : g ∈ S ∨ a.heap.size ≤ g) (cs' : Array Value) : Ch S a (w.setRow g cs') :=
  h.step (T := [g]) ⟨rfl, rfl, rfl, by simp, fun k _ hn => setRow_other _ _ _ _ (by simpa using hn)⟩ (by intro x hx; simp at hx; subst hx; exact hg)

def plainRow (P : Program) (ty : TypeId) (n : Nat) : Prop := (∃ fs, P.underlying ty = some (TypeDesc.struct fs)) ∧ (P.info? ty).map (·.size) = some n
theorem load_row {P : Program} {w : World} {g : Nat} {cs : Array Value} {t ty : TypeId} (h : Blk w g cs t) {n : Nat} (hp : plainRow P ty n) (hn : cs.size = n) : (loadVar ty ⟨g, 0, none⟩).run P w = .ok (.agg cs) w := by
  obtain ⟨⟨fs, h1⟩, h3⟩ := hp
  exact run_loadVar_row w g t ty cs (0, 0) (TypeDesc.struct fs) h h1 rfl (by rw [hn]; exact h3)

theorem loadAt_row {P : Program} {w : World} {g : Nat} {cs : Array Value} {t ty : TypeId} (h : Blk w g cs t) {n : Nat} (hp : plainRow P ty n) (hn : cs.size = n) : (Instr.loadAt ty (.pointer (some ⟨g, 0, none⟩))).run P w = .ok (.agg cs) w := by
  simp only [Instr.loadAt, Instr.sureAddr, Sem.run_bind, Sem.run_pure, Result.andThen]
  exact load_row h hp hn
theorem cells_row {P : Program} {w : World} {g : Nat} {cs : Array Value} {t : TypeId} (h : Blk w g cs t) {n : Nat} (hn : cs.size = n) : (loadCellsFrom ⟨g, 0, none⟩ 0 n #[]).run P w = .ok cs w := by
  subst hn
  have := run_loadCells_list (P := P) w ⟨g, 0, none⟩ cs.toList (fun j v hv => by
    have hadd : (⟨g, 0, none⟩ : Addr).add j = ⟨g, j, none⟩ := by unfold Addr.add; split <;> simp_all
    rw [hadd, cell_of_row _ _ j cs t (0, 0) h]
    simpa using hv)
  simpa [loadCells] using this

theorem results_row {P : Program} {fn : Func} {p : Tmp} {ty : TypeId} (h : fn.results = #[.cell p ty]) {tmps : Array Value} {w : World} {g : Nat} {cs : Array Value} {t : TypeId} {n : Nat} (hp : plainRow P ty n) (hv : tmps.getD p undef = .pointer (some ⟨g, 0, none⟩)) (hb : Blk w g cs t) (hn : cs.size = n) :
    (results fn tmps).run P w = .ok (.agg cs) w := by
  have hl := load_row hb hp hn
  have ha : (asAddr (.pointer (some ⟨g, 0, none⟩))).run P w = .ok ⟨g, 0, none⟩ w := by simp [asAddr]
  have hv' : tmps[p]?.getD undef = .pointer (some ⟨g, 0, none⟩) := by simpa using hv
  simp only [results, h]
  simp [Sem.run_bind, Result.andThen, hv', ha, hl]
theorem results_row1 {P : Program} {fn : Func} {p u : Tmp} {ty : TypeId} (h : fn.results = #[.cell p ty, .tmp u]) {tmps : Array Value} {w : World} {g : Nat} {cs : Array Value} {t : TypeId} {n : Nat} (hp : plainRow P ty n) (hv : tmps.getD p undef = .pointer (some ⟨g, 0, none⟩)) (hb : Blk w g cs t) (hn : cs.size = n) :
    (results fn tmps).run P w = .ok (.tuple #[.agg cs, tmps.getD u undef]) w := by
  have hl := load_row hb hp hn
  have ha : (asAddr (.pointer (some ⟨g, 0, none⟩))).run P w = .ok ⟨g, 0, none⟩ w := by simp [asAddr]
  have hv' : tmps[p]?.getD undef = .pointer (some ⟨g, 0, none⟩) := by simpa using hv
  simp only [results, h]
  simp [Sem.run_bind, Result.andThen, hv', ha, hl]
theorem results_row2 {P : Program} {fn : Func} {p u x : Tmp} {ty : TypeId} (h : fn.results = #[.cell p ty, .tmp u, .tmp x]) {tmps : Array Value} {w : World} {g : Nat} {cs : Array Value} {t : TypeId} {n : Nat} (hp : plainRow P ty n) (hv : tmps.getD p undef = .pointer (some ⟨g, 0, none⟩)) (hb : Blk w g cs t) (hn : cs.size = n) :
    (results fn tmps).run P w = .ok (.tuple #[.agg cs, tmps.getD u undef, tmps.getD x undef]) w := by
  have hl := load_row hb hp hn
  have ha : (asAddr (.pointer (some ⟨g, 0, none⟩))).run P w = .ok ⟨g, 0, none⟩ w := by simp [asAddr]
  have hv' : tmps[p]?.getD undef = .pointer (some ⟨g, 0, none⟩) := by simpa using hv
  simp only [results, h]
  simp [Sem.run_bind, Result.andThen, hv', ha, hl]

/-- A whole struct into a block. -/
theorem wpList_put {P : Program} {ops : Array Oper} {rest : List Oper} {o : Oper} {a : Act} {w : World} {Q : Exit → Act → World → Prop} (ty : TypeId) (x y : Operand) (ho : o.op = .store ty x y) (hw : Region.wanted o (yielded ops a.tmps) = true)
    (g : Nat) (cells : Array Value) (hx : a.eval x = .pointer (some ⟨g, 0, none⟩)) (hy : a.eval y = .agg cells)
    (t : TypeId) (old : Array Value) (hg : Blk w g old t) (n : Nat) (hp : plainRow P ty n) (ho' : old.size = n) (hn : cells.size = n) (h1 : cells.all (·.oneCell') = true)
    (h : wpList P ops Q rest (a.put o.dst undef) (w.setRow g cells)) : wpList P ops Q (o :: rest) a w :=
  wpList_step fun K hK => by
    rw [if_pos hw]
    exact wp_store_row ty x y ho g cells hx hy t old hg (by rw [hn]; exact hp.2) (by rw [ho', hn]) h1 (hK _ _ h)
/-- A whole struct out of a block. -/
theorem wpList_get {P : Program} {ops : Array Oper} {rest : List Oper} {o : Oper} {a : Act} {w : World} {Q : Exit → Act → World → Prop} (ty : TypeId) (x : Operand) (ho : o.op = .load ty x) (hw : Region.wanted o (yielded ops a.tmps) = true)
    (g : Nat) (hx : a.eval x = .pointer (some ⟨g, 0, none⟩)) (t : TypeId) (cs : Array Value) (hg : Blk w g cs t) (n : Nat) (hp : plainRow P ty n) (hn : cs.size = n)
    (h : wpList P ops Q rest (a.put o.dst (.agg cs)) w) : wpList P ops Q (o :: rest) a w := by
  obtain ⟨⟨fs, h1⟩, h3⟩ := hp
  exact wpList_step fun K hK => by
    rw [if_pos hw]
    exact wp_load_row ty x ho g hx t cs (0, 0) (TypeDesc.struct fs) hg h1 rfl (by rw [hn]; exact h3) (hK _ _ h)
theorem wp_get {P : Program} {o : Oper} {a : Act} {w : World} {K : Act → World → Prop} {Q : Exit → Act → World → Prop} (ty : TypeId) (x : Operand) (ho : o.op = .load ty x)
    (g : Nat) (hx : a.eval x = .pointer (some ⟨g, 0, none⟩)) (t : TypeId) (cs : Array Value) (hg : Blk w g cs t) (n : Nat) (hp : plainRow P ty n) (hn : cs.size = n)
    (h : K (a.put o.dst (.agg cs)) w) : o.wp P a w K Q := by
  obtain ⟨⟨fs, h1⟩, h3⟩ := hp
  exact wp_load_row ty x ho g hx t cs (0, 0) (TypeDesc.struct fs) hg h1 rfl (by rw [hn]; exact h3) h
end Go.Proofs.YtmimhgngbpancaaGreatDoor
