import Derived.Test.YtmimhgngbpancaaGreatDoorWa
import Derived.Test.YtmimhgngbpancaaGreatDoorBq
/- Connections: what a table of lines is, and its readers. -/
set_option linter.unusedSimpArgs false
set_option linter.unusedVariables false
namespace Go.Proofs.YtmimhgngbpancaaGreatDoor
open Go.RowKit

/-- A connection, and where it lies. -/
structure Line where
  b : Nat
  rest : ByteArray
  e : Int
  stage : Int
  owner : Int
  out : Value
  outs : List ByteArray

def lineCells (l : Line) : Array Value := #[.string l.rest, .int .i64 l.e, .int .i64 l.stage, .int .i64 l.owner, l.out]
structure LineAt (w : World) (l : Line) : Prop where
  blk : Blk w l.b (lineCells l) 117
  que : Que w 9 1 l.out l.outs.length (l.outs.map Value.string)
def ptrs (ls : List Line) : List Value := ls.map fun l => .pointer (some ⟨l.b, 0, none⟩)
def foot (ls : List Line) : List Nat := ls.flatMap fun l => l.b :: qb l.out
structure Conns (w : World) (v : Value) (ls : List Line) : Prop where
  que : Que w 111 1 v ls.length (ptrs ls)
  lines : ∀ l ∈ ls, LineAt w l
  apart : (foot ls).Nodup

theorem LineAt.kept {w w' : World} {l : Line} (h : LineAt w l) {S : List Nat} (hc : Ch S w w') (h1 : l.b ∉ S) (h2 : ∀ k, k ∈ qb l.out → k ∉ S) : LineAt w' l := ⟨hc.blk h.blk h1, h.que.kept hc h2⟩
theorem Conns.kept {w w' : World} {v : Value} {ls : List Line} (h : Conns w v ls) {S : List Nat} (hc : Ch S w w') (h1 : ∀ k, k ∈ foot ls → k ∉ S) (h2 : ∀ k, k ∈ qb v → k ∉ S) : Conns w' v ls :=
  ⟨h.que.kept hc h2, fun l hl => (h.lines l hl).kept hc (h1 _ (List.mem_flatMap.2 ⟨l, hl, by simp⟩)) (fun k hk => h1 _ (List.mem_flatMap.2 ⟨l, hl, by simp [hk]⟩)), h.apart⟩
theorem ptrs_get {ls : List Line} {n : Nat} {l : Line} (h : ls[n]? = some l) : (ptrs ls)[n]? = some (.pointer (some ⟨l.b, 0, none⟩)) := by simp [ptrs, h]
theorem Conns.at {w : World} {v : Value} {ls : List Line} (h : Conns w v ls) {n : Nat} {l : Line} (hl : ls[n]? = some l) : LineAt w l := h.lines l (List.mem_of_getElem? hl)


theorem foot_lt {w : World} {v : Value} {ls : List Line} (h : Conns w v ls) : ∀ k, k ∈ foot ls → k < w.heap.size := by
  intro k hk
  obtain ⟨l, hl, hk⟩ := List.mem_flatMap.1 hk
  rcases List.mem_cons.1 hk with rfl | hk
  · exact (h.lines l hl).blk.lt
  · exact (h.lines l hl).que.lt k hk

theorem nodup_set (f : Line → List Nat) {ls : List Line} {n : Nat} {l l' : Line} (hn : (ls.flatMap f).Nodup) (hl : ls[n]? = some l) (h1 : (f l').Nodup) (h2 : ∀ k, k ∈ f l' → k ∈ f l ∨ k ∉ ls.flatMap f) : ((ls.set n l').flatMap f).Nodup := by
  have hlt : n < ls.length := (List.getElem?_eq_some_iff.1 hl).1
  have e1 : ls = ls.take n ++ l :: ls.drop (n + 1) := by
    have : ls[n] = l := by simpa [hlt] using hl
    rw [← this, List.getElem_cons_drop, List.take_append_drop]
  have e2 : ls.set n l' = ls.take n ++ l' :: ls.drop (n + 1) := by
    rw [List.set_eq_take_append_cons_drop, if_pos hlt]
  rw [e2]
  rw [e1] at hn h2
  simp only [List.flatMap_append, List.flatMap_cons] at hn h2 ⊢
  rw [List.nodup_append] at hn ⊢
  obtain ⟨a1, a2, a3⟩ := hn
  rw [List.nodup_append] at a2
  obtain ⟨b1, b2, b3⟩ := a2
  refine ⟨a1, ?_, ?_⟩
  · rw [List.nodup_append]
    refine ⟨h1, b2, fun x hx y hy e => ?_⟩
    subst e
    rcases h2 x hx with h | h
    · exact b3 x h x hy rfl
    · exact h (List.mem_append_right _ (List.mem_append_right _ hy))
  · intro x hx y hy e
    subst e
    rcases List.mem_append.1 hy with hy | hy
    · rcases h2 x hy with h | h
      · exact a3 x hx x (List.mem_append_left _ h) rfl
      · exact h (List.mem_append_left _ hx)
    · exact a3 x hx x (List.mem_append_right _ hy) rfl

/-- One connection has turned. -/
theorem Conns.turn {w w' : World} {v : Value} {ls : List Line} (h : Conns w v ls) {n : Nat} {l l' : Line} (hl : ls[n]? = some l) {S : List Nat} (hc : Ch S w w') (hS : ∀ k, k ∈ S → k = l.b ∨ k ∈ qb l.out) (hat : LineAt w' l') (hb : l'.b = l.b)
    (hq : ∀ k, k ∈ qb l'.out → k ∈ qb l.out ∨ w.heap.size ≤ k) : Conns w' v (ls.set n l') := by
  have hlt : n < ls.length := (List.getElem?_eq_some_iff.1 hl).1
  have hlm : l ∈ ls := List.mem_of_getElem? hl
  refine ⟨?_, fun l2 hl2 => ?_, ?_⟩
  · have e : ptrs (ls.set n l') = ptrs ls := by
      unfold ptrs
      rw [List.map_set, hb]
      refine List.ext_getElem? fun i => ?_
      rw [List.getElem?_set]
      split
      · rename_i hi
        subst hi
        have e3 : ls[n] = l := (List.getElem?_eq_some_iff.1 hl).2
        simp [hlt, e3]
      · rfl
    rw [e, List.length_set]
    refine h.que.kept hc (fun k hk hkS => ?_)
    rcases hS k hkS with rfl | hk2
    · exact (h.que.ne_blk (h.lines l hlm).blk (by decide)) hk
    · obtain ⟨_, q2⟩ := (h.lines l hlm).que
      rcases q2 with ⟨hv, _⟩ | ⟨g, off, cap, cs, hv, _, hbk, _⟩
      · rw [hv] at hk2; simp [qb] at hk2
      · rw [hv] at hk2; simp [qb] at hk2; subst hk2
        exact (h.que.ne_blk hbk (by decide)) hk
  · obtain ⟨i, hi⟩ := List.mem_iff_getElem?.1 hl2
    rw [List.getElem?_set] at hi
    split at hi
    · rename_i hin
      first | (rw [if_pos (by omega)] at hi; cases hi; exact hat) | (cases hi; exact hat)
    · rename_i hin
      have hm2 : l2 ∈ ls := List.mem_of_getElem? hi
      have hdis : ∀ k, k ∈ l2.b :: qb l2.out → k ∉ l.b :: qb l.out := by
        intro k hk hk'
        have hp := List.pairwise_flatMap.1 (show List.Pairwise (· ≠ ·) (ls.flatMap fun l => l.b :: qb l.out) from h.apart)
        have hp2 := hp.2
        obtain ⟨hi1, hi2⟩ := List.getElem?_eq_some_iff.1 hi
        obtain ⟨hl1, hl2'⟩ := List.getElem?_eq_some_iff.1 hl
        rcases Nat.lt_or_gt_of_ne hin with hlt' | hgt
        · have := List.pairwise_iff_getElem.1 hp2 n i hl1 hi1 hlt'
          rw [hi2, hl2'] at this
          exact this k hk' k hk rfl
        · have := List.pairwise_iff_getElem.1 hp2 i n hi1 hl1 hgt
          rw [hi2, hl2'] at this
          exact this k hk k hk' rfl
      have hno : ∀ k, k ∈ l2.b :: qb l2.out → k ∉ S := fun k hk hkS => hdis k hk (by rcases hS k hkS with rfl | h'; exact List.mem_cons_self; exact List.mem_cons_of_mem _ h')
      exact (h.lines l2 hm2).kept hc (hno _ List.mem_cons_self) (fun k hk => hno k (List.mem_cons_of_mem _ hk))
  · refine nodup_set _ h.apart hl ?_ ?_
    · have hin : l'.b ∉ qb l'.out := hat.que.ne_blk hat.blk (by decide)
      refine List.nodup_cons.2 ⟨hin, ?_⟩
      cases hv : l'.out <;> simp [qb]
      rename_i a _ _
      cases a <;> simp
    · intro k hk
      rcases List.mem_cons.1 hk with rfl | hk
      · left; rw [hb]; exact List.mem_cons_self
      · rcases hq k hk with h' | h'
        · left; exact List.mem_cons_of_mem _ h'
        · right; intro hf; have := foot_lt h k hf; omega

/-- Table.find where there is such a connection -/
theorem find_yes (s o : Nat) (v : Value) (ls : List Line) (n : Nat) (l : Line) (w : World) (hv : w.cell? ⟨s, o, none⟩ = some v) (hc : Conns w v ls) (hl : ls[n]? = some l) :
    Calls Tryz.prog 51 #[.pointer (some ⟨s, o, none⟩), .int .i64 n] w fun e w' => e = .returned (.tuple #[.pointer (some ⟨l.b, 0, none⟩), .int .i64 0]) ∧ w = w' := by
  have hlt : n < ls.length := (List.getElem?_eq_some_iff.1 hl).1
  obtain ⟨g, off, cap, rfl, hcap, hcell, hfr⟩ := hc.que.some (by omega)
  have hp := hcell n _ (ptrs_get hl)
  have h0 : (0 : Int) ≤ n := by omega
  have h1 : (n : Int) < (ls.length : Int) := by omega
  go_enter Tryz.func51, Tryz.ntmps51
  go_wp2_with fail
  go_ret2
  exact ⟨rfl, rfl⟩
end Go.Proofs.YtmimhgngbpancaaGreatDoor
