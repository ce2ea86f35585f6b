import Derived.Test.YtmimhgngbpancaaGreatDoorWf
/- Connections: one more is opened. -/
set_option linter.unusedSimpArgs false
set_option linter.unusedVariables false
namespace Go.Proofs.YtmimhgngbpancaaGreatDoor
open Go.RowKit

theorem info_ptrline : (Tryz.prog.info? 111).map (fun i => (i.zero, i.size, i.bytes)) = some (some (.pointer none), 1, 8) := by kernel_rfl
/-- A connection as it is opened. -/
def newLine (b : Nat) : Line := { b := b, rest := ByteArray.empty, e := 0, stage := 0, owner := -1, out := .slice none 0 0, outs := [] }

theorem Conns.opened {w w' : World} {v v' : Value} {ls : List Line} {b : Nat} (h : Conns w v ls) {S : List Nat} (hc : Ch S w w') (h1 : ∀ k, k ∈ foot ls → k ∉ S) (hq : Que w' 111 1 v' (ls.length + 1) (ptrs ls ++ [.pointer (some ⟨b, 0, none⟩)])) (hl : LineAt w' (newLine b)) (hb : w.heap.size ≤ b) : Conns w' v' (ls ++ [newLine b]) := by
  refine ⟨by simpa [ptrs, newLine] using hq, fun l hl' => ?_, ?_⟩
  · rcases List.mem_append.1 hl' with h' | h'
    · exact (h.lines l h').kept hc (h1 _ (List.mem_flatMap.2 ⟨l, h', by simp⟩)) (fun k hk => h1 _ (List.mem_flatMap.2 ⟨l, h', by simp [hk]⟩))
    · simp at h'; subst h'; exact hl
  · have : foot (ls ++ [newLine b]) = foot ls ++ [b] := by simp [foot, newLine, qb]
    rw [this, List.nodup_append]
    refine ⟨h.apart, by simp, fun x hx y hy e => ?_⟩
    simp at hy
    have := foot_lt h x hx
    omega

theorem foot_blk {w : World} {v : Value} {ls : List Line} (h : Conns w v ls) : ∀ k, k ∈ foot ls → (∃ cs, Blk w k cs 117) ∨ ∃ cs, Blk w k cs 9 := by
  intro k hk
  obtain ⟨l, hl, hk⟩ := List.mem_flatMap.1 hk
  rcases List.mem_cons.1 hk with rfl | hk
  · exact .inl ⟨_, (h.lines l hl).blk⟩
  · obtain ⟨_, q2⟩ := (h.lines l hl).que
    rcases q2 with ⟨hv, _⟩ | ⟨g, off, cap, cs, hv, _, hbk, _⟩
    · rw [hv] at hk; simp [qb] at hk
    · rw [hv] at hk; simp [qb] at hk; subst hk; exact .inr ⟨_, hbk⟩
theorem foot_que {w : World} {v : Value} {ls : List Line} (h : Conns w v ls) : ∀ k, k ∈ foot ls → k ∉ qb v := by
  intro k hk
  rcases foot_blk h k hk with ⟨cs, hb⟩ | ⟨cs, hb⟩
  · exact h.que.ne_blk hb (by decide)
  · exact h.que.ne_blk hb (by decide)

theorem conns_Open (s o : Nat) (cs : Array Value) (T : TypeId) (v : Value) (ls : List Line) (w : World) (hb : Blk w s cs T) (hv : cs[o]? = some v) (hc : Conns w v ls) (hlen : ls.length < 16) (hT : T ≠ 111) (hT2 : T ≠ 117) (hT3 : T ≠ 9) :
    Calls Tryz.prog 18 #[.pointer (some ⟨s, o, none⟩)] w fun e w' => e = .returned (.tuple #[.int .i64 ls.length, .int .i64 0]) ∧ ∃ v' b, Conns w' v' (ls ++ [newLine b]) ∧ Blk w' s (cs.setIfInBounds o v') T ∧ Ch (s :: qb v) w w' ∧ w.heap.size ≤ b ∧ ∀ k, k ∈ qb v' → k ∈ qb v ∨ w.heap.size ≤ k := by
  have cv := hb.cell hv
  have fv := hb.free o
  obtain ⟨a, cap, hq⟩ := hc.que.shape
  have cv' := cv
  rw [hq] at cv'
  have h16 : ¬ ((ls.length : Int) ≥ 16) := by omega
  obtain ⟨i0, hi, hz0, hz1, hz2⟩ := info_parts info_ptrline
  have hQ := Lib.hid hq
  clear hq cv
  go_enter Tryz.func18, Tryz.ntmps18
  go_wp2_with (at_builtin; refine wpList_append_que _ rfl _ _ 58 rfl 111 i0 (.pointer none) 1 8 Tryz.underlying58 hi hz0 hz1 hz2 rfl (by decide) _ ls.length (ptrs ls) rfl (hQ.out ▸ (hc.que.alloc _).alloc _) ⟨w.heap.size + 1, 0, none⟩ 1 1 [.pointer (some ⟨w.heap.size, 0, none⟩)] rfl rfl ?_ (by simp [Value.oneCell']) (by unfold maxLen; omega) (by omega) ?_)
  intro v' w1 hq' hch hfr
  rw [← hQ.out] at hch hfr
  have hn1 : s ∉ qb v := hc.que.ne_blk hb hT
  have hn2 : w.heap.size ∉ qb v := fun hk => by have := hc.que.lt _ hk; omega
  have hb1 : Blk w1 s cs T := hch.blk ((hb.alloc _).alloc _) hn1
  have hl1 : LineAt w1 (newLine w.heap.size) := ⟨hch.blk ((Blk.new w _ _).alloc _) hn2, Que.nil _ _ _⟩
  obtain ⟨g', off', cap', hv', _⟩ := hq'.some (by omega)
  have d := hb1.cell hv
  have fd := hb1.free o
  have d2 := (hb1.set o v').cell (i := o) (v := v') (by simp [Array.getElem?_setIfInBounds]; exact (Array.getElem?_eq_some_iff.1 hv).1)
  rw [hv'] at d2
  rw [hv']
  go_wp2_with fail
  go_ret2
  rw [← hv']
  have hch1 : Ch (s :: qb v) w w1 := (((Ch.refl [] w).alloc _).alloc _).nil.trans (hch.mono (fun k hk => List.mem_cons_of_mem _ hk))
  have hch2 : Ch (s :: qb v) w (w1.setCell ⟨s, o, none⟩ v') := hch1.setCell (.inl (by simp)) _
  have hs : Ch [s] w1 (w1.setCell ⟨s, o, none⟩ v') := (Ch.refl _ _).setCell (.inl (by simp)) _
  refine ⟨by simp, v', w.heap.size, hc.opened hch2 ?_ (hq'.kept hs ?_) (hl1.kept hs ?_ (by simp [newLine, qb])) (Nat.le_refl _), hb1.set o _, hch2, Nat.le_refl _, fun k hk => by rcases hfr k hk with h | h; exact .inl h; right; omega⟩
  · intro k hk hk'
    rcases List.mem_cons.1 hk' with rfl | hk'
    · rcases foot_blk hc _ hk with ⟨cs', hb'⟩ | ⟨cs', hb'⟩
      · exact hb.ne_type hb' hT2 rfl
      · exact hb.ne_type hb' hT3 rfl
    · exact foot_que hc k hk hk'
  · intro k hk hk'
    simp at hk'; subst hk'
    exact hq'.ne_blk hb1 hT hk
  · simp [newLine]; have := hb.lt; omega
end Go.Proofs.YtmimhgngbpancaaGreatDoor
