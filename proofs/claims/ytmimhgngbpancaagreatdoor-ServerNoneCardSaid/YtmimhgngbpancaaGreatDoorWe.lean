import Derived.Test.YtmimhgngbpancaaGreatDoorWd
/- Connections: what the table's methods do to one that is there. -/
set_option linter.unusedSimpArgs false
set_option linter.unusedVariables false
namespace Go.Proofs.YtmimhgngbpancaaGreatDoor
open Go.RowKit

theorem conns_takes_in (b : Nat) (cs : Array Value) (st : Int) (w : World) (hb : Blk w b cs 117) (h2 : cs[2]? = some (.int .i64 st)) :
    Calls Tryz.prog 52 #[.pointer (some ⟨b, 0, none⟩)] w fun e w' => e = .returned (.bool (decide (st < 2))) ∧ w = w' := by
  have c2 := hb.cell h2
  go_enter Tryz.func52, Tryz.ntmps52
  go_wp2_with fail
  go_ret
  exact ⟨rfl, rfl⟩

theorem LineAt.c0 {w : World} {l : Line} (h : LineAt w l) : w.cell? ⟨l.b, 0, none⟩ = some (.string l.rest) := h.blk.cell rfl
theorem LineAt.c1 {w : World} {l : Line} (h : LineAt w l) : w.cell? ⟨l.b, 1, none⟩ = some (.int .i64 l.e) := h.blk.cell rfl
theorem LineAt.c2 {w : World} {l : Line} (h : LineAt w l) : w.cell? ⟨l.b, 2, none⟩ = some (.int .i64 l.stage) := h.blk.cell rfl
theorem LineAt.c3 {w : World} {l : Line} (h : LineAt w l) : w.cell? ⟨l.b, 3, none⟩ = some (.int .i64 l.owner) := h.blk.cell rfl
theorem LineAt.c4 {w : World} {l : Line} (h : LineAt w l) : w.cell? ⟨l.b, 4, none⟩ = some l.out := h.blk.cell rfl
theorem info_str : (Tryz.prog.info? 9).map (fun i => (i.zero, i.size, i.bytes)) = some (some (.string ByteArray.empty), 1, 16) := by kernel_rfl

section
variable (s o : Nat) (v : Value) (ls : List Line) (n : Nat) (l : Line) (w : World) (hv : w.cell? ⟨s, o, none⟩ = some v) (hc : Conns w v ls) (hl : ls[n]? = some l)
include hv hc hl

theorem conns_Takes : Calls Tryz.prog 20 #[.pointer (some ⟨s, o, none⟩), .int .i64 n] w fun e w' => e = .returned (.bool (decide (l.stage < 2))) ∧ w = w' := by
  go_enter Tryz.func20, Tryz.ntmps20
  go_wp2_with fail
  refine (find_yes s o v ls n l _ hv hc hl).mono ?_
  rintro e w1 ⟨rfl, rfl⟩
  go_wp2_with fail
  refine (conns_takes_in l.b _ l.stage _ (hc.at hl).blk rfl).mono ?_
  rintro e w1 ⟨rfl, rfl⟩
  go_wp2_with fail
  go_ret
  exact ⟨rfl, rfl⟩

theorem conns_Owner : Calls Tryz.prog 47 #[.pointer (some ⟨s, o, none⟩), .int .i64 n] w fun e w' => e = .returned (.int .i64 l.owner) ∧ w = w' := by
  have c3 := (hc.at hl).c3
  go_enter Tryz.func47, Tryz.ntmps47
  go_wp2_with fail
  refine (find_yes s o v ls n l _ hv hc hl).mono ?_
  rintro e w1 ⟨rfl, rfl⟩
  go_wp2_with fail
  go_ret
  exact ⟨rfl, rfl⟩

theorem conns_Waits : Calls Tryz.prog 30 #[.pointer (some ⟨s, o, none⟩), .int .i64 n] w fun e w' => e = .returned (.int .i64 l.outs.length) ∧ w = w' := by
  have c4 := (hc.at hl).c4
  obtain ⟨a, cap, hq⟩ := (hc.at hl).que.shape
  rw [hq] at c4
  go_enter Tryz.func30, Tryz.ntmps30
  go_wp2_with fail
  refine (find_yes s o v ls n l _ hv hc hl).mono ?_
  rintro e w1 ⟨rfl, rfl⟩
  go_wp2_with fail
  go_ret
  exact ⟨rfl, rfl⟩

theorem conns_Broken : Calls Tryz.prog 22 #[.pointer (some ⟨s, o, none⟩), .int .i64 n] w fun e w' => e = .returned (.int .i64 l.e) ∧ w = w' := by
  have c1 := (hc.at hl).c1
  go_enter Tryz.func22, Tryz.ntmps22
  go_wp2_with fail
  refine (find_yes s o v ls n l _ hv hc hl).mono ?_
  rintro e w1 ⟨rfl, rfl⟩
  go_wp2
  go_ret
  exact ⟨rfl, rfl⟩

theorem conns_Shut (hst : l.stage < 2) : Calls Tryz.prog 23 #[.pointer (some ⟨s, o, none⟩), .int .i64 n] w fun e w' => e = .returned (.int .i64 0) ∧ Conns w' v (ls.set n { l with stage := 2 }) ∧ Ch [l.b] w w' := by
  have hb := (hc.at hl).blk
  have c2 := (hc.at hl).c2
  have f2 := hb.free 2
  go_enter Tryz.func23, Tryz.ntmps23
  go_wp2_with fail
  refine (find_yes s o v ls n l _ hv hc hl).mono ?_
  rintro e w1 ⟨rfl, rfl⟩
  go_wp2_with fail
  refine (conns_takes_in l.b _ l.stage _ hb rfl).mono ?_
  rintro e w1 ⟨rfl, rfl⟩
  go_wp2_with fail
  go_ret
  have hch : Ch [l.b] w (w.setCell ⟨l.b, 2, none⟩ (.int .i64 2)) := (Ch.refl _ _).setCell (.inl (by simp)) _
  refine ⟨rfl, hc.turn hl hch (by simp) ⟨hb.set 2 _, (hc.at hl).que.kept hch ?_⟩ rfl (fun k hk => .inl hk), hch⟩
  intro k hk hk'
  simp at hk'
  subst hk'
  exact (hc.at hl).que.ne_blk hb (by decide) hk

/-- A text goes out on one that is not gone. -/
theorem conns_Send (x : ByteArray) (hst : l.stage < 3) (hlen : l.outs.length < 1099511627776) : Calls Tryz.prog 28 #[.pointer (some ⟨s, o, none⟩), .int .i64 n, .string x] w fun e w' => e = .returned (.int .i64 0) ∧ ∃ out', Conns w' v (ls.set n { l with out := out', outs := l.outs ++ [x] }) ∧ Ch (l.b :: qb l.out) w w' := by
  have hb := (hc.at hl).blk
  have hq := (hc.at hl).que
  have c2 := (hc.at hl).c2
  have c4 := (hc.at hl).c4
  have f4 := hb.free 4
  have hne : (l.stage == 3) = false := by simp; omega
  obtain ⟨i0, hi, hz0, hz1, hz2⟩ := info_parts info_str
  go_enter Tryz.func28, Tryz.ntmps28
  go_wp2_with fail
  refine (find_yes s o v ls n l _ hv hc hl).mono ?_
  rintro e w1 ⟨rfl, rfl⟩
  go_wp2_with (at_builtin; refine wpList_append_que _ rfl _ _ 115 rfl 9 i0 (.string ByteArray.empty) 1 16 Tryz.underlying115 hi hz0 hz1 hz2 rfl (by decide) l.out l.outs.length (l.outs.map Value.string) rfl (hq.alloc _) ⟨w.heap.size, 0, none⟩ 1 1 [.string x] rfl rfl (one_new _ _ _) (by simp [Value.oneCell']) (by unfold maxLen; omega) (by omega) ?_)
  intro v' w1 hq' hch hfr
  obtain ⟨g', off', cap', hv', _⟩ := hq'.some (by omega)
  have hb1 : Blk w1 l.b (lineCells l) 117 := hch.blk (hb.alloc _) (hq.ne_blk hb (by decide))
  have d4 := hb1.cell (i := 4) (v := l.out) rfl
  have g4 := hb1.free 4
  rw [hv']
  go_wp2_with fail
  go_ret
  rw [← hv']
  have hch1 : Ch (l.b :: qb l.out) w w1 := ((Ch.refl [] w).alloc _).nil.trans (hch.mono (fun k hk => List.mem_cons_of_mem _ hk))
  have hch2 : Ch (l.b :: qb l.out) w (w1.setCell ⟨l.b, 4, none⟩ v') := hch1.setCell (.inl (by simp)) _
  have hnb : l.b ∉ qb v' := hq'.ne_blk hb1 (by decide)
  refine ⟨rfl, v', hc.turn hl hch2 (fun k hk => by simpa using hk) ⟨hb1.set 4 _, ?_⟩ rfl (fun k hk => by rcases hfr k hk with h | h; exact .inl h; right; omega), hch2⟩
  have := hq'.kept (S := [l.b]) ((Ch.refl [l.b] w1).setCell (p := ⟨l.b, 4, none⟩) (.inl (by simp)) v') (fun k hk hk' => by simp at hk'; subst hk'; exact hnb hk)
  simpa using this
end
end Go.Proofs.YtmimhgngbpancaaGreatDoor
