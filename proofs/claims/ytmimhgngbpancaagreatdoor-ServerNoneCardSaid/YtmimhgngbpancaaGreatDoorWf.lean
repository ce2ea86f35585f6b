import Derived.Test.YtmimhgngbpancaaGreatDoorWe
/- Connections: what is handed out; one more is opened. -/
set_option linter.unusedSimpArgs false
set_option linter.unusedVariables false
namespace Go.Proofs.YtmimhgngbpancaaGreatDoor
open Go.RowKit

/-- What is left behind the first. -/
theorem Que.tail {w : World} {E : TypeId} {g off n cap : Nat} {x : Value} {xs : List Value} (h : Que w E 1 (.slice (Option.some ⟨g, off, none⟩) (n + 1) cap) (n + 1) (x :: xs)) :
    Que w E 1 (.slice (if cap = 1 then Option.some ⟨g, off, none⟩ else Option.some ⟨g, off + 1, none⟩) n (cap - 1)) n xs := by
  obtain ⟨h1, h2⟩ := h
  rcases h2 with ⟨hv, _⟩ | ⟨g', off', cap', cs, hv, hn, hb, hs, hx⟩
  · cases hv
  · simp only [Value.slice.injEq, Option.some.injEq, Addr.mk.injEq] at hv
    obtain ⟨⟨rfl, rfl, _⟩, _, rfl⟩ := hv
    refine ⟨by simpa using h1, .inr ?_⟩
    by_cases hc : cap = 1
    · subst hc
      obtain rfl : n = 0 := by omega
      obtain rfl : xs = [] := List.eq_nil_of_length_eq_zero (by simpa using h1)
      exact ⟨g, off, 0, cs, by simp, by omega, hb, by omega, fun j u hj => by simp at hj⟩
    · refine ⟨g, off + 1, cap - 1, cs, by simp [hc], by omega, hb, by omega, fun j u hj => ?_⟩
      have := hx (j + 1) u (by simpa using hj)
      rwa [show off + (j + 1) = off + 1 + j by omega] at this

section
variable (s o : Nat) (v : Value) (ls : List Line) (n : Nat) (l : Line) (w : World) (hv : w.cell? ⟨s, o, none⟩ = some v) (hc : Conns w v ls) (hl : ls[n]? = some l)
include hv hc hl

theorem conns_Deliver_shut (hst : l.stage = 2) (ho : l.outs = []) : Calls Tryz.prog 31 #[.pointer (some ⟨s, o, none⟩), .int .i64 n] w fun e w' => e = .returned (.tuple #[.string ByteArray.empty, .bool true, .int .i64 0]) ∧ Conns w' v (ls.set n { l with stage := 3 }) ∧ Ch [l.b] w w' := by
  have hb := (hc.at hl).blk
  have c2 := (hc.at hl).c2
  have f2 := hb.free 2
  have c4 := (hc.at hl).c4
  obtain ⟨a, cap, hq⟩ := (hc.at hl).que.shape
  rw [ho] at hq
  rw [hq] at c4
  rw [hst] at c2
  have hq' := (hc.at hl).que
  clear hst ho hq
  go_enter Tryz.func31, Tryz.ntmps31
  go_wp2_with fail
  refine (find_yes s o v ls n l _ hv hc hl).mono ?_
  rintro e w1 ⟨rfl, rfl⟩
  go_wp2_with fail
  go_ret3
  have hch : Ch [l.b] w (w.setCell ⟨l.b, 2, none⟩ (.int .i64 3)) := (Ch.refl _ _).setCell (.inl (by simp)) _
  refine ⟨rfl, hc.turn hl hch (by simp) ⟨hb.set 2 _, hq'.kept hch ?_⟩ rfl (fun k hk => .inl hk), hch⟩
  intro k hk hk'
  simp at hk'
  subst hk'
  exact hq'.ne_blk hb (by decide) hk

omit hv in
theorem out_set (V : Value) (xs : List ByteArray) (hq : Que w 9 1 V xs.length (xs.map Value.string)) (hs : ∀ k, k ∈ qb V → k ∈ qb l.out) :
    (∃ out', Conns (w.setCell ⟨l.b, 4, none⟩ V) v (ls.set n { l with out := out', outs := xs })) ∧ Ch [l.b] w (w.setCell ⟨l.b, 4, none⟩ V) := by
  have hb := (hc.at hl).blk
  have hch : Ch [l.b] w (w.setCell ⟨l.b, 4, none⟩ V) := (Ch.refl _ _).setCell (.inl (by simp)) _
  refine ⟨⟨V, hc.turn hl hch (by simp) ⟨hb.set 4 _, hq.kept hch ?_⟩ rfl (fun k hk => .inl (hs k hk))⟩, hch⟩
  intro k hk hk'
  simp at hk'
  subst hk'
  exact hq.ne_blk hb (by decide) hk

theorem conns_Deliver_text (x : ByteArray) (xs : List ByteArray) (hst : l.stage < 3) (ho : l.outs = x :: xs) : Calls Tryz.prog 31 #[.pointer (some ⟨s, o, none⟩), .int .i64 n] w fun e w' => e = .returned (.tuple #[.string x, .bool false, .int .i64 0]) ∧ ∃ out', Conns w' v (ls.set n { l with out := out', outs := xs }) ∧ Ch [l.b] w w' := by
  have hb := (hc.at hl).blk
  have c2 := (hc.at hl).c2
  have c4 := (hc.at hl).c4
  have f4 := hb.free 4
  have hq := (hc.at hl).que
  have hne : (l.stage == 3) = false := by simp; omega
  rw [ho] at hq
  obtain ⟨g, off, cap, hv', hcap, hcell, hfr⟩ := hq.some (by simp)
  have hx := hcell 0 (.string x) (by simp)
  simp only [Nat.add_zero] at hx
  rw [hv'] at c4 hq
  simp only [List.length_cons, List.map_cons] at hq c4 hcap
  have ht := hq.tail
  have h1 : (0 : Int) < (xs.length + 1 : Int) := by omega
  have h2 : ¬ (cap : Int) < 1 := by omega
  go_enter Tryz.func31, Tryz.ntmps31
  go_wp2_with fail
  refine (find_yes s o v ls n l _ hv hc hl).mono ?_
  rintro e w1 ⟨rfl, rfl⟩
  have ho' : qb l.out = [g] := by rw [hv']; rfl
  go_wp2_with fail
  all_goals
    go_ret3
    refine ⟨rfl, out_set v ls n l w hc hl _ xs ?_ ?_⟩
  · have hc1 : cap = 1 := by omega
    subst hc1
    simpa using ht
  · rw [ho']; simp [qb]
  · have hc1 : ¬ cap = 1 := by omega
    simpa [hc1] using ht
  · rw [ho']; simp [qb]
end
end Go.Proofs.YtmimhgngbpancaaGreatDoor
