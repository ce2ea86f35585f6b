import Derived.Test.YtmimhgngbpancaaGreatDoorWc
import Derived.Test.YtmimhgngbpancaaGreatDoorWg
import Derived.Test.YtmimhgngbpancaaGreatDoorWi
import Derived.Test.YtmimhgngbpancaaGreatDoorWm
import Derived.Test.YtmimhgngbpancaaGreatDoorWq
/- A server without tenants: what comes on a connection. -/
set_option linter.unusedSimpArgs false
set_option linter.unusedVariables false
namespace Go.Proofs.YtmimhgngbpancaaGreatDoor
open Go.RowKit

theorem Srv.kept_foot {B : Nat} {w w' : World} {s tb tm tn g : Nat} {lines : Value} {now : Int} {v : Value} {ls : List Line} (h : Srv B w s tb tm tn g lines now) (hc : Conns w v ls) {S : List Nat} (hch : Ch S w w') (hS : ∀ k, k ∈ S → k ∈ foot ls) : Srv B w' s tb tm tn g lines now := by
  have hn : ∀ k, k ∈ S → k ≠ s ∧ k ≠ tm ∧ k ≠ tn ∧ k ≠ g := by
    intro k hk
    rcases foot_blk hc k (hS k hk) with ⟨cs, hb⟩ | ⟨cs, hb⟩
    · exact ⟨hb.ne_type h.srv (by decide), hb.ne_map h.map, hb.ne_type h.ten (by decide), hb.ne_type h.gate (by decide)⟩
    · exact ⟨hb.ne_type h.srv (by decide), hb.ne_map h.map, hb.ne_type h.ten (by decide), hb.ne_type h.gate (by decide)⟩
  exact h.kept hch (fun hk => (hn _ hk).1 rfl) (fun hk => (hn _ hk).2.1 rfl) (fun hk => (hn _ hk).2.2.1 rfl) (fun hk => (hn _ hk).2.2.2 rfl)

theorem line_foot {ls : List Line} {n : Nat} {l : Line} (hl : ls[n]? = some l) : ∀ k, k ∈ (l.b :: qb l.out) → k ∈ foot ls :=
  fun k hk => List.mem_flatMap.2 ⟨l, List.mem_of_getElem? hl, hk⟩

/-- Table.Push on a connection that takes bytes in. -/
theorem conns_Push (s o : Nat) (v : Value) (ls : List Line) (n : Nat) (l : Line) (w : World) (x : ByteArray) (hv : w.cell? ⟨s, o, none⟩ = some v) (hc : Conns w v ls) (hl : ls[n]? = some l) (hst : l.stage < 2) (he : l.e = 0) (hlen : l.rest.size + x.size ≤ 1099511627776) :
    Calls Tryz.prog 19 #[.pointer (some ⟨s, o, none⟩), .int .i64 n, .string x] w fun e w' => ∃ u, e = .returned (.tuple #[u, .int .i64 0]) ∧ Conns w' v (ls.set n { l with rest := (feed (l.rest ++ x)).2.1, e := (feed (l.rest ++ x)).2.2 }) ∧ Que w' 84 3 u (feed (l.rest ++ x)).1.length (frs (feed (l.rest ++ x)).1) ∧ (∀ k, k ∈ qb u → w.heap.size ≤ k) ∧ Ch [l.b] w w' := by
  have hb := (hc.at hl).blk
  have hq := (hc.at hl).que
  go_enter Tryz.func19, Tryz.ntmps19
  go_wp2_with fail
  refine (find_yes s o v ls n l _ hv hc hl).mono ?_
  rintro e w1 ⟨rfl, rfl⟩
  go_wp2_with fail
  refine (conns_takes_in l.b _ l.stage _ hb rfl).mono ?_
  rintro e w1 ⟨rfl, rfl⟩
  go_wp2_with fail
  refine (feed_push l.b (lineCells l) 117 l.rest x w hb rfl (by rw [← he]; rfl) (by decide) hlen).mono ?_
  rintro e w1 ⟨u, rfl, hb1, hq1, hf1, hc1⟩
  go_wp2_with fail
  go_ret2
  refine ⟨u, rfl, hc.turn hl hc1 (by simp) ⟨?_, hq.kept hc1 ?_⟩ rfl (fun k hk => .inl hk), hq1, hf1, hc1⟩
  · have e : feedTo (lineCells l) (feed (l.rest ++ x)).2.1 (feed (l.rest ++ x)).2.2 = lineCells { l with rest := (feed (l.rest ++ x)).2.1, e := (feed (l.rest ++ x)).2.2 } := by
      simp [feedTo, lineCells]
    rw [← e]; exact hb1
  · intro k hk hk'
    simp at hk'
    subst hk'
    exact hq.ne_blk hb (by decide) hk
end Go.Proofs.YtmimhgngbpancaaGreatDoor
