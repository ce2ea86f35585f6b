import Derived.Test.YtmimhgngbpancaaGreatDoorWu
/- A server without tenants: what is handed out on a connection of nobody; one more connection. -/
set_option linter.unusedSimpArgs false
set_option linter.unusedVariables false
namespace Go.Proofs.YtmimhgngbpancaaGreatDoor
open Go.RowKit

set_option maxRecDepth 100000 in
set_option maxHeartbeats 1000000 in
theorem paid_none (B s tb tm tn g : Nat) (v : Value) (now : Int) (ls : List Line) (n : Nat) (l : Line) (r : Nat) (w : World) (hV : Srv B w s tb tm tn g v now) (hc : Conns w v ls) (hl : ls[n]? = some l) (how : l.owner = -1) (hr : r ≤ 1099511627776) :
    Calls Tryz.prog 32 #[.pointer (some ⟨s, 0, none⟩), .int .i64 n, .int .i64 r] w fun e w' => e = .returned (.tuple #[]) ∧ Dr w w' := by
  have hlook : ∀ nq, (Instr.lookup 72 (.map (some tm)) (.int .i64 (-1)) false).run Tryz.prog (w.drewN nq) = .ok (.pointer none) (w.drewN nq) := fun nq =>
    run_lookup_int_none (P := Tryz.prog) Tryz.underlying72 Tryz.underlying3 (show IsMap (w.drewN nq) tm _ _ from hV.map) (-1) (.pointer none) (by kernel_rfl) rfl
  have c80 := hV.srv.cell (i := 80) (v := .map (some tm)) rfl
  go_enter Tryz.func32, Tryz.ntmps32
  go_wp2_with fail
  go_quiet ((go_at_call 47; exact quiet_eq (how ▸ conns_Owner s 67 v ls n l _ ((hV.kept ((Ch.refl [] w).drewN _) (by simp) (by simp) (by simp) (by simp)).srv.cell (i := 67) (v := v) rfl) (hc.kept ((Ch.refl [] w).drewN _) (by simp) (by simp)) hl)))
  go_wp2_with fail
  go_loop [18] (fun i => ∃ k : Nat, k ≤ r ∧ i = .int .i64 k) (fun i => r - (intOf i).toNat)
  case atStart => exact ⟨0, Nat.zero_le _, rfl⟩
  case round =>
    obtain ⟨k, hk, rfl⟩ := hrel
    by_cases hlt : k < r
    · have hx : (k : Int) < (r : Int) := by omega
      go_wp2
      go_round
      case rel => exact ⟨k + 1, by omega, by go_num⟩
      case measure => simp [intOf]; omega
    · have hx : ¬ (k : Int) < (r : Int) := by omega
      go_wp2
      go_end0
      exact ⟨rfl, Dr.mk _ _⟩

theorem paid_none_int (B s tb tm tn g : Nat) (v : Value) (now : Int) (ls : List Line) (n : Nat) (l : Line) (r : Int) (w : World) (hV : Srv B w s tb tm tn g v now) (hc : Conns w v ls) (hl : ls[n]? = some l) (how : l.owner = -1) (h0 : 0 ≤ r) (hr : r ≤ 1099511627776) :
    Calls Tryz.prog 32 #[.pointer (some ⟨s, 0, none⟩), .int .i64 n, .int .i64 r] w fun e w' => e = .returned (.tuple #[]) ∧ Dr w w' := by
  obtain ⟨m, rfl⟩ := Int.eq_ofNat_of_zero_le h0
  exact paid_none B s tb tm tn g v now ls n l m w hV hc hl how (by omega)

theorem set_get (ls : List Line) (n : Nat) (l l' : Line) (hl : ls[n]? = some l) : (ls.set n l')[n]? = some l' := by
  have := (List.getElem?_eq_some_iff.1 hl).1
  simp [this]

set_option maxHeartbeats 1000000 in
theorem deliver_text (B s tb tm tn g : Nat) (v : Value) (now : Int) (ls : List Line) (n : Nat) (l : Line) (x : ByteArray) (xs : List ByteArray) (w : World) (hV : Srv B w s tb tm tn g v now) (hc : Conns w v ls) (hl : ls[n]? = some l) (hst : l.stage < 3) (how : l.owner = -1) (hlen : l.outs.length < 1099511627776) (ho : l.outs = x :: xs) :
    Calls Tryz.prog 8 #[.pointer (some ⟨s, 0, none⟩), .int .i64 n] w fun e w' => e = .returned (.tuple #[.string x, .bool false, .int .i64 0]) ∧ ∃ out', Srv B w' s tb tm tn g v now ∧ Conns w' v (ls.set n { l with out := out', outs := xs }) ∧ Ch [l.b] w w' := by
  have hlen2 : xs.length < 1099511627776 := by rw [ho] at hlen; simp at hlen; omega
  go_enter Tryz.func8, Tryz.ntmps8
  go_wp2_with fail
  refine (conns_Waits s 67 v ls n l w (hV.srv.cell (i := 67) (v := v) rfl) hc hl).mono ?_
  rintro e w1 ⟨rfl, rfl⟩
  go_wp2_with fail
  refine (conns_Deliver_text s 67 v ls n l w (hV.srv.cell (i := 67) (v := v) rfl) hc hl x xs hst ho).mono ?_
  rintro e w1 ⟨rfl, out', hc1, hch1⟩
  have hch1' : Ch (foot ls) w w1 := hch1.mono (fun k hk => line_foot hl k (by simp at hk; subst hk; simp))
  have hV1 := hV.kept_foot hc hch1' (fun k h => h)
  have hl1 := set_get ls n l { l with out := out', outs := xs } hl
  go_wp2_with fail
  refine (conns_Waits s 67 v _ n _ w1 (hV1.srv.cell (i := 67) (v := v) rfl) hc1 hl1).mono ?_
  rintro e w2 ⟨rfl, rfl⟩
  go_wp2_with fail
  rw [show ((xs.length : Int) + 1 - xs.length) = 1 by omega]
  refine (paid_none_int B s tb tm tn g v now _ n _ 1 w1 hV1 hc1 hl1 how (by omega) (by omega)).mono ?_
  rintro e w2 ⟨rfl, nd, rfl⟩
  go_wp2_with fail
  go_ret3
  exact ⟨rfl, out', hV1.kept ((Ch.refl [] w1).drewN _) (by simp) (by simp) (by simp) (by simp), hc1.kept ((Ch.refl [] w1).drewN _) (by simp) (by simp), hch1.drewN _⟩

set_option maxHeartbeats 1000000 in
theorem deliver_shut (B s tb tm tn g : Nat) (v : Value) (now : Int) (ls : List Line) (n : Nat) (l : Line) (w : World) (hV : Srv B w s tb tm tn g v now) (hc : Conns w v ls) (hl : ls[n]? = some l) (hst : l.stage = 2) (how : l.owner = -1) (ho : l.outs = []) :
    Calls Tryz.prog 8 #[.pointer (some ⟨s, 0, none⟩), .int .i64 n] w fun e w' => e = .returned (.tuple #[.string ByteArray.empty, .bool true, .int .i64 0]) ∧ Srv B w' s tb tm tn g v now ∧ Conns w' v (ls.set n { l with stage := 3 }) ∧ Ch [l.b] w w' := by
  have hz : l.outs.length = 0 := by rw [ho]; rfl
  go_enter Tryz.func8, Tryz.ntmps8
  go_wp2_with fail
  refine (conns_Waits s 67 v ls n l w (hV.srv.cell (i := 67) (v := v) rfl) hc hl).mono ?_
  rintro e w1 ⟨rfl, rfl⟩
  go_wp2_with fail
  refine (conns_Deliver_shut s 67 v ls n l w (hV.srv.cell (i := 67) (v := v) rfl) hc hl hst ho).mono ?_
  rintro e w1 ⟨rfl, hc1, hch1⟩
  have hch1' : Ch (foot ls) w w1 := hch1.mono (fun k hk => line_foot hl k (by simp at hk; subst hk; simp))
  have hV1 := hV.kept_foot hc hch1' (fun k h => h)
  have hl1 := set_get ls n l { l with stage := 3 } hl
  go_wp2_with fail
  refine (conns_Waits s 67 v _ n _ w1 (hV1.srv.cell (i := 67) (v := v) rfl) hc1 hl1).mono ?_
  rintro e w2 ⟨rfl, rfl⟩
  go_wp2_with fail
  refine (paid_none_int B s tb tm tn g v now _ n _ 0 w1 hV1 hc1 hl1 how (by omega) (by omega)).mono ?_
  rintro e w2 ⟨rfl, nd, rfl⟩
  go_wp2_with fail
  go_ret3
  exact ⟨rfl, hV1.kept ((Ch.refl [] w1).drewN _) (by simp) (by simp) (by simp) (by simp), hc1.kept ((Ch.refl [] w1).drewN _) (by simp) (by simp), hch1.drewN _⟩

theorem server_open (B s tb tm tn g : Nat) (v : Value) (now : Int) (ls : List Line) (w : World) (hV : Srv B w s tb tm tn g v now) (hc : Conns w v ls) (hlen : ls.length < 16) :
    Calls Tryz.prog 5 #[.pointer (some ⟨s, 0, none⟩)] w fun e w' => e = .returned (.tuple #[.int .i64 ls.length, .int .i64 0]) ∧ ∃ v' b, Srv B w' s tb tm tn g v' now ∧ Conns w' v' (ls ++ [newLine b]) ∧ Ch (s :: qb v) w w' ∧ w.heap.size ≤ b := by
  go_enter Tryz.func5, Tryz.ntmps5
  go_wp2_with fail
  refine (conns_Open s 67 _ 74 v ls w hV.srv rfl hc hlen (by decide) (by decide) (by decide)).mono ?_
  rintro e w1 ⟨rfl, v', b, hc1, hb1, hch1, hbw, hfr⟩
  go_wp2_with fail
  go_ret2
  have hq : ∀ k, k ∈ s :: qb v → k ≠ tm ∧ k ≠ tn ∧ k ≠ g := by
    intro k hk
    rcases List.mem_cons.1 hk with rfl | hk
    · exact ⟨hV.srv.ne_map hV.map, hV.srv.ne_type hV.ten (by decide), hV.srv.ne_type hV.gate (by decide)⟩
    · exact ⟨fun h => hc.que.ne_map hV.map (h ▸ hk), fun h => hc.que.ne_blk hV.ten (by decide) (h ▸ hk), fun h => hc.que.ne_blk hV.gate (by decide) (h ▸ hk)⟩
  refine ⟨rfl, v', b, ⟨?_, hch1.map hV.map (fun h => (hq _ h).1 rfl), hch1.blk hV.ten (fun h => (hq _ h).2.1 rfl), hch1.blk hV.gate (fun h => (hq _ h).2.2 rfl), hV.b1, hV.b2, hV.b3, hV.b4⟩, hc1, hch1, hbw⟩
  have e : (srvCells tb tm v now).setIfInBounds 67 v' = srvCells tb tm v' now := by simp [srvCells]
  rw [← e]; exact hb1
end Go.Proofs.YtmimhgngbpancaaGreatDoor
