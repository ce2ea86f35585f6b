import Derived.Test.YtmimhgngbpancaaGreatDoorWt
/- A server without tenants: bytes that are one frame, on a fresh connection. -/
set_option linter.unusedSimpArgs false
set_option linter.unusedVariables false
namespace Go.Proofs.YtmimhgngbpancaaGreatDoor
open Go.RowKit

def noteCells (n o k : Int) (body : ByteArray) (e : Int) (r : ByteArray) : List Value := [.int .i64 n, .int .i64 o, .int .i64 k, .string body, .int .i64 e, .string r]
theorem info_note : (Tryz.prog.info? 33).map (fun i => (i.zero, i.size, i.bytes)) = some (some (.agg #[.int .i64 0, .int .i64 0, .int .i64 0, .string ByteArray.empty, .int .i64 0, .string ByteArray.empty]), 6, 64) := by kernel_rfl
theorem cells_new6 (w : World) (a b c d e f : Value) (t : TypeId) : ∀ j u, [a, b, c, d, e, f][j]? = some u → (w.alloc (.cells #[a, b, c, d, e, f] t)).cell? ((⟨w.heap.size, 0, none⟩ : Addr).add j) = some u := by
  intro j u hj
  have hb := Blk.new w #[a, b, c, d, e, f] t
  match j, hj with
  | 0, hj => simp at hj; subst hj; exact hb.cell rfl
  | 1, hj => simp at hj; subst hj; exact hb.cell rfl
  | 2, hj => simp at hj; subst hj; exact hb.cell rfl
  | 3, hj => simp at hj; subst hj; exact hb.cell rfl
  | 4, hj => simp at hj; subst hj; exact hb.cell rfl
  | 5, hj => simp at hj; subst hj; exact hb.cell rfl
  | j + 6, hj => simp at hj

set_option maxRecDepth 100000 in
set_option maxHeartbeats 2000000 in
theorem recv_bad (B s tb tm tn g : Nat) (v : Value) (now : Int) (ls : List Line) (n : Nat) (l : Line) (x : ByteArray) (f : Fr) (r : ByteArray) (w : World) (hV : Srv B w s tb tm tn g v now) (hc : Conns w v ls) (hl : ls[n]? = some l) (hst : l.stage < 2) (he : l.e = 0) (how : l.owner = -1) (hlen : l.outs.length < 1099511627776)
    (hx : l.rest.size + x.size ≤ 1099511627776) (hf : feed (l.rest ++ x) = ([f], r, 0)) (hk : f.kind ≠ 1) (hb : f.body.size ≤ 9223372036854775807) (hbad : doneE (helloR f.body) ≠ 0) :
    Calls Tryz.prog 6 #[.pointer (some ⟨s, 0, none⟩), .int .i64 n, .string x] w fun e w' => ∃ u out', e = .returned (.tuple #[u, .int .i64 0]) ∧ Que w' 33 6 u 1 (noteCells n (-1) f.kind f.body 16 ByteArray.empty) ∧ Srv B w' s tb tm tn g v now ∧ Conns w' v (ls.set n (Line.refused { l with rest := r, e := 0 } out')) ∧ Ch (foot ls) w w' := by
  obtain ⟨k, fl, body⟩ := f
  have hn : n < ls.length := (List.getElem?_eq_some_iff.1 hl).1
  have HF := Lib.hid hf
  clear hf
  go_enter Tryz.func6, Tryz.ntmps6
  go_wp2_with fail
  refine (conns_Push s 67 v ls n l w x (hV.srv.cell (i := 67) (v := v) rfl) hc hl hst he hx).mono ?_
  rw [HF.out]
  rintro e w1 ⟨u, rfl, hc1, hq1, hf1, hch1⟩
  have hch1' : Ch (foot ls) w w1 := hch1.mono (fun k hk => line_foot hl k (by simp at hk; subst hk; simp))
  have hV1 := hV.kept_foot hc hch1' (fun k h => h)
  obtain ⟨g', off, cap, hu, hcap, hcell, hfr⟩ := hq1.some (show 0 < [(⟨k, fl, body⟩ : Fr)].length by simp)
  rw [hu]
  go_wp2_with fail
  have hl1 : (ls.set n { l with rest := r, e := 0 })[n]? = some { l with rest := r, e := 0 } := by simp [hn]
  have hft1 : ∀ q, q ∈ foot (ls.set n { l with rest := r, e := 0 }) → q ∈ foot ls := by
    intro q hq
    obtain ⟨l2, h2, hq2⟩ := List.mem_flatMap.1 hq
    rcases List.mem_or_eq_of_mem_set h2 with h3 | rfl
    · exact List.mem_flatMap.2 ⟨l2, h3, hq2⟩
    · exact line_foot hl q hq2
  go_loopw [10, 29] (fun o i wr => (i = .int .i64 0 ∧ o = .slice none 0 0 ∧ w1 = wr) ∨ (i = .int .i64 1 ∧ ∃ out', Que wr 33 6 o 1 (noteCells n (-1) k body 16 ByteArray.empty) ∧ Srv B wr s tb tm tn g v now ∧ Conns wr v (ls.set n (Line.refused { l with rest := r, e := 0 } out')) ∧ Ch (foot ls) w wr)) (fun _ i _ => 1 - (intOf i).toNat)
  case atStart => exact .inl ⟨rfl, rfl, rfl⟩
  case round =>
    rcases hrel with ⟨rfl, rfl, rfl⟩ | ⟨rfl, out', hqo, hVr, hcr, hchr⟩
    · have d0 := hcell 0 (.int .i64 k) rfl
      have d1 := hcell 1 (.int .i64 fl) rfl
      have d2 := hcell 2 (.string body) rfl
      simp only [Nat.add_zero] at d0
      obtain ⟨i0, hi, hz0, hz1, hz2⟩ := info_parts info_note
      go_wp2_with fail
      have hwx : Ch [] w1 (w1.alloc (.cells #[.int .i64 k, .int .i64 fl, .string body] 84)) := (Ch.refl [] w1).alloc _
      have hVx := hV1.kept hwx (by simp) (by simp) (by simp) (by simp)
      have hcx := hc1.kept hwx (by simp) (by simp)
      refine (conns_Takes s 67 v _ n _ _ (hVx.srv.cell (i := 67) (v := v) rfl) hcx hl1).mono ?_
      rintro e w2 ⟨rfl, rfl⟩
      go_wp2_with fail
      refine (come_bad B s tb tm tn g v now _ n { l with rest := r, e := 0 } k fl body _ hVx hcx hl1 hst how hlen hk hb hbad).mono ?_
      rintro e w3 ⟨rfl, out', hV3, hc3, hch3⟩
      rw [List.set_set] at hc3
      go_wp2_with (at_builtin; refine wpList_append_que _ rfl _ _ 29 rfl 33 i0 _ 6 64 Tryz.underlying29 hi hz0 hz1 hz2 rfl (by decide) (.slice none 0 0) 0 [] rfl (Que.nil _ _ _) ⟨w3.heap.size, 0, none⟩ 1 1 (noteCells n (-1) k body 16 ByteArray.empty) rfl rfl (cells_new6 _ _ _ _ _ _ _ _) (by simp [noteCells, Value.oneCell']) (by unfold maxLen; omega) (by omega) ?_)
      intro v' w4 hq4 hch4 hfr4
      have hch4' : Ch [] w3 w4 := ((Ch.refl [] w3).alloc _).trans hch4
      have hV4 := hV3.kept hch4' (by simp) (by simp) (by simp) (by simp)
      have hc4 := hc3.kept hch4' (by simp) (by simp)
      have hch : Ch (foot ls) w w4 := ((hch1'.trans hwx.nil).trans (hch3.mono hft1)).trans hch4'.nil
      go_wp2_with fail
      go_roundw
      case rel => exact .inr ⟨rfl, out', by simpa using hq4, hV4, hc4, hch⟩
      case measure => simp [intOf]
    · have hl2 : (ls.set n (Line.refused { l with rest := r, e := 0 } out'))[n]? = some (Line.refused { l with rest := r, e := 0 } out') := by simp [hn]
      go_wp2_with fail
      refine (conns_Broken s 67 v _ n _ wr (hVr.srv.cell (i := 67) (v := v) rfl) hcr hl2).mono ?_
      rintro e w3 ⟨rfl, rfl⟩
      have hz : (Line.refused { l with rest := r, e := 0 } out').e = 0 := rfl
      rw [hz]
      go_wp2_with fail
      go_ret2
      exact ⟨_, out', rfl, hqo, hVr, hcr, hchr⟩
end Go.Proofs.YtmimhgngbpancaaGreatDoor
