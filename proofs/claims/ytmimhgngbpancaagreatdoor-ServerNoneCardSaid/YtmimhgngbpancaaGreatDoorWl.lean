import Derived.Test.YtmimhgngbpancaaGreatDoorWk
/- Bytes, piece by piece: small numbers. -/
set_option linter.unusedSimpArgs false
set_option linter.unusedVariables false
namespace Go.Proofs.YtmimhgngbpancaaGreatDoor
open Go.RowKit

set_option maxRecDepth 100000 in
set_option maxHeartbeats 1000000 in
theorem spantake_int (rb : Nat) (r : Rd) (m : Nat) (most : Int) (w : World) (hb : Blk w rb (rdCells r) 300) (hat : r.at_ ≤ r.b.size) (hsz : r.b.size ≤ 9223372036854775807) (hm : w.cell? ⟨m, 0, none⟩ = some (.int .i64 most)) (hm0 : 0 ≤ most) (hm1 : most ≤ 9223372036854775807) : Calls Tryz.prog 215 #[.pointer (some ⟨rb, 0, none⟩), .func (.func 216) #[] #[.pointer (some ⟨m, 0, none⟩)]] w fun e w' => e = .returned (.int .i64 (intV r most)) ∧ Blk w' rb (rdCells (intR r most)) 300 ∧ Ch [rb] w w' := by
  have c0 := hb.cell (i := 0) (v := .string r.b) rfl
  have c1 := hb.cell (i := 1) (v := .int .i64 r.at_) rfl
  have c2 := hb.cell (i := 2) (v := .int .i64 r.e) rfl
  have f1 := hb.free 1
  have f2 := hb.free 2
  have hat' : (r.at_ : Int) ≤ (r.b.size : Int) := by omega
  have hls : (r.b.extract r.at_ r.b.size).size = r.b.size - r.at_ := r.left_size hat
  have hk : 0 ≤ (vtake (r.b.extract r.at_ r.b.size)).2.1 ∧ (vtake (r.b.extract r.at_ r.b.size)).2.1 ≤ (r.b.extract r.at_ r.b.size).size := vtake_le _
  have hov : wrap64 ((r.at_ : Int) + (vtake (r.b.extract r.at_ r.b.size)).2.1) = (r.at_ : Int) + (vtake (r.b.extract r.at_ r.b.size)).2.1 := by unfold wrap64; omega
  by_cases he : r.e = 0
  · have heb : (r.e != 0) = false := by simpa using he
    by_cases ht : (intE (r.b.extract r.at_ r.b.size) most) = 0
    · have htb : ((intE (r.b.extract r.at_ r.b.size) most) != 0) = false := by simpa using ht
      have hv : intV r most = wrap64 (vtake (r.b.extract r.at_ r.b.size)).1 := Rd.pick_ok he ht
      have hr : intR r most = ⟨r.b, r.at_ + ((vtake (r.b.extract r.at_ r.b.size)).2.1).toNat, r.e⟩ := Rd.on_ok he ht
      rw [hv, hr]
      have HT := Lib.hid ht
      clear he hv hr ht
      go_enter Tryz.func215, Tryz.ntmps215
      go_wp2_with fail
      go_quiet ((go_at_call 216; exact quiet_eq (rd_int1 _ m most _ (by rw [ByteArray.size_extract]; omega) hm hm0 hm1)))
      go_wp2_with fail
      go_ret
      have hs := (hb.drewN nq).set 1 (.int .i64 ((r.at_ : Int) + (vtake (r.b.extract r.at_ r.b.size)).2.1))
      have hk0 : 0 ≤ (vtake (r.b.extract r.at_ r.b.size)).2.1 := hk.1
      have e1 : (rdCells r).setIfInBounds 1 (.int .i64 ((r.at_ : Int) + (vtake (r.b.extract r.at_ r.b.size)).2.1)) = rdCells ⟨r.b, r.at_ + ((vtake (r.b.extract r.at_ r.b.size)).2.1).toNat, r.e⟩ := by
        have : ((r.at_ + ((vtake (r.b.extract r.at_ r.b.size)).2.1).toNat : Nat) : Int) = (r.at_ : Int) + (vtake (r.b.extract r.at_ r.b.size)).2.1 := by omega
        simp [rdCells, this]
      rw [e1] at hs
      exact ⟨rfl, hs, ((Ch.refl [rb] w).drewN _).setCell (.inl (by simp)) _⟩
    · have htb : ((intE (r.b.extract r.at_ r.b.size) most) != 0) = true := by simpa using ht
      have hv : intV r most = 0 := Rd.pick_fail he ht
      have hr : intR r most = ⟨r.b, r.at_, (intE (r.b.extract r.at_ r.b.size) most)⟩ := Rd.on_fail he ht
      rw [hv, hr]
      have HT := Lib.hid ht
      clear he hv hr ht
      go_enter Tryz.func215, Tryz.ntmps215
      go_wp2_with fail
      go_quiet ((go_at_call 216; exact quiet_eq (rd_int1 _ m most _ (by rw [ByteArray.size_extract]; omega) hm hm0 hm1)))
      go_wp2_with fail
      go_ret
      exact ⟨rfl, (hb.drewN nq).set 2 (.int .i64 (intE (r.b.extract r.at_ r.b.size) most)), ((Ch.refl [rb] w).drewN _).setCell (.inl (by simp)) _⟩
  · have heb : (r.e != 0) = true := by simpa using he
    have hv : intV r most = 0 := Rd.pick_bad he
    have hr : intR r most = r := Rd.on_bad he
    rw [hv, hr]
    clear he hv hr
    go_enter Tryz.func215, Tryz.ntmps215
    go_wp2_with fail
    go_ret
    exact ⟨rfl, hb, Ch.refl _ _⟩

theorem rd_int (rb : Nat) (r : Rd) (most : Int) (w : World) (hb : Blk w rb (rdCells r) 300) (hat : r.at_ ≤ r.b.size) (hsz : r.b.size ≤ 9223372036854775807) (hm0 : 0 ≤ most) (hm1 : most ≤ 9223372036854775807) : Calls Tryz.prog 169 #[.pointer (some ⟨rb, 0, none⟩), .int .i64 most] w fun e w' => e = .returned (.int .i64 (intV r most)) ∧ Blk w' rb (rdCells (intR r most)) 300 ∧ Ch [rb] w w' := by
  go_enter Tryz.func169, Tryz.ntmps169
  go_wp2_with fail
  refine (spantake_int rb r w.heap.size most _ (hb.alloc _) hat hsz ((Blk.new _ _ _).cell (i := 0) rfl) hm0 hm1).mono ?_
  rintro e w1 ⟨rfl, hb1, hc1⟩
  go_wp2_with fail
  go_ret
  exact ⟨rfl, hb1, ((Ch.refl _ _).alloc _).trans hc1⟩
end Go.Proofs.YtmimhgngbpancaaGreatDoor
