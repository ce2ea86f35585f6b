import Derived.Test.YtmimhgngbpancaaGreatDoorWj
/- Bytes, piece by piece. -/
set_option linter.unusedSimpArgs false
set_option linter.unusedVariables false
namespace Go.Proofs.YtmimhgngbpancaaGreatDoor
open Go.RowKit

theorem rd_read (b : ByteArray) (w : World) : Calls Tryz.prog 141 #[.string b] w fun e w' => e = .returned (.pointer (some ⟨w.heap.size, 0, none⟩)) ∧ Blk w' w.heap.size (rdCells ⟨b, 0, 0⟩) 300 ∧ Ch [] w w' := by
  go_enter Tryz.func141, Tryz.ntmps141
  go_wp2_with fail
  go_ret
  exact ⟨rfl, Blk.new _ _ _, (Ch.refl _ _).alloc _⟩

theorem rd_done (rb : Nat) (r : Rd) (w : World) (hb : Blk w rb (rdCells r) 300) : Calls Tryz.prog 143 #[.pointer (some ⟨rb, 0, none⟩)] w fun e w' => e = .returned (.int .i64 (doneE r)) ∧ Dr w w' := by
  have c0 := hb.cell (i := 0) (v := .string r.b) rfl
  have c1 := hb.cell (i := 1) (v := .int .i64 r.at_) rfl
  have c2 := hb.cell (i := 2) (v := .int .i64 r.e) rfl
  by_cases he : r.e = 0
  · have heq : doneE r = if r.at_ < r.b.size then 1 else 0 := by unfold doneE; rw [if_neg (by simpa using he)]
    have hb : (r.e != 0) = false := by simpa using he
    have HQ := Lib.hid heq
    clear heq he
    go_enter Tryz.func143, Tryz.ntmps143
    go_wp2_with fail
    go_quiet (fail)
    go_wp2_with fail
    all_goals go_ret
    all_goals refine ⟨?_, Dr.mk _ _⟩
    · rw [HQ.out, if_pos (by assumption)]; rfl
    · rw [HQ.out, if_neg (by omega)]; rfl
  · have heq : doneE r = r.e := by unfold doneE; rw [if_pos he]
    have hb : (r.e != 0) = true := by simpa using he
    have HQ := Lib.hid heq
    clear heq he
    go_enter Tryz.func143, Tryz.ntmps143
    go_wp2_with fail
    go_ret
    exact ⟨by rw [HQ.out]; rfl, Dr.refl _⟩

set_option maxRecDepth 100000 in
set_option maxHeartbeats 1000000 in
theorem spantake_num (rb : Nat) (r : Rd) (w : World) (hb : Blk w rb (rdCells r) 300) (hat : r.at_ ≤ r.b.size) (hsz : r.b.size ≤ 9223372036854775807) : Calls Tryz.prog 177 #[.pointer (some ⟨rb, 0, none⟩), .func (.func 178) #[] #[]] w fun e w' => e = .returned (.int .u64 (numV r)) ∧ Blk w' rb (rdCells (numR r)) 300 ∧ Ch [rb] w w' := by
  have c0 := hb.cell (i := 0) (v := .string r.b) rfl
  have c1 := hb.cell (i := 1) (v := .int .i64 r.at_) rfl
  have c2 := hb.cell (i := 2) (v := .int .i64 r.e) rfl
  have f1 := hb.free 1
  have f2 := hb.free 2
  have hat' : (r.at_ : Int) ≤ (r.b.size : Int) := by omega
  have hls : (r.b.extract r.at_ r.b.size).size = r.b.size - r.at_ := r.left_size hat
  have hk : 0 ≤ (vtake (r.b.extract r.at_ r.b.size)).2.1 ∧ (vtake (r.b.extract r.at_ r.b.size)).2.1 ≤ (r.b.extract r.at_ r.b.size).size := vtake_le _
  have hov : wrap64 ((r.at_ : Int) + (vtake (r.b.extract r.at_ r.b.size)).2.1) = (r.at_ : Int) + (vtake (r.b.extract r.at_ r.b.size)).2.1 := by unfold wrap64; omega
  by_cases he : r.e = 0
  · have heb : (r.e != 0) = false := by simpa using he
    by_cases ht : (vtake (r.b.extract r.at_ r.b.size)).2.2 = 0
    · have htb : ((vtake (r.b.extract r.at_ r.b.size)).2.2 != 0) = false := by simpa using ht
      have hv : numV r = (vtake (r.b.extract r.at_ r.b.size)).1 := Rd.pick_ok he ht
      have hr : numR r = ⟨r.b, r.at_ + ((vtake (r.b.extract r.at_ r.b.size)).2.1).toNat, r.e⟩ := Rd.on_ok he ht
      rw [hv, hr]
      have HT := Lib.hid ht
      clear he hv hr ht
      go_enter Tryz.func177, Tryz.ntmps177
      go_wp2_with fail
      go_quiet ((go_at_call 178; exact quiet_eq (vtake_any _ _ (by rw [ByteArray.size_extract]; omega))))
      go_wp2_with fail
      go_ret
      have hs := (hb.drewN nq).set 1 (.int .i64 ((r.at_ : Int) + (vtake (r.b.extract r.at_ r.b.size)).2.1))
      have hk0 : 0 ≤ (vtake (r.b.extract r.at_ r.b.size)).2.1 := hk.1
      have e1 : (rdCells r).setIfInBounds 1 (.int .i64 ((r.at_ : Int) + (vtake (r.b.extract r.at_ r.b.size)).2.1)) = rdCells ⟨r.b, r.at_ + ((vtake (r.b.extract r.at_ r.b.size)).2.1).toNat, r.e⟩ := by
        have : ((r.at_ + ((vtake (r.b.extract r.at_ r.b.size)).2.1).toNat : Nat) : Int) = (r.at_ : Int) + (vtake (r.b.extract r.at_ r.b.size)).2.1 := by omega
        simp [rdCells, this]
      rw [e1] at hs
      exact ⟨rfl, hs, ((Ch.refl [rb] w).drewN _).setCell (.inl (by simp)) _⟩
    · have htb : ((vtake (r.b.extract r.at_ r.b.size)).2.2 != 0) = true := by simpa using ht
      have hv : numV r = 0 := Rd.pick_fail he ht
      have hr : numR r = ⟨r.b, r.at_, (vtake (r.b.extract r.at_ r.b.size)).2.2⟩ := Rd.on_fail he ht
      rw [hv, hr]
      have HT := Lib.hid ht
      clear he hv hr ht
      go_enter Tryz.func177, Tryz.ntmps177
      go_wp2_with fail
      go_quiet ((go_at_call 178; exact quiet_eq (vtake_any _ _ (by rw [ByteArray.size_extract]; omega))))
      go_wp2_with fail
      go_ret
      exact ⟨rfl, (hb.drewN nq).set 2 (.int .i64 (vtake (r.b.extract r.at_ r.b.size)).2.2), ((Ch.refl [rb] w).drewN _).setCell (.inl (by simp)) _⟩
  · have heb : (r.e != 0) = true := by simpa using he
    have hv : numV r = 0 := Rd.pick_bad he
    have hr : numR r = r := Rd.on_bad he
    rw [hv, hr]
    clear he hv hr
    go_enter Tryz.func177, Tryz.ntmps177
    go_wp2_with fail
    go_ret
    exact ⟨rfl, hb, Ch.refl _ _⟩

theorem rd_num (rb : Nat) (r : Rd) (w : World) (hb : Blk w rb (rdCells r) 300) (hat : r.at_ ≤ r.b.size) (hsz : r.b.size ≤ 9223372036854775807) : Calls Tryz.prog 142 #[.pointer (some ⟨rb, 0, none⟩)] w fun e w' => e = .returned (.int .u64 (numV r)) ∧ Blk w' rb (rdCells (numR r)) 300 ∧ Ch [rb] w w' := by
  go_enter Tryz.func142, Tryz.ntmps142
  go_wp2_with fail
  refine (spantake_num rb r _ hb hat hsz).mono ?_
  rintro e w1 ⟨rfl, hb1, hc1⟩
  go_wp2_with fail
  go_ret
  exact ⟨rfl, hb1, hc1⟩

theorem max_zero {n : Int} (h : 0 ≤ n) : max n 0 = n := by omega
set_option maxRecDepth 100000 in
/-- (*Reader).Int's closure. -/
theorem rd_int1 (b : ByteArray) (m : Nat) (most : Int) (w : World) (hb : b.size ≤ 9223372036854775807) (hm : w.cell? ⟨m, 0, none⟩ = some (.int .i64 most)) (h0 : 0 ≤ most) (h1 : most ≤ 9223372036854775807) :
    Calls Tryz.prog 216 #[.string b, .pointer (some ⟨m, 0, none⟩)] w fun e w' => e = .returned (.tuple #[.int .i64 (wrap64 (vtake b).1), .int .i64 (vtake b).2.1, .int .i64 (intE b most)]) ∧ w = w' := by
  have hr := vtake_range b
  have hmx := max_zero h0
  by_cases he : (vtake b).2.2 = 0
  · have heb : ((vtake b).2.2 == 0) = true := by simpa using he
    by_cases hn : most < (vtake b).1
    · have hq : intE b most = 3 := by unfold intE; rw [if_pos ⟨he, by omega⟩]
      rw [hq]
      clear he hq
      have HM := Lib.hid hmx
      clear hmx
      go_enter Tryz.func216, Tryz.ntmps216
      go_wp2_with fail
      refine (vtake_any b _ hb).mono ?_
      rintro e w1 ⟨rfl, rfl⟩
      go_wp2_with fail
      go_ret3
      exact ⟨rfl, rfl⟩
    · have hq : intE b most = (vtake b).2.2 := by unfold intE; rw [if_neg (by omega)]
      rw [hq]
      clear he hq
      have HM := Lib.hid hmx
      clear hmx
      go_enter Tryz.func216, Tryz.ntmps216
      go_wp2_with fail
      refine (vtake_any b _ hb).mono ?_
      rintro e w1 ⟨rfl, rfl⟩
      go_wp2_with fail
      go_ret3
      refine ⟨ret3g ?_ ?_ ?_, rfl⟩
      · unfold wrap64; omega
      · rfl
      · rfl
  · have heb : ((vtake b).2.2 == 0) = false := by simpa using he
    have hq : intE b most = (vtake b).2.2 := by unfold intE; rw [if_neg (by omega)]
    rw [hq]
    clear he hq
    go_enter Tryz.func216, Tryz.ntmps216
    go_wp2_with fail
    refine (vtake_any b _ hb).mono ?_
    rintro e w1 ⟨rfl, rfl⟩
    go_wp2_with fail
    go_ret3
    exact ⟨rfl, rfl⟩
end Go.Proofs.YtmimhgngbpancaaGreatDoor
