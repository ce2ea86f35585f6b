import Derived.Test.YtmimhgngbpancaaGreatDoorWl
/- Who one says one is. -/
set_option linter.unusedSimpArgs false
set_option linter.unusedVariables false
namespace Go.Proofs.YtmimhgngbpancaaGreatDoor
open Go.RowKit

def hello1 (b : ByteArray) : Rd := intR ⟨b, 0, 0⟩ 2147483647
def hello2 (b : ByteArray) : Rd := intR (hello1 b) 2147483647
def helloR (b : ByteArray) : Rd := numR (hello2 b)
theorem intR_fits (r : Rd) (m : Int) (h : r.at_ ≤ r.b.size) : (intR r m).b = r.b ∧ (intR r m).at_ ≤ r.b.size := ⟨r.on_b _ _, r.on_at _ _ h (vtake_le _).2⟩
theorem numR_fits (r : Rd) (h : r.at_ ≤ r.b.size) : (numR r).b = r.b ∧ (numR r).at_ ≤ r.b.size := ⟨r.on_b _ _, r.on_at _ _ h (vtake_le _).2⟩

theorem hello1_b (b : ByteArray) : (hello1 b).b = b := by unfold hello1; exact (intR_fits _ _ (Nat.zero_le _)).1
theorem hello1_at (b : ByteArray) : (hello1 b).at_ ≤ (hello1 b).b.size := by
  rw [hello1_b]; unfold hello1; exact (intR_fits ⟨b, 0, 0⟩ _ (Nat.zero_le _)).2
theorem hello2_b (b : ByteArray) : (hello2 b).b = b := by unfold hello2; rw [(intR_fits _ _ (hello1_at b)).1, hello1_b]
theorem hello2_at (b : ByteArray) : (hello2 b).at_ ≤ (hello2 b).b.size := by
  have := (intR_fits _ 2147483647 (hello1_at b)).2
  rw [hello1_b] at this
  rw [hello2_b]; exact this

set_option maxRecDepth 100000 in
set_option maxHeartbeats 1000000 in
theorem hello_take_bad (b : ByteArray) (w : World) (hb : b.size ≤ 9223372036854775807) (h : doneE (helloR b) ≠ 0) : Calls Tryz.prog 132 #[.string b] w fun e w' => e = .returned (.tuple #[.agg #[.int .i64 0, .int .i64 0, .int .u64 0], .int .i64 1]) ∧ Ch [] w w' := by
  have hd : (doneE (helloR b) != 0) = true := by simpa using h
  have k1 := hello1_at b
  have k2 := hello2_at b
  have s1 : (hello1 b).b.size ≤ 9223372036854775807 := by rw [hello1_b]; exact hb
  have s2 : (hello2 b).b.size ≤ 9223372036854775807 := by rw [hello2_b]; exact hb
  clear h
  go_enter Tryz.func132, Tryz.ntmps132
  go_wp2_with fail
  refine (rd_read b _).mono ?_
  rintro e w1 ⟨rfl, hb1, hc1⟩
  simp only [World.size_alloc] at hb1

  go_wp2_with fail

  refine (rd_int _ _ 2147483647 _ hb1 (Nat.zero_le _) hb (by omega) (by omega)).mono ?_

  rintro e w2 ⟨rfl, hb2, hc2⟩

  go_wp2_with fail
  have hb2' : Blk w2 (w.heap.size + 1) (rdCells (hello1 b)) 300 := hb2
  refine (rd_int _ (hello1 b) 2147483647 _ hb2' k1 s1 (by omega) (by omega)).mono ?_
  rintro e w3 ⟨rfl, hb3, hc3⟩
  have hb3' : Blk w3 (w.heap.size + 1) (rdCells (hello2 b)) 300 := hb3
  go_wp2_with fail
  refine (rd_num _ (hello2 b) _ hb3' k2 s2).mono ?_
  rintro e w4 ⟨rfl, hb4, hc4⟩
  have hb4' : Blk w4 (w.heap.size + 1) (rdCells (helloR b)) 300 := hb4
  go_wp2_with fail
  refine (rd_done _ (helloR b) _ (hb4'.alloc _)).mono ?_
  rintro e w5 ⟨rfl, n, rfl⟩
  have hr4 : Blk w4 w.heap.size #[.int .i64 0, .int .i64 0, .int .u64 0] 242 := hc4.blk (hc3.blk (hc2.blk (hc1.blk (Blk.new _ _ _) (by simp)) (by simp)) (by simp)) (by simp)
  have q0 := hr4.cell (i := 0) (v := .int .i64 0) rfl
  have q1 := hr4.cell (i := 1) (v := .int .i64 0) rfl
  have q2 := hr4.cell (i := 2) (v := .int .u64 0) rfl
  have g0 := hr4.free 0
  have g1 := hr4.free 1
  have g2 := hr4.free 2
  have lt4 := hr4.lt
  have hw : Ch [] w w4 := ((((((Ch.refl [] w).alloc _).trans hc1).step hc2 (by simp)).step hc3 (by simp)).step hc4 (by simp))
  clear hb1 hb2 hb3 hb2' hb3' hc1 hc2 hc3 hc4 k1 k2 s1 s2
  go_wp2_with fail
  refine bodyPost_ret (v := .tuple #[.agg #[.int .i64 0, .int .i64 0, .int .u64 0], .int .i64 1]) (by simp [results, Tryz.results132, go_sem, lt4, q0, q1, q2]) rfl ⟨rfl, ?_⟩
  (repeat (first | exact Ch.refl _ _ | assumption | apply Ch.drewN | apply Ch.drew | refine Ch.alloc ?_ _ | refine Ch.setCell ?_ (by first | (left; simp; done) | (right; simp; done) | (right; simp; omega)) _))

theorem hello_verify_bad (p : Value) (b : ByteArray) (w : World) (hb : b.size ≤ 9223372036854775807) (h : doneE (helloR b) ≠ 0) : Calls Tryz.prog 84 #[p, .string b] w fun e w' => e = .returned (.tuple #[.int .i64 0, .int .i64 16]) ∧ Ch [] w w' := by
  go_enter Tryz.func84, Tryz.ntmps84
  go_wp2_with fail
  refine (hello_take_bad b _ hb h).mono ?_
  rintro e w1 ⟨rfl, hc1⟩
  go_wp2_with fail
  go_ret2
  exact ⟨rfl, hc1.alloc _⟩
end Go.Proofs.YtmimhgngbpancaaGreatDoor
