import Derived.Test.YtmimhgngbpancaaGreatDoorWa
import Derived.Test.YtmimhgngbpancaaGreatDoorPb
import Derived.Outline
/- Numbers as bytes: taken. -/
set_option linter.unusedSimpArgs false
set_option linter.unusedVariables false
namespace Go.Proofs.YtmimhgngbpancaaGreatDoor
open Go.RowKit

theorem ret3i {a a' b b' c c' : Int} (h1 : a = a') (h2 : b = b') (h3 : c = c') : Ending.returned (.tuple #[.int .u64 a, .int .i64 b, .int .i64 c]) = .returned (.tuple #[.int .u64 a', .int .i64 b', .int .i64 c']) := by rw [h1, h2, h3]

set_option maxRecDepth 100000 in
set_option maxHeartbeats 1000000 in
theorem vtake_any (b : ByteArray) (w : World) (hb : b.size ≤ 9223372036854775807) : Calls Tryz.prog 178 #[.string b] w fun e w' => e = .returned (.tuple #[.int .u64 (vtake b).1, .int .i64 (vtake b).2.1, .int .i64 (vtake b).2.2]) ∧ w = w' := by
  have hsplit : (b.size ≤ 10 ∧ min b.size 10 = b.size) ∨ (10 < b.size ∧ min b.size 10 = 10) := by omega
  rcases hsplit with ⟨h10, hN⟩ | ⟨h10, hN⟩
  all_goals
    have hN3 : vtake b = vtkF b (min b.size 10) 0 0 := rfl
    rw [hN3, hN]
    first | have h10' : (b.size : Int) ≤ 10 := by omega | have h10' : ¬ (b.size : Int) ≤ 10 := by omega
    clear hN hN3
    go_enter Tryz.func178, Tryz.ntmps178
    go_wp2_with fail
  · go_loop [5, 11] (fun n i => ∃ (k : Nat) (acc : Int), k ≤ b.size ∧ i = .int .i64 k ∧ n = .int .u64 acc ∧ 0 ≤ acc ∧ acc < 128 ^ k ∧ vtkF b b.size 0 0 = vtkF b (b.size - k) k acc) (fun _ i => b.size - (intOf i).toNat)
    case atStart => exact ⟨0, 0, by omega, rfl, rfl, by omega, by omega, rfl⟩
    case round =>
      obtain ⟨k, acc, hk, rfl, rfl, ha0, ha1, hv⟩ := hrel
      by_cases hlt : k < b.size
      · obtain ⟨n, hn⟩ : ∃ n, b.size - k = n + 1 := ⟨b.size - k - 1, by omega⟩
        rw [hn] at hv
        have hx1 : (k : Int) < (b.size : Int) := by omega
        have hx3 : (k : Int) < 10 := by omega
        have hkb : k < b.size := by omega
        have e0 := byt_at b k hkb
        have l0 := byt_lt b k
        have n0 := byt_nonneg b k
        by_cases hbad : vbad b k = true
        · have hres : vtkF b b.size 0 0 = (0, 0, 1) := by rw [hv]; exact vtkF_bad hbad
          have HR := Lib.hid hres
          have hb' : ((k : Int) = 9 ∧ 1 < byt b k) ∨ (byt b k = 0 ∧ (0 : Int) < k) := by
            simp [vbad] at hbad
            omega
          clear hv hn hres hbad
          go_wp2_with fail
          all_goals first | (exfalso; omega) | (go_ret3; rw [HR.out]; exact ⟨rfl, rfl⟩)
        · have hbad' : vbad b k = false := by simpa using hbad
          have hb' : ¬ (((k : Int) = 9 ∧ 1 < byt b k) ∨ (byt b k = 0 ∧ (0 : Int) < k)) := by
            simp [vbad] at hbad
            omega
          have h9 : k = 9 → byt b k ≤ 1 := by omega
          have hst := vstep acc (byt b k) k ha0 ha1 n0 l0 (by omega) h9
          by_cases hlast : byt b k < 128
          · have hres : vtkF b b.size 0 0 = (acc + byt b k % 128 * 128 ^ k, (k : Int) + 1, 0) := by rw [hv]; exact vtkF_end hbad' hlast
            have HR := Lib.hid hres
            have HS := Lib.hid hst
            clear hv hn hres hbad hbad' hst
            by_cases hk9 : k = 9
            · have hb9 : ((k : Int) == 9) = true := by simp [hk9]
              have hle : ¬ 1 < byt b k := by have := h9 hk9; omega
              have hnz : (byt b k == 0) = false := by simp; omega
              clear hk9 h9
              go_wp2_with fail
              all_goals first | (exfalso; omega) | skip
              all_goals
                go_ret3
                rw [HR.out]
                have h := HS.out.1
                refine ⟨ret3i ?_ ?_ rfl, rfl⟩
                · first | exact h | ((have hz : byt b k = 0 := by assumption); rw [hz] at h ⊢; exact h)
                · first | rfl | omega
            · have hb9 : ((k : Int) == 9) = false := by simp; omega
              clear hk9 h9
              go_wp2_with fail
              all_goals first | (exfalso; omega) | skip
              all_goals
                go_ret3
                rw [HR.out]
                have h := HS.out.1
                refine ⟨ret3i ?_ ?_ rfl, rfl⟩
                · first | exact h | ((have hz : byt b k = 0 := by assumption); rw [hz] at h ⊢; exact h)
                · first | rfl | omega
          · have hres : vtkF b b.size 0 0 = vtkF b (b.size - (k + 1)) (k + 1) (acc + byt b k % 128 * 128 ^ k) := by
              rw [hv, show b.size - (k + 1) = n by omega]; exact vtkF_on hbad' hlast
            have HR := Lib.hid hres
            have HS := Lib.hid hst
            clear hv hn hres hbad hbad' hst
            by_cases hk9 : k = 9
            · have hb9 : ((k : Int) == 9) = true := by simp [hk9]
              have hle : ¬ 1 < byt b k := by have := h9 hk9; omega
              have hnz : (byt b k == 0) = false := by simp; omega
              clear hk9 h9
              go_wp2_with fail
              all_goals first | (exfalso; omega) | skip
              all_goals
                go_round
                case rel =>
                  refine ⟨k + 1, _, by omega, by go_num, rfl, ?_, ?_, ?_⟩
                  · have h := HS.out.1
                    first | rw [h] | ((have hz : byt b k = 0 := by assumption); omega)
                    have := Int.mul_nonneg (show 0 ≤ byt b k % 128 by omega) (show (0 : Int) ≤ 128 ^ k from Int.le_of_lt (Int.pow_pos (by decide)))
                    omega
                  · rw [HS.out.1]; exact HS.out.2.2
                  · rw [HS.out.1]; exact HR.out
                case measure => simp [intOf]; omega
            · have hb9 : ((k : Int) == 9) = false := by simp; omega
              clear hk9 h9
              go_wp2_with fail
              all_goals first | (exfalso; omega) | skip
              all_goals
                go_round
                case rel =>
                  refine ⟨k + 1, _, by omega, by go_num, rfl, ?_, ?_, ?_⟩
                  · have h := HS.out.1
                    first | rw [h] | ((have hz : byt b k = 0 := by assumption); omega)
                    have := Int.mul_nonneg (show 0 ≤ byt b k % 128 by omega) (show (0 : Int) ≤ 128 ^ k from Int.le_of_lt (Int.pow_pos (by decide)))
                    omega
                  · rw [HS.out.1]; exact HS.out.2.2
                  · rw [HS.out.1]; exact HR.out
                case measure => simp [intOf]; omega
      · have hz : b.size - k = 0 := by omega
        rw [hz] at hv
        have hres : vtkF b b.size 0 0 = (0, 0, 2) := hv
        have HR := Lib.hid hres
        have hx3 : ¬ (k : Int) < (b.size : Int) := by omega
        clear hv hres hz
        go_wp2_with fail
        go_ret3
        rw [HR.out]
        exact ⟨rfl, rfl⟩
  · go_loop [5, 11] (fun n i => ∃ (k : Nat) (acc : Int), k ≤ 10 ∧ i = .int .i64 k ∧ n = .int .u64 acc ∧ 0 ≤ acc ∧ acc < 128 ^ k ∧ vtkF b 10 0 0 = vtkF b (10 - k) k acc) (fun _ i => 10 - (intOf i).toNat)
    case atStart => exact ⟨0, 0, by omega, rfl, rfl, by omega, by omega, rfl⟩
    case round =>
      obtain ⟨k, acc, hk, rfl, rfl, ha0, ha1, hv⟩ := hrel
      by_cases hlt : k < 10
      · obtain ⟨n, hn⟩ : ∃ n, 10 - k = n + 1 := ⟨10 - k - 1, by omega⟩
        rw [hn] at hv
        have hx1 : (k : Int) < (b.size : Int) := by omega
        have hx3 : (k : Int) < 10 := by omega
        have hkb : k < b.size := by omega
        have e0 := byt_at b k hkb
        have l0 := byt_lt b k
        have n0 := byt_nonneg b k
        by_cases hbad : vbad b k = true
        · have hres : vtkF b 10 0 0 = (0, 0, 1) := by rw [hv]; exact vtkF_bad hbad
          have HR := Lib.hid hres
          have hb' : ((k : Int) = 9 ∧ 1 < byt b k) ∨ (byt b k = 0 ∧ (0 : Int) < k) := by
            simp [vbad] at hbad
            omega
          clear hv hn hres hbad
          go_wp2_with fail
          all_goals first | (exfalso; omega) | (go_ret3; rw [HR.out]; exact ⟨rfl, rfl⟩)
        · have hbad' : vbad b k = false := by simpa using hbad
          have hb' : ¬ (((k : Int) = 9 ∧ 1 < byt b k) ∨ (byt b k = 0 ∧ (0 : Int) < k)) := by
            simp [vbad] at hbad
            omega
          have h9 : k = 9 → byt b k ≤ 1 := by omega
          have hst := vstep acc (byt b k) k ha0 ha1 n0 l0 (by omega) h9
          by_cases hlast : byt b k < 128
          · have hres : vtkF b 10 0 0 = (acc + byt b k % 128 * 128 ^ k, (k : Int) + 1, 0) := by rw [hv]; exact vtkF_end hbad' hlast
            have HR := Lib.hid hres
            have HS := Lib.hid hst
            clear hv hn hres hbad hbad' hst
            by_cases hk9 : k = 9
            · have hb9 : ((k : Int) == 9) = true := by simp [hk9]
              have hle : ¬ 1 < byt b k := by have := h9 hk9; omega
              have hnz : (byt b k == 0) = false := by simp; omega
              clear hk9 h9
              go_wp2_with fail
              all_goals first | (exfalso; omega) | skip
              all_goals
                go_ret3
                rw [HR.out]
                have h := HS.out.1
                refine ⟨ret3i ?_ ?_ rfl, rfl⟩
                · first | exact h | ((have hz : byt b k = 0 := by assumption); rw [hz] at h ⊢; exact h)
                · first | rfl | omega
            · have hb9 : ((k : Int) == 9) = false := by simp; omega
              clear hk9 h9
              go_wp2_with fail
              all_goals first | (exfalso; omega) | skip
              all_goals
                go_ret3
                rw [HR.out]
                have h := HS.out.1
                refine ⟨ret3i ?_ ?_ rfl, rfl⟩
                · first | exact h | ((have hz : byt b k = 0 := by assumption); rw [hz] at h ⊢; exact h)
                · first | rfl | omega
          · have hres : vtkF b 10 0 0 = vtkF b (10 - (k + 1)) (k + 1) (acc + byt b k % 128 * 128 ^ k) := by
              rw [hv, show 10 - (k + 1) = n by omega]; exact vtkF_on hbad' hlast
            have HR := Lib.hid hres
            have HS := Lib.hid hst
            clear hv hn hres hbad hbad' hst
            by_cases hk9 : k = 9
            · have hb9 : ((k : Int) == 9) = true := by simp [hk9]
              have hle : ¬ 1 < byt b k := by have := h9 hk9; omega
              have hnz : (byt b k == 0) = false := by simp; omega
              clear hk9 h9
              go_wp2_with fail
              all_goals first | (exfalso; omega) | skip
              all_goals
                go_round
                case rel =>
                  refine ⟨k + 1, _, by omega, by go_num, rfl, ?_, ?_, ?_⟩
                  · have h := HS.out.1
                    first | rw [h] | ((have hz : byt b k = 0 := by assumption); omega)
                    have := Int.mul_nonneg (show 0 ≤ byt b k % 128 by omega) (show (0 : Int) ≤ 128 ^ k from Int.le_of_lt (Int.pow_pos (by decide)))
                    omega
                  · rw [HS.out.1]; exact HS.out.2.2
                  · rw [HS.out.1]; exact HR.out
                case measure => simp [intOf]; omega
            · have hb9 : ((k : Int) == 9) = false := by simp; omega
              clear hk9 h9
              go_wp2_with fail
              all_goals first | (exfalso; omega) | skip
              all_goals
                go_round
                case rel =>
                  refine ⟨k + 1, _, by omega, by go_num, rfl, ?_, ?_, ?_⟩
                  · have h := HS.out.1
                    first | rw [h] | ((have hz : byt b k = 0 := by assumption); omega)
                    have := Int.mul_nonneg (show 0 ≤ byt b k % 128 by omega) (show (0 : Int) ≤ 128 ^ k from Int.le_of_lt (Int.pow_pos (by decide)))
                    omega
                  · rw [HS.out.1]; exact HS.out.2.2
                  · rw [HS.out.1]; exact HR.out
                case measure => simp [intOf]; omega
      · have hz : 10 - k = 0 := by omega
        rw [hz] at hv
        have hres : vtkF b 10 0 0 = (0, 0, 2) := hv
        have HR := Lib.hid hres
        have hx3 : ¬ (k : Int) < 10 := by omega
        clear hv hres hz
        go_wp2_with fail
        go_ret3
        rw [HR.out]
        exact ⟨rfl, rfl⟩
end Go.Proofs.YtmimhgngbpancaaGreatDoor
