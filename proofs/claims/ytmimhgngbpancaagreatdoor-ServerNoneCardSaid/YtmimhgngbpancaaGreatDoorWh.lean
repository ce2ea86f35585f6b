import Derived.Test.YtmimhgngbpancaaGreatDoorWa
import Derived.Test.YtmimhgngbpancaaGreatDoorPa
import Derived.Outline
/- Frames: heads, and the frame with which bytes begin. -/
set_option linter.unusedSimpArgs false
set_option linter.unusedVariables false
namespace Go.Proofs.YtmimhgngbpancaaGreatDoor
open Go.RowKit

theorem known_no (k : Int) (w : World) (h : k < 1 ∨ 9 < k) : Calls Tryz.prog 168 #[.int .i64 k] w fun e w' => e = .returned (.bool false) ∧ w = w' := by
  go_enter Tryz.func168, Tryz.ntmps168
  rcases h with h | h
  · go_wp2
    go_ret; exact ⟨rfl, rfl⟩
  · have h1 : 1 ≤ k := by omega
    have h2 : ¬ k ≤ 9 := by omega
    go_wp2
    go_ret; exact ⟨by simp; try omega, rfl⟩

theorem head_bad (b : ByteArray) (w : World) (h : headE b ≠ 0) : Calls Tryz.prog 131 #[.string b] w fun e w' => e = .returned (.tuple #[.int .i64 0, .int .i64 0, .int .i64 0, .int .i64 (headE b)]) ∧ Dr w w' := by
  by_cases hs : b.size < 4
  · have h1 : (b.size : Int) < 4 := by omega
    have he : headE b = 2 := by unfold headE; rw [if_pos hs]
    rw [he]
    clear h he
    go_enter Tryz.func131, Tryz.ntmps131
    go_wp2_with fail
    ((try simp only [Exit.inBlock, Exit.then]); refine bodyPost_ret (results_tmp4 rfl _ _ _) rfl ?_)
    exact ⟨rfl, Dr.refl _⟩
  · have h1 : ¬ (b.size : Int) < 4 := by omega
    have h2n : 0 < b.size := by omega
    have h2 : (0 : Int) < b.size := by omega
    have h3 : (1 : Int) < b.size := by omega
    have h4 : (2 : Int) < b.size := by omega
    have h5 : (3 : Int) < b.size := by omega
    have e0 := byt_at b 0 (by omega)
    have e2 := byt_at b 2 (by omega)
    have e3 := byt_at b 3 (by omega)
    have l0 := byt_lt b 0
    have n0 := byt_nonneg b 0
    have l2 := byt_lt b 2
    have n2 := byt_nonneg b 2
    have l3 := byt_lt b 3
    have n3 := byt_nonneg b 3
    have ho := or_shift8 (byt b 2) (byt b 3) n2 l2 n3 l3
    by_cases hk : byt b 0 < 1 ∨ 9 < byt b 0
    · have he : headE b = 4 := by unfold headE; rw [if_neg hs, if_pos hk]
      rw [he]
      clear h he
      go_enter Tryz.func131, Tryz.ntmps131
      go_wp2_with fail
      go_quiet (fail)
      go_wp2_with fail
      refine (known_no _ _ hk).mono ?_
      rintro e w1 ⟨rfl, rfl⟩
      go_wp2_with fail
      ((try simp only [Exit.inBlock, Exit.then]); refine bodyPost_ret (results_tmp4 rfl _ _ _) rfl ?_)
      exact ⟨rfl, Dr.mk _ _⟩
    · have hl : 1024 < hlen b := by
        apply Classical.byContradiction
        intro hl
        exact h (by unfold headE; rw [if_neg hs, if_neg hk, if_neg hl])
      have he : headE b = 3 := by unfold headE; rw [if_neg hs, if_neg hk, if_pos hl]
      rw [he]
      clear h he
      unfold hlen at hl
      go_enter Tryz.func131, Tryz.ntmps131
      go_wp2_with fail
      go_quiet (fail)
      go_wp2_with fail
      refine (known_yes _ _ (by omega) (by omega)).mono ?_
      rintro e w1 ⟨rfl, rfl⟩
      go_wp2_with fail
      ((try simp only [Exit.inBlock, Exit.then]); refine bodyPost_ret (results_tmp4 rfl _ _ _) rfl ?_)
      exact ⟨rfl, Dr.mk _ _⟩

set_option maxRecDepth 100000 in
theorem head_ok (b : ByteArray) (w : World) (h : headE b = 0) : Calls Tryz.prog 131 #[.string b] w fun e w' => e = .returned (.tuple #[.int .i64 (byt b 0), .int .i64 (byt b 1), .int .i64 (hlen b), .int .i64 0]) ∧ Dr w w' := by
  have hs : ¬ b.size < 4 := by intro hs; unfold headE at h; rw [if_pos hs] at h; cases h
  have hk : ¬ (byt b 0 < 1 ∨ 9 < byt b 0) := by intro hk; unfold headE at h; rw [if_neg hs, if_pos hk] at h; cases h
  have hl : ¬ 1024 < hlen b := by intro hl; unfold headE at h; rw [if_neg hs, if_neg hk, if_pos hl] at h; cases h
  clear h
  have h1 : ¬ (b.size : Int) < 4 := by omega
  have h2n : 0 < b.size := by omega
  have h2 : (0 : Int) < b.size := by omega
  have h3 : (1 : Int) < b.size := by omega
  have h4 : (2 : Int) < b.size := by omega
  have h5 : (3 : Int) < b.size := by omega
  have e0 := byt_at b 0 (by omega)
  have e1 := byt_at b 1 (by omega)
  have e2 := byt_at b 2 (by omega)
  have e3 := byt_at b 3 (by omega)
  have l0 := byt_lt b 0
  have n0 := byt_nonneg b 0
  have l1 := byt_lt b 1
  have n1 := byt_nonneg b 1
  have l2 := byt_lt b 2
  have n2 := byt_nonneg b 2
  have l3 := byt_lt b 3
  have n3 := byt_nonneg b 3
  have ho := or_shift8 (byt b 2) (byt b 3) n2 l2 n3 l3
  unfold hlen at hl ⊢
  go_enter Tryz.func131, Tryz.ntmps131
  go_wp2_with fail
  go_quiet (fail)
  go_wp2_with fail
  refine (known_yes _ _ (by omega) (by omega)).mono ?_
  rintro e w1 ⟨rfl, rfl⟩
  go_wp2_with fail
  go_quiet (fail)
  go_wp2_with fail
  ((try simp only [Exit.inBlock, Exit.then]); refine bodyPost_ret (results_tmp4 rfl _ _ _) rfl ?_)
  exact ⟨rfl, Dr.trans (Dr.mk _ _) (Dr.mk _ _)⟩

theorem take_head {b : ByteArray} (h : headE b = 0) : takeE b = if (b.size : Int) - 4 < hlen b then 2 else 0 := by unfold takeE; rw [if_neg (by simpa using h)]

theorem take_bad (b : ByteArray) (w : World) (hb : b.size ≤ 9223372036854775807) (h : takeE b ≠ 0) : Calls Tryz.prog 83 #[.string b] w fun e w' => e = .returned (.tuple #[.agg #[.int .i64 0, .int .i64 0, .string ByteArray.empty], .int .i64 0, .int .i64 (takeE b)]) ∧ Ch [] w w' := by
  by_cases hh : headE b = 0
  · have hl : (b.size : Int) - 4 < hlen b := by
      apply Classical.byContradiction
      intro hl
      exact h (by rw [take_head hh, if_neg hl])
    have he : takeE b = 2 := by rw [take_head hh, if_pos hl]
    rw [he]
    have hs : ¬ b.size < 4 := by intro hs; unfold headE at hh; rw [if_pos hs] at hh; cases hh
    have HH := Lib.hid hh
    clear h he hh
    go_enter Tryz.func83, Tryz.ntmps83
    go_wp2_with fail
    refine (head_ok _ _ HH.out).mono ?_
    rintro e w1 ⟨rfl, n, rfl⟩
    go_wp2_with fail
    refine bodyPost_ret (v := .tuple #[.agg #[.int .i64 0, .int .i64 0, .string ByteArray.empty], .int .i64 0, .int .i64 2]) (by simp [results, Tryz.results83, go_sem]; try rfl) rfl ⟨rfl, ?_⟩
    (repeat (first | exact Ch.refl _ _ | assumption | apply Ch.drewN | apply Ch.drew | refine Ch.alloc ?_ _ | refine Ch.setCell ?_ (by first | (left; simp; done) | (right; simp; done) | (right; simp; omega)) _))
  · have he : takeE b = headE b := by unfold takeE; rw [if_pos hh]
    rw [he]
    have hbe : (headE b != 0) = true := by simpa using hh
    have HH := Lib.hid hh
    clear h he hh
    go_enter Tryz.func83, Tryz.ntmps83
    go_wp2_with fail
    refine (head_bad _ _ HH.out).mono ?_
    rintro e w1 ⟨rfl, n, rfl⟩
    go_wp2_with fail
    refine bodyPost_ret (v := .tuple #[.agg #[.int .i64 0, .int .i64 0, .string ByteArray.empty], .int .i64 0, .int .i64 (headE b)]) (by simp [results, Tryz.results83, go_sem]; try rfl) rfl ⟨rfl, ?_⟩
    (repeat (first | exact Ch.refl _ _ | assumption | apply Ch.drewN | apply Ch.drew | refine Ch.alloc ?_ _ | refine Ch.setCell ?_ (by first | (left; simp; done) | (right; simp; done) | (right; simp; omega)) _))

theorem take_ok (b : ByteArray) (w : World) (hb : b.size ≤ 9223372036854775807) (h : takeE b = 0) : Calls Tryz.prog 83 #[.string b] w fun e w' => e = .returned (.tuple #[.agg #[.int .i64 (byt b 0), .int .i64 (byt b 1), .string (fbody b)], .int .i64 (4 + hlen b), .int .i64 0]) ∧ Ch [] w w' := by
  have hh : headE b = 0 := by
    apply Classical.byContradiction
    intro hh
    unfold takeE at h; rw [if_pos hh] at h; exact hh h
  have hl : ¬ (b.size : Int) - 4 < hlen b := by
    intro hl
    rw [take_head hh, if_pos hl] at h; cases h
  have hn := hlen_nonneg b
  have HH := Lib.hid hh
  clear h hh
  unfold fbody
  obtain ⟨m, hm⟩ := Int.eq_ofNat_of_zero_le hn
  rw [hm] at hl ⊢
  go_enter Tryz.func83, Tryz.ntmps83
  go_wp2_with fail
  refine (head_ok _ _ HH.out).mono ?_
  rintro e w1 ⟨rfl, n, rfl⟩
  go_wp2_with fail
  refine bodyPost_ret (v := .tuple #[.agg #[.int .i64 (byt b 0), .int .i64 (byt b 1), .string (b.extract 4 (4 + m))], .int .i64 (4 + m), .int .i64 0]) (by simp [results, Tryz.results83, go_sem]; try rfl) rfl ⟨rfl, ?_⟩
  (repeat (first | exact Ch.refl _ _ | assumption | apply Ch.drewN | apply Ch.drew | refine Ch.alloc ?_ _ | refine Ch.setCell ?_ (by first | (left; simp; done) | (right; simp; done) | (right; simp; omega)) _))
end Go.Proofs.YtmimhgngbpancaaGreatDoor
