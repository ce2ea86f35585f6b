import Derived.Test.YtmimhgngbpancaaGreatDoorWa
import Derived.Test.YtmimhgngbpancaaGreatDoorPb
import Derived.Test.YtmimhgngbpancaaGreatDoorBq
import Derived.Outline
/- Numbers as bytes: put. -/
set_option linter.unusedSimpArgs false
set_option linter.unusedVariables false
namespace Go.Proofs.YtmimhgngbpancaaGreatDoor
open Go.RowKit

theorem info_byte : (Tryz.prog.info? 5).map (fun i => (i.zero, i.size, i.bytes)) = some (some (.int .u8 0), 1, 1) := by kernel_rfl
def u8s (l : List Int) : List Value := l.map (Value.int .u8)

/-- A queue of bytes as a text. -/
theorem que_text {w : World} {v : Value} {l : List Int} (h : Que w 5 1 v l.length (u8s l)) (T : TypeId) (hT : Tryz.prog.underlying T = some (TypeDesc.slice 5)) : (convert T 9 v).run Tryz.prog w = .ok (.string (strOfNums l)) w := by
  obtain ⟨_, h2⟩ := h
  rcases h2 with ⟨rfl, hl⟩ | ⟨g, off, cap, cs, rfl, hn, hb, hsz, hx⟩
  · obtain rfl : l = [] := List.eq_nil_of_length_eq_zero hl
    exact run_convert_bytes_nil w T 5 hT Tryz.underlying5 0 0 9 Tryz.underlying9
  · refine run_convert_bytes_arg w T 5 hT Tryz.underlying5 g off l.length cap l rfl (fun i hi => ?_) 9 Tryz.underlying9
    refine hb.cell (hx i _ ?_)
    simp [u8s, hi]

set_option maxRecDepth 100000 in
set_option maxHeartbeats 1000000 in
theorem varput (n0 : Int) (W : World) (h0 : 0 ≤ n0) (h1 : n0 < 18446744073709551616) : Calls Tryz.prog 129 #[.int .u64 n0] W fun e w' => e = .returned (.string (vputB n0.toNat)) ∧ Ch [] W w' := by
  obtain ⟨m, rfl⟩ := Int.eq_ofNat_of_zero_le h0
  obtain ⟨i0, hi, hz0, hz1, hz2⟩ := info_parts info_byte
  go_enter Tryz.func129, Tryz.ntmps129
  go_wp2_with fail
  go_step3
  go_wp2_with fail
  go_step3
  go_wp2_with fail
  go_loopw [0, 3] (fun s v wr => ∃ (n f : Nat) (l : List Int), s = .int .u64 n ∧ n < 128 ^ f ∧ f ≤ 10 ∧ Que wr 5 1 v l.length (u8s l) ∧ (∀ k, k ∈ qb v → W.heap.size ≤ k) ∧ Ch [] W wr ∧ vput m = l ++ vputF f n ∧ l.length + f = 10 ∧ 1 ≤ f) (fun s _ _ => (intOf s).toNat)
  case atStart => exact ⟨m, 10, [], rfl, by omega, by omega, Que.nil _ _ _, by simp [qb], Ch.refl _ _, by simp [vput], rfl, by omega⟩
  case round =>
    obtain ⟨n, f, l, rfl, hnf, hf, hq, hfr, hch, hv, hlf, hf1⟩ := hrel
    obtain ⟨f, rfl⟩ : ∃ g, f = g + 1 := ⟨f - 1, by omega⟩
    by_cases hlt : n < 128
    · have hlt' : (n : Int) < 128 := by omega
      rw [vputF_last hlt] at hv
      have HV := Lib.hid hv
      clear hv
      go_wp2_with (at_builtin; refine wpList_append_que _ rfl _ _ 264 rfl 5 i0 (.int .u8 0) 1 1 Tryz.underlying264 hi hz0 hz1 hz2 rfl (by decide) _ l.length (u8s l) rfl (hq.alloc _) ⟨wr.heap.size, 0, none⟩ 1 1 [.int .u8 n] rfl rfl (one_new _ _ _) (by simp [Value.oneCell']) (by unfold maxLen; omega) (by omega) ?_)
      intro v' w1 hq' hch1 hfr1
      have hq'' : Que w1 5 1 v' (l ++ [(n : Int)]).length (u8s (l ++ [(n : Int)])) := by simpa [u8s] using hq'
      have hcv := que_text hq'' 264 Tryz.underlying264
      go_wp2_with fail
      rw [Exit.noGoto_ret]
      go_ret
      refine ⟨?_, (hch.alloc _).step hch1 (fun k hk => .inr (hfr k hk))⟩
      unfold vputB
      rw [Int.toNat_natCast, HV.out]
      rfl
    · have hlt' : ¬ (n : Int) < 128 := by omega
      rw [vputF_on hlt] at hv
      have HV := Lib.hid hv
      have ho := or_128 n (by omega)
      have hf2 : 1 ≤ f := by
        rcases Nat.eq_zero_or_pos f with h | h
        · subst h; omega
        · exact h
      have hdiv : n / 128 < 128 ^ f := by rw [Nat.pow_succ] at hnf; exact Nat.div_lt_of_lt_mul (by rw [Nat.mul_comm]; exact hnf)
      have HD := Lib.hid hdiv
      clear hv hnf hdiv
      go_wp2_with (at_builtin; go_loud (refine wpList_append_que _ rfl _ _ 264 rfl 5 i0 (.int .u8 0) 1 1 Tryz.underlying264 hi hz0 hz1 hz2 rfl (by decide) _ l.length (u8s l) rfl (hq.alloc _) ⟨wr.heap.size, 0, none⟩ 1 1 [.int .u8 ((n : Int) % 128 + 128)] rfl rfl (one_new _ _ _) (by simp [Value.oneCell']) (by unfold maxLen; omega) (by omega) ?_))
      intro v' w1 hq' hch1 hfr1
      have hq'' : Que w1 5 1 v' (l ++ [(n : Int) % 128 + 128]).length (u8s (l ++ [(n : Int) % 128 + 128])) := by simpa [u8s] using hq'
      have hs1 := hch.size
      go_wp2_with fail
      go_round
      case rel =>
        refine ⟨n / 128, f, l ++ [(n : Int) % 128 + 128], ?_, HD.out, by omega, hq'', ?_, (hch.alloc _).step hch1 (fun k hk => .inr (hfr k hk)), ?_, by simp; omega, hf2⟩
        · first | rfl | (congr 1)
        · intro k hk
          rcases hfr1 k hk with h | h
          · exact hfr k h
          · omega
        · rw [HV.out]; simp
      case measure => simp [intOf]; omega
end Go.Proofs.YtmimhgngbpancaaGreatDoor
