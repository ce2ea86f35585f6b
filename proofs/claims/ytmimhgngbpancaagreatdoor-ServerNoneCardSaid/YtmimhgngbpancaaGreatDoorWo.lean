import Derived.Test.YtmimhgngbpancaaGreatDoorWn
import Derived.Test.YtmimhgngbpancaaGreatDoorWh
import Derived.Test.YtmimhgngbpancaaGreatDoorShelf
import Derived.Lib.Repeat
/- Texts of few lengths; replies. -/
set_option linter.unusedSimpArgs false
set_option linter.unusedVariables false
namespace Go.Proofs.YtmimhgngbpancaaGreatDoor
open Go.RowKit

theorem pad_class (n : Int) (w : World) (h0 : 0 ≤ n) (h1 : n ≤ 1022) : Calls Tryz.prog 165 #[.int .i64 n] w fun e w' => e = .returned (.tuple #[.int .i64 (cls n), .int .i64 0]) ∧ w = w' := by
  have h2 : ¬ n < 0 := by omega
  have h3 : ¬ 1022 < n := by omega
  go_enter Tryz.func165, Tryz.ntmps165
  go_wp2
  go_step3
  go_wp2
  go_step3
  go_wp2
  go_loop [4] (fun c => ∃ x : Int, c = .int .i64 x ∧ (x = 32 ∨ (x = 64 ∧ 30 < n) ∨ (x = 128 ∧ 62 < n) ∨ (x = 256 ∧ 126 < n) ∨ (x = 512 ∧ 254 < n) ∨ (x = 1024 ∧ 510 < n))) (fun c => (1024 - intOf c).toNat)
  case atStart => exact ⟨32, rfl, by omega⟩
  case round =>
    obtain ⟨x, rfl, hx⟩ := hrel
    have b1 : 32 ≤ x ∧ x ≤ 1024 := by omega
    obtain ⟨b1, b2⟩ := b1
    by_cases hlt : n ≤ x - 2
    · have hc : cls n = x := by unfold cls; rcases hx with h | h | h | h | h | h <;> (repeat' split) <;> omega
      have HC := Lib.hid hc
      clear hc
      go_wp2
      go_ret2
      rw [HC.out]
      exact ⟨rfl, rfl⟩
    · go_wp2
      go_round
      case rel => exact ⟨x * 2, rfl, by omega⟩
      case measure => simp [intOf]; omega

def padB (s : ByteArray) : ByteArray := strOfNums [(s.size : Int) / 256, (s.size : Int) % 256] ++ s ++ ⟨(Lib.repeatL [0] (cls s.size - 2 - s.size).toNat).toArray⟩

set_option maxRecDepth 100000 in
set_option maxHeartbeats 1000000 in
theorem pad_pad (s : ByteArray) (W : World) (hs : s.size ≤ 1022) : Calls Tryz.prog 127 #[.string s] W fun e w' => e = .returned (.tuple #[.string (padB s), .int .i64 0]) ∧ Ch [] W w' := by
  have hcl := cls_ge s.size (by omega)
  have hu1 : IntKind.u8.wrap ((s.size : Int) / 256) = (s.size : Int) / 256 := by rw [IntKind.wrap_u8]; omega
  have hu2 : IntKind.u8.wrap (s.size : Int) = (s.size : Int) % 256 := IntKind.wrap_u8 _
  obtain ⟨hd, hhd⟩ : ∃ hd, strOfNums [(s.size : Int) / 256, (s.size : Int) % 256] = hd := ⟨_, rfl⟩
  have hd2 : hd.size = 2 := by rw [← hhd, strOfNums_size]; rfl
  have hcat : ¬ 9223372036854775807 < hd.size + s.size := by omega
  have HH := Lib.hid hhd
  have HD := Lib.hid hd2
  clear hhd hd2
  have hi1 : IntKind.i64.wrap (cls s.size - 2) = cls s.size - 2 := by rw [IntKind.wrap_i64]; omega
  have hi2 : IntKind.i64.wrap (cls s.size - 2 - s.size) = cls s.size - 2 - s.size := by rw [IntKind.wrap_i64]; omega
  have hcv : ∀ (B : Nat) (w : World), Blk w B #[.int .u8 ((s.size : Int) / 256), .int .u8 ((s.size : Int) % 256)] 5 → (convert 264 9 (.slice (some ⟨B, 0, none⟩) 2 2)).run Tryz.prog w = .ok (.string hd) w := by
    intro B w hb
    rw [← HH.out]
    refine run_convert_bytes_arg w 264 5 Tryz.underlying264 Tryz.underlying5 B 0 2 2 [(s.size : Int) / 256, (s.size : Int) % 256] rfl (fun i hi => ?_) 9 Tryz.underlying9
    match i, hi with
    | 0, _ => exact hb.cell rfl
    | 1, _ => exact hb.cell rfl
  have HC := Lib.hid hcv
  clear hcv
  obtain ⟨N, hN⟩ : ∃ N : Nat, cls s.size - 2 - s.size = N := ⟨(cls s.size - 2 - s.size).toNat, by omega⟩
  have hNl : N ≤ 1024 := by omega
  have hi3 : IntKind.i64.wrap (N : Int) = N := by rw [IntKind.wrap_i64]; omega
  obtain ⟨zs, hzs⟩ : ∃ zs : ByteArray, (⟨(Lib.repeatL [0] N).toArray⟩ : ByteArray) = zs := ⟨_, rfl⟩
  have hzn : zs.size = N := by rw [← hzs]; show (Lib.repeatL [0] N).toArray.size = N; rw [List.size_toArray, Lib.repeatL_length]; simp
  have hcat2 : ¬ 9223372036854775807 < hd.size + s.size + zs.size := by have := HD.out; omega
  have hfin : padB s = hd ++ s ++ zs := by
    unfold padB
    rw [HH.out, hN, Int.toNat_natCast, hzs]
  rw [hfin]
  have HZ := Lib.hid hzs
  clear hzn hfin hzs
  go_enter Tryz.func127, Tryz.ntmps127
  go_wp2_with fail
  refine (pad_class s.size _ (by omega) (by omega)).mono ?_
  rintro e w1 ⟨rfl, rfl⟩
  go_wp2_with fail
  refine wp_region_held_drew (S := Ch [] _) (by kernel_rfl) ((Ch.refl [] _).drew) (fun hS => ?_)
  (refine wpAnyH_take (i := 0) (v := ?_) rfl (by kernel_rfl) (by kernel_rfl) (by kernel_rfl) (fun _ _ _ h => h) (Or.inl ⟨by rfl, ?_⟩) (by assumption) ?_; rotate_left; focus (intro w hSw; have q1 := fun b o hb => Ch.cell hSw (b := b) (o := o) hb (by simp); clear hSw; go_simp; try with_reducible rfl); try simp only [Act.put, List.setIfInBounds_toArray, List.set_cons_zero, List.set_cons_succ]); (refine wpAnyH_take (i := 1) (v := ?_) rfl (by kernel_rfl) (by kernel_rfl) (by kernel_rfl) (fun _ _ _ h => h) (Or.inl ⟨by rfl, ?_⟩) (by assumption) ?_; rotate_left; focus (intro w hSw; have q1 := fun b o hb => Ch.cell hSw (b := b) (o := o) hb (by simp); clear hSw; go_simp; try with_reducible rfl); try simp only [Act.put, List.setIfInBounds_toArray, List.set_cons_zero, List.set_cons_succ]); (refine wpAnyH_take (i := 2) (v := ?_) rfl (by kernel_rfl) (by kernel_rfl) (by kernel_rfl) (fun _ _ _ h => h) (Or.inl ⟨by rfl, ?_⟩) (by assumption) ?_; rotate_left; focus (intro w hSw; have q1 := fun b o hb => Ch.cell hSw (b := b) (o := o) hb (by simp); clear hSw; go_simp; try with_reducible rfl); try simp only [Act.put, List.setIfInBounds_toArray, List.set_cons_zero, List.set_cons_succ]); (refine wpAnyH_take (i := 3) (v := ?_) rfl (by kernel_rfl) (by kernel_rfl) (by kernel_rfl) (fun _ _ _ h => h) (Or.inl ⟨by rfl, ?_⟩) (by assumption) ?_; rotate_left; focus (intro w hSw; have q1 := fun b o hb => Ch.cell hSw (b := b) (o := o) hb (by simp); clear hSw; go_simp; try with_reducible rfl); try simp only [Act.put, List.setIfInBounds_toArray, List.set_cons_zero, List.set_cons_succ]); (refine wpAnyH_take (i := 4) (v := ?_) rfl (by kernel_rfl) (by kernel_rfl) (by kernel_rfl) (fun _ _ _ h => h) (Or.inl ⟨by rfl, ?_⟩) (by assumption) ?_; rotate_left; focus (intro w hSw; have q1 := fun b o hb => Ch.cell hSw (b := b) (o := o) hb (by simp); clear hSw; go_simp; try with_reducible rfl); try simp only [Act.put, List.setIfInBounds_toArray, List.set_cons_zero, List.set_cons_succ]); (refine wpAnyH_take (i := 7) (v := ?_) rfl (by kernel_rfl) (by kernel_rfl) (by kernel_rfl) (fun _ _ _ h => h) (Or.inl ⟨by rfl, ?_⟩) (by assumption) ?_; rotate_left; focus (intro w hSw; have q1 := fun b o hb => Ch.cell hSw (b := b) (o := o) hb (by simp); clear hSw; go_simp; try with_reducible rfl); try simp only [Act.put, List.setIfInBounds_toArray, List.set_cons_zero, List.set_cons_succ]); (refine wpAnyH_take (i := 9) (v := ?_) rfl (by kernel_rfl) (by kernel_rfl) (by kernel_rfl) (fun _ _ _ h => h) (Or.inl ⟨by rfl, ?_⟩) (by assumption) ?_; rotate_left; focus (intro w hSw; have q1 := fun b o hb => Ch.cell hSw (b := b) (o := o) hb (by simp); clear hSw; go_simp; try with_reducible rfl); try simp only [Act.put, List.setIfInBounds_toArray, List.set_cons_zero, List.set_cons_succ]); (refine wpAnyH_take (i := 10) (v := ?_) rfl (by kernel_rfl) (by kernel_rfl) (by kernel_rfl) (fun _ _ _ h => h) (Or.inl ⟨by rfl, ?_⟩) (by assumption) ?_; rotate_left; focus (intro w hSw; have q1 := fun b o hb => Ch.cell hSw (b := b) (o := o) hb (by simp); clear hSw; go_simp; try with_reducible rfl); try simp only [Act.put, List.setIfInBounds_toArray, List.set_cons_zero, List.set_cons_succ]); (refine wpAnyH_take (i := 11) (v := ?_) rfl (by kernel_rfl) (by kernel_rfl) (by kernel_rfl) (fun _ _ _ h => h) (Or.inl ⟨by rfl, ?_⟩) (by assumption) ?_; rotate_left; focus (intro w hSw; have q1 := fun b o hb => Ch.cell hSw (b := b) (o := o) hb (by simp); clear hSw; go_simp; try with_reducible rfl); try simp only [Act.put, List.setIfInBounds_toArray, List.set_cons_zero, List.set_cons_succ]); (refine wpAnyH_take (i := 12) (v := ?_) rfl (by kernel_rfl) (by kernel_rfl) (by kernel_rfl) (fun _ _ _ h => h) (Or.inl ⟨by rfl, ?_⟩) (by assumption) ?_; rotate_left; focus (intro w hSw; have q1 := fun b o hb => Ch.cell hSw (b := b) (o := o) hb (by simp); clear hSw; go_simp; try with_reducible rfl); try simp only [Act.put, List.setIfInBounds_toArray, List.set_cons_zero, List.set_cons_succ])
  (refine wpAnyH_ready (rs := [5, 13]) (by kernel_rfl) (by simp) ?_; refine AllReadyH.cons rfl (fun K hK => ?_) (AllReadyH.cons rfl (fun K hK => ?_) AllReadyH.nil) <;> go_simp)
  · (refine hK.out _ _ (((Ch.refl [] _).alloc _).drew) (fun hSx => ?_); refine wpAnyH_more (Ch [] _) (fun w h => Ch.trans hSx h) (Ch.refl [] _) (fun hS => ?_); clear hSx)
    (refine wpAnyH_take (i := 6) (v := ?_) rfl (by kernel_rfl) (by kernel_rfl) (by kernel_rfl) (fun _ _ _ h => h) (Or.inl ⟨by rfl, ?_⟩) (by assumption) ?_; rotate_left; focus (intro w hSw; (have hcv' := HC.out W.heap.size w (hSw.blk ((Blk.new W _ 5).drew) (by simp))); clear hSw; go_simp; try with_reducible rfl); try simp only [Act.put, List.setIfInBounds_toArray, List.set_cons_zero, List.set_cons_succ])
    (refine wpAnyH_take (i := 8) (v := ?_) rfl (by kernel_rfl) (by kernel_rfl) (by kernel_rfl) (fun _ _ _ h => h) (Or.inl ⟨by rfl, ?_⟩) (by assumption) ?_; rotate_left; focus (intro w hSw; have q1 := fun b o hb => Ch.cell hSw (b := b) (o := o) hb (by simp); clear hSw; go_simp; try with_reducible rfl); try simp only [Act.put, List.setIfInBounds_toArray, List.set_cons_zero, List.set_cons_succ])
    (refine wpAnyH_ready (rs := [13]) (by kernel_rfl) (by simp) ?_; refine AllReadyH.cons rfl (fun K hK => ?_) AllReadyH.nil; go_simp)
    refine (Tryz.strings_Repeat _ N _ (by omega) ?_).mono ?_
    · show 1 * N ≤ _; omega
    rintro e w2 ⟨rfl, hb2⟩
    have hc2 := Ch.of_below hb2
    rw [show (⟨#[0]⟩ : ByteArray).data.toList = [0] from rfl, HZ.out]
    (refine hK.out _ _ (Ch.trans (by assumption) hc2) (fun hSx => ?_); refine wpAnyH_more (Ch [] _) (fun w h => Ch.trans hSx h) (Ch.refl [] _) (fun hS => ?_); clear hSx)
    (refine wpAnyH_take (i := 14) (v := ?_) rfl (by kernel_rfl) (by kernel_rfl) (by kernel_rfl) (fun _ _ _ h => h) (Or.inl ⟨by rfl, ?_⟩) (by assumption) ?_; rotate_left; focus (intro w hSw; have q1 := fun b o hb => Ch.cell hSw (b := b) (o := o) hb (by simp); clear hSw; go_simp; try with_reducible rfl); try simp only [Act.put, List.setIfInBounds_toArray, List.set_cons_zero, List.set_cons_succ])
    (refine wpAnyH_ready (rs := [15]) (by kernel_rfl) (by simp) ?_; refine AllReadyH.cons rfl (fun K hK => ?_) AllReadyH.nil; go_simp)
    (refine hK.out _ _ (Ch.refl [] _) (fun hSx => ?_); refine wpAnyH_more (Ch [] _) (fun w h => Ch.trans hSx h) (Ch.refl [] _) (fun hS => ?_); clear hSx)
    (refine wpAnyH_ready (rs := [16]) (by kernel_rfl) (by simp) ?_; refine AllReadyH.cons rfl (fun K hK => ?_) AllReadyH.nil; go_simp)
    (refine hK.out _ _ (Ch.refl [] _) (fun hSx => ?_); refine wpAnyH_more (Ch [] _) (fun w h => Ch.trans hSx h) (Ch.refl [] _) (fun hS => ?_); clear hSx)
    refine wpAnyH_done (by kernel_rfl) ?_ _
    go_wp2_with fail
    go_ret2
    exact ⟨rfl, (((Ch.refl [] W).alloc _).drew).trans hc2⟩
  · refine (Tryz.strings_Repeat _ N _ (by omega) ?_).mono ?_
    · show 1 * N ≤ _; omega
    rintro e w2 ⟨rfl, hb2⟩
    have hc2 := Ch.of_below hb2
    rw [show (⟨#[0]⟩ : ByteArray).data.toList = [0] from rfl, HZ.out]
    (refine hK.out _ _ (Ch.trans (by assumption) hc2) (fun hSx => ?_); refine wpAnyH_more (Ch [] _) (fun w h => Ch.trans hSx h) (Ch.refl [] _) (fun hS => ?_); clear hSx)
    (refine wpAnyH_ready (rs := [5]) (by kernel_rfl) (by simp) ?_; refine AllReadyH.cons rfl (fun K hK => ?_) AllReadyH.nil; go_simp)
    (refine hK.out _ _ ((Ch.refl [] _).alloc _) (fun hSx => ?_); refine wpAnyH_more (Ch [] _) (fun w h => Ch.trans hSx h) (Ch.refl [] _) (fun hS => ?_); clear hSx)
    (refine wpAnyH_take (i := 6) (v := ?_) rfl (by kernel_rfl) (by kernel_rfl) (by kernel_rfl) (fun _ _ _ h => h) (Or.inl ⟨by rfl, ?_⟩) (by assumption) ?_; rotate_left; focus (intro w hSw; (have hcv' := HC.out w2.heap.size w (hSw.blk (Blk.new w2 _ 5) (by simp))); clear hSw; go_simp; try with_reducible rfl); try simp only [Act.put, List.setIfInBounds_toArray, List.set_cons_zero, List.set_cons_succ])
    (refine wpAnyH_take (i := 8) (v := ?_) rfl (by kernel_rfl) (by kernel_rfl) (by kernel_rfl) (fun _ _ _ h => h) (Or.inl ⟨by rfl, ?_⟩) (by assumption) ?_; rotate_left; focus (intro w hSw; have q1 := fun b o hb => Ch.cell hSw (b := b) (o := o) hb (by simp); clear hSw; go_simp; try with_reducible rfl); try simp only [Act.put, List.setIfInBounds_toArray, List.set_cons_zero, List.set_cons_succ]); (refine wpAnyH_take (i := 14) (v := ?_) rfl (by kernel_rfl) (by kernel_rfl) (by kernel_rfl) (fun _ _ _ h => h) (Or.inl ⟨by rfl, ?_⟩) (by assumption) ?_; rotate_left; focus (intro w hSw; have q1 := fun b o hb => Ch.cell hSw (b := b) (o := o) hb (by simp); clear hSw; go_simp; try with_reducible rfl); try simp only [Act.put, List.setIfInBounds_toArray, List.set_cons_zero, List.set_cons_succ])
    (refine wpAnyH_ready (rs := [15]) (by kernel_rfl) (by simp) ?_; refine AllReadyH.cons rfl (fun K hK => ?_) AllReadyH.nil; go_simp)
    (refine hK.out _ _ (Ch.refl [] _) (fun hSx => ?_); refine wpAnyH_more (Ch [] _) (fun w h => Ch.trans hSx h) (Ch.refl [] _) (fun hS => ?_); clear hSx)
    (refine wpAnyH_ready (rs := [16]) (by kernel_rfl) (by simp) ?_; refine AllReadyH.cons rfl (fun K hK => ?_) AllReadyH.nil; go_simp)
    (refine hK.out _ _ (Ch.refl [] _) (fun hSx => ?_); refine wpAnyH_more (Ch [] _) (fun w h => Ch.trans hSx h) (Ch.refl [] _) (fun hS => ?_); clear hSx)
    refine wpAnyH_done (by kernel_rfl) ?_ _
    go_wp2_with fail
    go_ret2
    exact ⟨rfl, (((Ch.refl [] W).drew).trans hc2).alloc _⟩
end Go.Proofs.YtmimhgngbpancaaGreatDoor
