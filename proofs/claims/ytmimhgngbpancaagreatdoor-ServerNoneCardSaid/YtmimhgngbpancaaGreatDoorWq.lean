import Derived.Test.YtmimhgngbpancaaGreatDoorWp
/- Replies: put. -/
set_option linter.unusedSimpArgs false
set_option linter.unusedVariables false
namespace Go.Proofs.YtmimhgngbpancaaGreatDoor
open Go.RowKit

/-- What is padded of a reply. -/
def replyS (id st : Int) (data : ByteArray) : ByteArray := vputB st.toNat ++ vputB id.toNat ++ data
def replyB (id st : Int) (data : ByteArray) : ByteArray := frameB 9 0 (padB (replyS id st data))
theorem replyS_size (id st : Int) (data : ByteArray) : (replyS id st data).size ≤ 20 + data.size := by
  have := vputB_size st.toNat
  have := vputB_size id.toNat
  unfold replyS
  rw [ByteArray.size_append, ByteArray.size_append]
  omega

set_option maxRecDepth 100000 in
set_option maxHeartbeats 1000000 in
theorem reply_put (id st : Int) (data : ByteArray) (W : World) (hi0 : 0 ≤ id) (hi1 : id < 18446744073709551616) (hs0 : 0 ≤ st) (hs1 : st ≤ 1048576) (hd : (replyS id st data).size ≤ 1022) :
    Calls Tryz.prog 82 #[.agg #[.int .u64 id, .int .i64 st, .string data]] W fun e w' => e = .returned (.tuple #[.string (replyB id st data), .int .i64 0]) ∧ Ch [] W w' := by
  have hw : IntKind.u64.wrap st = st := wrap_u64_of hs0 (by omega)
  have ha := vputB_size st.toNat
  have hb := vputB_size id.toNat
  have hsz : (vputB st.toNat).size + (vputB id.toNat).size + data.size ≤ 1022 := by
    unfold replyS at hd; rw [ByteArray.size_append, ByteArray.size_append] at hd; exact hd
  have hpz := padB_size _ hd
  have hcl := cls_ge (replyS id st data).size (by omega)
  have hfin : replyB id st data = frameB 9 0 (padB (vputB st.toNat ++ vputB id.toNat ++ data)) := rfl
  have hd' : (vputB st.toNat ++ vputB id.toNat ++ data).size ≤ 1022 := hd
  have hpz' : (padB (vputB st.toNat ++ vputB id.toNat ++ data)).size ≤ 1024 := by
    have : ((padB (vputB st.toNat ++ vputB id.toNat ++ data)).size : Int) = cls (replyS id st data).size := hpz
    omega
  rw [hfin]
  obtain ⟨A, hA⟩ : ∃ A, vputB st.toNat = A := ⟨_, rfl⟩
  obtain ⟨B, hB⟩ : ∃ B, vputB id.toNat = B := ⟨_, rfl⟩
  have HA := Lib.hid hA
  have HB := Lib.hid hB
  rw [hA, hB] at hd' hpz' ⊢
  rw [hA] at ha
  rw [hB] at hb
  rw [hA, hB] at hsz
  have HD := Lib.hid hd'
  have HP := Lib.hid hpz'
  clear hpz hcl hfin hd hd' hpz' hA hB
  go_enter Tryz.func82, Tryz.ntmps82
  go_wp2_with fail
  refine (bounded_yes _ _ hs0 hs1).mono ?_
  rintro e w1 ⟨rfl, rfl⟩
  go_wp2_with fail
  refine wp_region_held_drew (S := Ch [] _) (by kernel_rfl) ((Ch.refl [] _).drew) (fun hS => ?_)
  (refine wpAnyH_take (i := 0) (v := ?_) rfl (by kernel_rfl) (by kernel_rfl) (by kernel_rfl) (fun _ _ _ h => h) (Or.inl ⟨by rfl, ?_⟩) (by assumption) ?_; rotate_left; focus (intro w hSw; have q1 := fun b o hb => Ch.cell hSw (b := b) (o := o) hb (by simp); clear hSw; go_simp; try with_reducible rfl); try simp only [Act.put, List.setIfInBounds_toArray, List.set_cons_zero, List.set_cons_succ]); (refine wpAnyH_take (i := 1) (v := ?_) rfl (by kernel_rfl) (by kernel_rfl) (by kernel_rfl) (fun _ _ _ h => h) (Or.inl ⟨by rfl, ?_⟩) (by assumption) ?_; rotate_left; focus (intro w hSw; have q1 := fun b o hb => Ch.cell hSw (b := b) (o := o) hb (by simp); clear hSw; go_simp; try with_reducible rfl); try simp only [Act.put, List.setIfInBounds_toArray, List.set_cons_zero, List.set_cons_succ]); (refine wpAnyH_take (i := 2) (v := ?_) rfl (by kernel_rfl) (by kernel_rfl) (by kernel_rfl) (fun _ _ _ h => h) (Or.inl ⟨by rfl, ?_⟩) (by assumption) ?_; rotate_left; focus (intro w hSw; have q1 := fun b o hb => Ch.cell hSw (b := b) (o := o) hb (by simp); clear hSw; go_simp; try with_reducible rfl); try simp only [Act.put, List.setIfInBounds_toArray, List.set_cons_zero, List.set_cons_succ]); (refine wpAnyH_take (i := 4) (v := ?_) rfl (by kernel_rfl) (by kernel_rfl) (by kernel_rfl) (fun _ _ _ h => h) (Or.inl ⟨by rfl, ?_⟩) (by assumption) ?_; rotate_left; focus (intro w hSw; have q1 := fun b o hb => Ch.cell hSw (b := b) (o := o) hb (by simp); clear hSw; go_simp; try with_reducible rfl); try simp only [Act.put, List.setIfInBounds_toArray, List.set_cons_zero, List.set_cons_succ]); (refine wpAnyH_take (i := 5) (v := ?_) rfl (by kernel_rfl) (by kernel_rfl) (by kernel_rfl) (fun _ _ _ h => h) (Or.inl ⟨by rfl, ?_⟩) (by assumption) ?_; rotate_left; focus (intro w hSw; have q1 := fun b o hb => Ch.cell hSw (b := b) (o := o) hb (by simp); clear hSw; go_simp; try with_reducible rfl); try simp only [Act.put, List.setIfInBounds_toArray, List.set_cons_zero, List.set_cons_succ]); (refine wpAnyH_take (i := 7) (v := ?_) rfl (by kernel_rfl) (by kernel_rfl) (by kernel_rfl) (fun _ _ _ h => h) (Or.inl ⟨by rfl, ?_⟩) (by assumption) ?_; rotate_left; focus (intro w hSw; have q1 := fun b o hb => Ch.cell hSw (b := b) (o := o) hb (by simp); clear hSw; go_simp; try with_reducible rfl); try simp only [Act.put, List.setIfInBounds_toArray, List.set_cons_zero, List.set_cons_succ]); (refine wpAnyH_take (i := 8) (v := ?_) rfl (by kernel_rfl) (by kernel_rfl) (by kernel_rfl) (fun _ _ _ h => h) (Or.inl ⟨by rfl, ?_⟩) (by assumption) ?_; rotate_left; focus (intro w hSw; have q1 := fun b o hb => Ch.cell hSw (b := b) (o := o) hb (by simp); clear hSw; go_simp; try with_reducible rfl); try simp only [Act.put, List.setIfInBounds_toArray, List.set_cons_zero, List.set_cons_succ])
  (refine wpAnyH_ready (rs := [3]) (by kernel_rfl) (by simp) ?_; refine AllReadyH.cons rfl (fun K hK => ?_) AllReadyH.nil; go_simp)
  refine (varput st _ hs0 (by omega)).mono ?_
  rintro e w2 ⟨rfl, hc2⟩
  rw [HA.out]
  (refine hK.out _ _ (Ch.trans (by assumption) hc2) (fun hSx => ?_); refine wpAnyH_more (Ch [] _) (fun w h => Ch.trans hSx h) (Ch.refl [] _) (fun hS => ?_); clear hSx)
  (refine wpAnyH_ready (rs := [6]) (by kernel_rfl) (by simp) ?_; refine AllReadyH.cons rfl (fun K hK => ?_) AllReadyH.nil; go_simp)
  refine (varput id _ hi0 hi1).mono ?_
  rintro e w3 ⟨rfl, hc3⟩
  rw [HB.out]
  (refine hK.out _ _ (Ch.trans (by assumption) hc3) (fun hSx => ?_); refine wpAnyH_more (Ch [] _) (fun w h => Ch.trans hSx h) (Ch.refl [] _) (fun hS => ?_); clear hSx)
  (refine wpAnyH_ready (rs := [9]) (by kernel_rfl) (by simp) ?_; refine AllReadyH.cons rfl (fun K hK => ?_) AllReadyH.nil; go_simp)
  (refine hK.out _ _ ((Ch.refl [] _).alloc _) (fun hSx => ?_); refine wpAnyH_more (Ch [] _) (fun w h => Ch.trans hSx h) (Ch.refl [] _) (fun hS => ?_); clear hSx)
  (refine wpAnyH_ready (rs := [10]) (by kernel_rfl) (by simp) ?_; refine AllReadyH.cons rfl (fun K hK => ?_) AllReadyH.nil; go_simp)
  refine (reply_row w3.heap.size 3 A B data _ (Blk.new _ _ _) (by omega) (by omega)).mono ?_
  rintro e w4 ⟨rfl, hc4⟩
  (refine hK.out _ _ (Ch.trans (by assumption) hc4) (fun hSx => ?_); refine wpAnyH_more (Ch [] _) (fun w h => Ch.trans hSx h) (Ch.refl [] _) (fun hS => ?_); clear hSx)
  (refine wpAnyH_ready (rs := [11]) (by kernel_rfl) (by simp) ?_; refine AllReadyH.cons rfl (fun K hK => ?_) AllReadyH.nil; go_simp)
  refine (pad_pad (A ++ B ++ data) _ HD.out).mono ?_
  rintro e w5 ⟨rfl, hc5⟩
  (refine hK.out _ _ (Ch.trans (by assumption) hc5) (fun hSx => ?_); refine wpAnyH_more (Ch [] _) (fun w h => Ch.trans hSx h) (Ch.refl [] _) (fun hS => ?_); clear hSx)
  (refine wpAnyH_take (i := 12) (v := ?_) rfl (by kernel_rfl) (by kernel_rfl) (by kernel_rfl) (fun _ _ _ h => h) (Or.inl ⟨by rfl, ?_⟩) (by assumption) ?_; rotate_left; focus (intro w hSw; have q1 := fun b o hb => Ch.cell hSw (b := b) (o := o) hb (by simp); clear hSw; go_simp; try with_reducible rfl); try simp only [Act.put, List.setIfInBounds_toArray, List.set_cons_zero, List.set_cons_succ]); (refine wpAnyH_take (i := 13) (v := ?_) rfl (by kernel_rfl) (by kernel_rfl) (by kernel_rfl) (fun _ _ _ h => h) (Or.inl ⟨by rfl, ?_⟩) (by assumption) ?_; rotate_left; focus (intro w hSw; have q1 := fun b o hb => Ch.cell hSw (b := b) (o := o) hb (by simp); clear hSw; go_simp; try with_reducible rfl); try simp only [Act.put, List.setIfInBounds_toArray, List.set_cons_zero, List.set_cons_succ]); (refine wpAnyH_take (i := 14) (v := ?_) rfl (by kernel_rfl) (by kernel_rfl) (by kernel_rfl) (fun _ _ _ h => h) (Or.inl ⟨by rfl, ?_⟩) (by assumption) ?_; rotate_left; focus (intro w hSw; have q1 := fun b o hb => Ch.cell hSw (b := b) (o := o) hb (by simp); clear hSw; go_simp; try with_reducible rfl); try simp only [Act.put, List.setIfInBounds_toArray, List.set_cons_zero, List.set_cons_succ])
  (refine wpAnyH_ready (rs := [15]) (by kernel_rfl) (by simp) ?_; refine AllReadyH.cons rfl (fun K hK => ?_) AllReadyH.nil; go_simp)
  (refine hK.out _ _ (Ch.refl [] _) (fun hSx => ?_); refine wpAnyH_more (Ch [] _) (fun w h => Ch.trans hSx h) (Ch.refl [] _) (fun hS => ?_); clear hSx)
  (refine wpAnyH_ready (rs := [16]) (by kernel_rfl) (by simp) ?_; refine AllReadyH.cons rfl (fun K hK => ?_) AllReadyH.nil; go_simp)
  (refine hK.out _ _ (Ch.refl [] _) (fun hSx => ?_); refine wpAnyH_more (Ch [] _) (fun w h => Ch.trans hSx h) (Ch.refl [] _) (fun hS => ?_); clear hSx)
  refine wpAnyH_done (by kernel_rfl) ?_ _
  go_wp2_with fail
  refine (frame_put 9 0 (padB (A ++ B ++ data)) _ (by omega) (by omega) (by omega) (by omega) HP.out).mono ?_
  rintro e w6 ⟨rfl, hc6⟩
  go_wp2_with fail
  go_ret2
  exact ⟨rfl, (((((((Ch.refl [] W).alloc _).drew).trans hc2).trans hc3).alloc _).trans hc4).trans (hc5.trans hc6)⟩

theorem reply_fail (id st : Int) (W : World) (hi0 : 0 ≤ id) (hi1 : id < 18446744073709551616) (hs0 : 0 ≤ st) (hs1 : st ≤ 1048576) :
    Calls Tryz.prog 49 #[.int .u64 id, .int .i64 st] W fun e w' => e = .returned (.string (replyB id st ByteArray.empty)) ∧ Ch [] W w' := by
  have hsz := replyS_size id st ByteArray.empty
  have he : ByteArray.empty.size = 0 := rfl
  go_enter Tryz.func49, Tryz.ntmps49
  go_wp2_with fail
  refine (bounded_yes _ _ hs0 hs1).mono ?_
  rintro e w1 ⟨rfl, rfl⟩
  go_wp2_with fail
  refine (reply_put id st ByteArray.empty _ hi0 hi1 hs0 hs1 (by omega)).mono ?_
  rintro e w1 ⟨rfl, hc1⟩
  go_wp2_with fail
  go_ret
  exact ⟨rfl, hc1⟩
end Go.Proofs.YtmimhgngbpancaaGreatDoor
