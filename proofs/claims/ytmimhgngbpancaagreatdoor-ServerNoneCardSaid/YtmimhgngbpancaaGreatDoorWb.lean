import Derived.Test.YtmimhgngbpancaaGreatDoorWa
set_option linter.unusedSimpArgs false
set_option linter.unusedVariables false
namespace Go.Proofs.YtmimhgngbpancaaGreatDoor
open Go.RowKit
theorem bcell {W w1 : World} (hb : Below W.heap.size W w1) : (∀ b o, b < W.heap.size → w1.cell? ⟨b, o, none⟩ = W.cell? ⟨b, o, none⟩) ∧ (∀ b o, b < W.heap.size → w1.frozen? ⟨b, o, none⟩ = W.frozen? ⟨b, o, none⟩) :=
  ⟨fun b o h => hb.cell (p := ⟨b, o, none⟩) h, fun b o h => hb.frozen (p := ⟨b, o, none⟩) h⟩
set_option maxHeartbeats 2000000 in
/-- gate.New -/
theorem gatenew (c0 c1 c2 c3 c4 c5 c6 c7 c8 : Int) (w : World) (h1 : 0 ≤ c1) (h1' : c1 ≤ 1048576) (h2 : 0 ≤ c2) (h2' : c2 ≤ 1048576) (h3 : 0 ≤ c3) (h3' : c3 ≤ 1048576) (h4 : 0 ≤ c4) (h4' : c4 ≤ 1048576) (h5 : 0 ≤ c5) (h5' : c5 ≤ 1048576) :
    Calls Tryz.prog 78 #[.agg #[.int .i64 c0, .int .i64 c1, .int .i64 c2, .int .i64 c3, .int .i64 c4, .int .i64 c5, .int .i64 c6, .int .i64 c7, .int .i64 c8]] w fun e w' =>
      ∃ g, e = .returned (.pointer (some ⟨g, 0, none⟩)) ∧ w.heap.size ≤ g ∧ Blk w' g #[.int .i64 c1, .int .i64 c2, .int .i64 c2, .int .i64 c3, .int .i64 0, .int .i64 c4, .int .i64 0, .int .i64 c5, .int .i64 0, .bool false] 109 ∧ Ch [] w w' := by
  go_enter Tryz.func78, Tryz.ntmps78
  go_wp2_with fail
  refine wp_region_held_drew (S := Ch [] _) (by kernel_rfl) ((Ch.refl [] _).drew) (fun hS => ?_)
  (refine wpAnyH_take (i := 0) (v := ?_) rfl (by kernel_rfl) (by kernel_rfl) (by kernel_rfl) (fun _ _ _ h => h) (Or.inl ⟨by rfl, ?_⟩) (by assumption) ?_; rotate_left; focus (intro w hSw; have q1 := fun b o hb => Ch.cell hSw (b := b) (o := o) hb (by simp); clear hSw; go_simp; try with_reducible rfl); try simp only [Act.put, List.setIfInBounds_toArray, List.set_cons_zero, List.set_cons_succ]); (refine wpAnyH_take (i := 1) (v := ?_) rfl (by kernel_rfl) (by kernel_rfl) (by kernel_rfl) (fun _ _ _ h => h) (Or.inl ⟨by rfl, ?_⟩) (by assumption) ?_; rotate_left; focus (intro w hSw; have q1 := fun b o hb => Ch.cell hSw (b := b) (o := o) hb (by simp); clear hSw; go_simp; try with_reducible rfl); try simp only [Act.put, List.setIfInBounds_toArray, List.set_cons_zero, List.set_cons_succ]); (refine wpAnyH_take (i := 2) (v := ?_) rfl (by kernel_rfl) (by kernel_rfl) (by kernel_rfl) (fun _ _ _ h => h) (Or.inl ⟨by rfl, ?_⟩) (by assumption) ?_; rotate_left; focus (intro w hSw; have q1 := fun b o hb => Ch.cell hSw (b := b) (o := o) hb (by simp); clear hSw; go_simp; try with_reducible rfl); try simp only [Act.put, List.setIfInBounds_toArray, List.set_cons_zero, List.set_cons_succ]); (refine wpAnyH_take (i := 3) (v := ?_) rfl (by kernel_rfl) (by kernel_rfl) (by kernel_rfl) (fun _ _ _ h => h) (Or.inl ⟨by rfl, ?_⟩) (by assumption) ?_; rotate_left; focus (intro w hSw; have q1 := fun b o hb => Ch.cell hSw (b := b) (o := o) hb (by simp); clear hSw; go_simp; try with_reducible rfl); try simp only [Act.put, List.setIfInBounds_toArray, List.set_cons_zero, List.set_cons_succ]); (refine wpAnyH_take (i := 7) (v := ?_) rfl (by kernel_rfl) (by kernel_rfl) (by kernel_rfl) (fun _ _ _ h => h) (Or.inl ⟨by rfl, ?_⟩) (by assumption) ?_; rotate_left; focus (intro w hSw; have q1 := fun b o hb => Ch.cell hSw (b := b) (o := o) hb (by simp); clear hSw; go_simp; try with_reducible rfl); try simp only [Act.put, List.setIfInBounds_toArray, List.set_cons_zero, List.set_cons_succ]); (refine wpAnyH_take (i := 8) (v := ?_) rfl (by kernel_rfl) (by kernel_rfl) (by kernel_rfl) (fun _ _ _ h => h) (Or.inl ⟨by rfl, ?_⟩) (by assumption) ?_; rotate_left; focus (intro w hSw; have q1 := fun b o hb => Ch.cell hSw (b := b) (o := o) hb (by simp); clear hSw; go_simp; try with_reducible rfl); try simp only [Act.put, List.setIfInBounds_toArray, List.set_cons_zero, List.set_cons_succ]); (refine wpAnyH_take (i := 12) (v := ?_) rfl (by kernel_rfl) (by kernel_rfl) (by kernel_rfl) (fun _ _ _ h => h) (Or.inl ⟨by rfl, ?_⟩) (by assumption) ?_; rotate_left; focus (intro w hSw; have q1 := fun b o hb => Ch.cell hSw (b := b) (o := o) hb (by simp); clear hSw; go_simp; try with_reducible rfl); try simp only [Act.put, List.setIfInBounds_toArray, List.set_cons_zero, List.set_cons_succ]); (refine wpAnyH_take (i := 13) (v := ?_) rfl (by kernel_rfl) (by kernel_rfl) (by kernel_rfl) (fun _ _ _ h => h) (Or.inl ⟨by rfl, ?_⟩) (by assumption) ?_; rotate_left; focus (intro w hSw; have q1 := fun b o hb => Ch.cell hSw (b := b) (o := o) hb (by simp); clear hSw; go_simp; try with_reducible rfl); try simp only [Act.put, List.setIfInBounds_toArray, List.set_cons_zero, List.set_cons_succ]); (refine wpAnyH_take (i := 17) (v := ?_) rfl (by kernel_rfl) (by kernel_rfl) (by kernel_rfl) (fun _ _ _ h => h) (Or.inl ⟨by rfl, ?_⟩) (by assumption) ?_; rotate_left; focus (intro w hSw; have q1 := fun b o hb => Ch.cell hSw (b := b) (o := o) hb (by simp); clear hSw; go_simp; try with_reducible rfl); try simp only [Act.put, List.setIfInBounds_toArray, List.set_cons_zero, List.set_cons_succ]); (refine wpAnyH_take (i := 18) (v := ?_) rfl (by kernel_rfl) (by kernel_rfl) (by kernel_rfl) (fun _ _ _ h => h) (Or.inl ⟨by rfl, ?_⟩) (by assumption) ?_; rotate_left; focus (intro w hSw; have q1 := fun b o hb => Ch.cell hSw (b := b) (o := o) hb (by simp); clear hSw; go_simp; try with_reducible rfl); try simp only [Act.put, List.setIfInBounds_toArray, List.set_cons_zero, List.set_cons_succ])
  (refine wpAnyH_ready (rs := [4]) (by kernel_rfl) (by simp) ?_; refine AllReadyH.cons rfl (fun K hK => ?_) AllReadyH.nil; go_simp)
  refine (bucketnew c1 c2 _ h1 h1' h2 h2').mono ?_
  rintro e w1 ⟨rfl, hb1, hc1⟩
  have hn1 := hb1.lt
  simp only [World.size_drew, World.size_alloc] at hb1 hn1
  (refine hK.out _ _ (Ch.trans (by assumption) hc1) (fun hSx => ?_); refine wpAnyH_more (Ch [] _) (fun w h => Ch.trans hSx h) (Ch.refl [] _) (fun hS => ?_); clear hSx)
  have b0 := hb1.cell (i := 0) rfl
  have b1 := hb1.cell (i := 1) rfl
  have b2 := hb1.cell (i := 2) rfl
  (refine wpAnyH_take (i := 5) (v := ?_) rfl (by kernel_rfl) (by kernel_rfl) (by kernel_rfl) (fun _ _ _ h => h) (Or.inl ⟨by rfl, ?_⟩) (by assumption) ?_; rotate_left; focus (intro w hSw; have q1 := fun b o hb => Ch.cell hSw (b := b) (o := o) hb (by simp); clear hSw; go_simp; try with_reducible rfl); try simp only [Act.put, List.setIfInBounds_toArray, List.set_cons_zero, List.set_cons_succ]); (refine wpAnyH_take (i := 6) (v := ?_) rfl (by kernel_rfl) (by kernel_rfl) (by kernel_rfl) (fun _ _ _ h => h) (Or.inl ⟨by rfl, ?_⟩) (by assumption) ?_; rotate_left; focus (intro w hSw; have q1 := fun b o hb => Ch.cell hSw (b := b) (o := o) hb (by simp); clear hSw; go_simp; try with_reducible rfl); try simp only [Act.put, List.setIfInBounds_toArray, List.set_cons_zero, List.set_cons_succ])
  (refine wpAnyH_ready (rs := [9]) (by kernel_rfl) (by simp) ?_; refine AllReadyH.cons rfl (fun K hK => ?_) AllReadyH.nil; go_simp)
  refine (accnew c3 _ h3 h3').mono ?_
  rintro e w2 ⟨rfl, hb2, hc2⟩
  have hn2 := hb2.lt
  (refine hK.out _ _ (Ch.trans (by assumption) hc2) (fun hSx => ?_); refine wpAnyH_more (Ch [] _) (fun w h => Ch.trans hSx h) (Ch.refl [] _) (fun hS => ?_); clear hSx)
  have d0 := hb2.cell (i := 0) rfl
  have d1 := hb2.cell (i := 1) rfl
  (refine wpAnyH_take (i := 10) (v := ?_) rfl (by kernel_rfl) (by kernel_rfl) (by kernel_rfl) (fun _ _ _ h => h) (Or.inl ⟨by rfl, ?_⟩) (by assumption) ?_; rotate_left; focus (intro w hSw; have q1 := fun b o hb => Ch.cell hSw (b := b) (o := o) hb (by simp); clear hSw; go_simp; try with_reducible rfl); try simp only [Act.put, List.setIfInBounds_toArray, List.set_cons_zero, List.set_cons_succ]); (refine wpAnyH_take (i := 11) (v := ?_) rfl (by kernel_rfl) (by kernel_rfl) (by kernel_rfl) (fun _ _ _ h => h) (Or.inl ⟨by rfl, ?_⟩) (by assumption) ?_; rotate_left; focus (intro w hSw; have q1 := fun b o hb => Ch.cell hSw (b := b) (o := o) hb (by simp); clear hSw; go_simp; try with_reducible rfl); try simp only [Act.put, List.setIfInBounds_toArray, List.set_cons_zero, List.set_cons_succ])
  (refine wpAnyH_ready (rs := [14]) (by kernel_rfl) (by simp) ?_; refine AllReadyH.cons rfl (fun K hK => ?_) AllReadyH.nil; go_simp)
  refine (accnew c4 _ h4 h4').mono ?_
  rintro e w3 ⟨rfl, hb3, hc3⟩
  have hn3 := hb3.lt
  (refine hK.out _ _ (Ch.trans (by assumption) hc3) (fun hSx => ?_); refine wpAnyH_more (Ch [] _) (fun w h => Ch.trans hSx h) (Ch.refl [] _) (fun hS => ?_); clear hSx)
  have f0 := hb3.cell (i := 0) rfl
  have f1 := hb3.cell (i := 1) rfl
  (refine wpAnyH_take (i := 15) (v := ?_) rfl (by kernel_rfl) (by kernel_rfl) (by kernel_rfl) (fun _ _ _ h => h) (Or.inl ⟨by rfl, ?_⟩) (by assumption) ?_; rotate_left; focus (intro w hSw; have q1 := fun b o hb => Ch.cell hSw (b := b) (o := o) hb (by simp); clear hSw; go_simp; try with_reducible rfl); try simp only [Act.put, List.setIfInBounds_toArray, List.set_cons_zero, List.set_cons_succ]); (refine wpAnyH_take (i := 16) (v := ?_) rfl (by kernel_rfl) (by kernel_rfl) (by kernel_rfl) (fun _ _ _ h => h) (Or.inl ⟨by rfl, ?_⟩) (by assumption) ?_; rotate_left; focus (intro w hSw; have q1 := fun b o hb => Ch.cell hSw (b := b) (o := o) hb (by simp); clear hSw; go_simp; try with_reducible rfl); try simp only [Act.put, List.setIfInBounds_toArray, List.set_cons_zero, List.set_cons_succ])
  (refine wpAnyH_ready (rs := [19]) (by kernel_rfl) (by simp) ?_; refine AllReadyH.cons rfl (fun K hK => ?_) AllReadyH.nil; go_simp)
  refine (accnew c5 _ h5 h5').mono ?_
  rintro e w4 ⟨rfl, hb4, hc4⟩
  have hn4 := hb4.lt
  (refine hK.out _ _ (Ch.trans (by assumption) hc4) (fun hSx => ?_); refine wpAnyH_more (Ch [] _) (fun w h => Ch.trans hSx h) (Ch.refl [] _) (fun hS => ?_); clear hSx)
  have g0 := hb4.cell (i := 0) rfl
  have g1 := hb4.cell (i := 1) rfl
  (refine wpAnyH_take (i := 20) (v := ?_) rfl (by kernel_rfl) (by kernel_rfl) (by kernel_rfl) (fun _ _ _ h => h) (Or.inl ⟨by rfl, ?_⟩) (by assumption) ?_; rotate_left; focus (intro w hSw; have q1 := fun b o hb => Ch.cell hSw (b := b) (o := o) hb (by simp); clear hSw; go_simp; try with_reducible rfl); try simp only [Act.put, List.setIfInBounds_toArray, List.set_cons_zero, List.set_cons_succ]); (refine wpAnyH_take (i := 21) (v := ?_) rfl (by kernel_rfl) (by kernel_rfl) (by kernel_rfl) (fun _ _ _ h => h) (Or.inl ⟨by rfl, ?_⟩) (by assumption) ?_; rotate_left; focus (intro w hSw; have q1 := fun b o hb => Ch.cell hSw (b := b) (o := o) hb (by simp); clear hSw; go_simp; try with_reducible rfl); try simp only [Act.put, List.setIfInBounds_toArray, List.set_cons_zero, List.set_cons_succ]); (refine wpAnyH_take (i := 22) (v := ?_) rfl (by kernel_rfl) (by kernel_rfl) (by kernel_rfl) (fun _ _ _ h => h) (Or.inl ⟨by rfl, ?_⟩) (by assumption) ?_; rotate_left; focus (intro w hSw; have q1 := fun b o hb => Ch.cell hSw (b := b) (o := o) hb (by simp); clear hSw; go_simp; try with_reducible rfl); try simp only [Act.put, List.setIfInBounds_toArray, List.set_cons_zero, List.set_cons_succ])
  (refine wpAnyH_ready (rs := [23]) (by kernel_rfl) (by simp) ?_; refine AllReadyH.cons rfl (fun K hK => ?_) AllReadyH.nil; go_simp)
  refine hK.out _ _ ((Ch.refl [] _).alloc _) (fun hS => ?_)
  (refine wpAnyH_take (i := 24) (v := ?_) rfl (by kernel_rfl) (by kernel_rfl) (by kernel_rfl) (fun _ _ _ h => h) (Or.inl ⟨by rfl, ?_⟩) (by assumption) ?_; rotate_left; focus (intro w hSw; have q1 := fun b o hb => Ch.cell hSw (b := b) (o := o) hb (by simp); clear hSw; go_simp; try with_reducible rfl); try simp only [Act.put, List.setIfInBounds_toArray, List.set_cons_zero, List.set_cons_succ])
  refine wpAnyH_done (by kernel_rfl) ?_ _
  go_wp2_with fail
  go_ret
  refine ⟨_, rfl, by omega, Blk.new _ _ _, ?_⟩
  exact (((((((Ch.refl [] w).alloc _).drew).trans hc1).trans hc2).trans hc3).trans hc4).alloc _
end Go.Proofs.YtmimhgngbpancaaGreatDoor
