import Derived.Test.YtmimhgngbpancaaGreatDoorWs
/- A server without tenants: a frame on a fresh connection. -/
set_option linter.unusedSimpArgs false
set_option linter.unusedVariables false
namespace Go.Proofs.YtmimhgngbpancaaGreatDoor
open Go.RowKit

set_option maxRecDepth 100000 in
set_option maxHeartbeats 2000000 in
theorem come_bad (B s tb tm tn g : Nat) (v : Value) (now : Int) (ls : List Line) (n : Nat) (l : Line) (k fl : Int) (body : ByteArray) (w : World) (hV : Srv B w s tb tm tn g v now) (hc : Conns w v ls) (hl : ls[n]? = some l) (hst : l.stage < 2) (how : l.owner = -1) (hlen : l.outs.length < 1099511627776) (hk : k ≠ 1)
    (hb : body.size ≤ 9223372036854775807) (hbad : doneE (helloR body) ≠ 0) :
    Calls Tryz.prog 21 #[.pointer (some ⟨s, 0, none⟩), .int .i64 n, .agg #[.int .i64 k, .int .i64 fl, .string body]] w fun e w' => e = .returned (.agg #[.int .i64 n, .int .i64 (-1), .int .i64 k, .string body, .int .i64 16, .string ByteArray.empty]) ∧ ∃ out', Srv B w' s tb tm tn g v now ∧ Conns w' v (ls.set n (l.refused out')) ∧ Ch (foot ls) w w' := by
  have hflt := foot_lt hc
  go_enter Tryz.func21, Tryz.ntmps21
  go_wp2_with fail
  refine wp_region_held_drew (S := Ch [] _) (by kernel_rfl) ((Ch.refl [] _).drew) (fun hS => ?_)
  (refine wpAnyH_take (i := 0) (v := ?_) rfl (by kernel_rfl) (by kernel_rfl) (by kernel_rfl) (fun _ _ _ h => h) (Or.inl ⟨by rfl, ?_⟩) (by assumption) ?_; rotate_left; focus (intro w hSw; have q1 := fun b o hb => Ch.cell hSw (b := b) (o := o) hb (by simp); clear hSw; go_simp; try with_reducible rfl); try simp only [Act.put, List.setIfInBounds_toArray, List.set_cons_zero, List.set_cons_succ]); (refine wpAnyH_take (i := 1) (v := ?_) rfl (by kernel_rfl) (by kernel_rfl) (by kernel_rfl) (fun _ _ _ h => h) (Or.inl ⟨by rfl, ?_⟩) (by assumption) ?_; rotate_left; focus (intro w hSw; have q1 := fun b o hb => Ch.cell hSw (b := b) (o := o) hb (by simp); clear hSw; go_simp; try with_reducible rfl); try simp only [Act.put, List.setIfInBounds_toArray, List.set_cons_zero, List.set_cons_succ]); (refine wpAnyH_take (i := 2) (v := ?_) rfl (by kernel_rfl) (by kernel_rfl) (by kernel_rfl) (fun _ _ _ h => h) (Or.inl ⟨by rfl, ?_⟩) (by assumption) ?_; rotate_left; focus (intro w hSw; have q1 := fun b o hb => Ch.cell hSw (b := b) (o := o) hb (by simp); clear hSw; go_simp; try with_reducible rfl); try simp only [Act.put, List.setIfInBounds_toArray, List.set_cons_zero, List.set_cons_succ]); (refine wpAnyH_take (i := 3) (v := ?_) rfl (by kernel_rfl) (by kernel_rfl) (by kernel_rfl) (fun _ _ _ h => h) (Or.inl ⟨by rfl, ?_⟩) (by assumption) ?_; rotate_left; focus (intro w hSw; have q1 := fun b o hb => Ch.cell hSw (b := b) (o := o) hb (by simp); clear hSw; go_simp; try with_reducible rfl); try simp only [Act.put, List.setIfInBounds_toArray, List.set_cons_zero, List.set_cons_succ]); (refine wpAnyH_take (i := 4) (v := ?_) rfl (by kernel_rfl) (by kernel_rfl) (by kernel_rfl) (fun _ _ _ h => h) (Or.inl ⟨by rfl, ?_⟩) (by assumption) ?_; rotate_left; focus (intro w hSw; have q1 := fun b o hb => Ch.cell hSw (b := b) (o := o) hb (by simp); clear hSw; go_simp; try with_reducible rfl); try simp only [Act.put, List.setIfInBounds_toArray, List.set_cons_zero, List.set_cons_succ]); (refine wpAnyH_take (i := 6) (v := ?_) rfl (by kernel_rfl) (by kernel_rfl) (by kernel_rfl) (fun _ _ _ h => h) (Or.inl ⟨by rfl, ?_⟩) (by assumption) ?_; rotate_left; focus (intro w hSw; have q1 := fun b o hb => Ch.cell hSw (b := b) (o := o) hb (by simp); clear hSw; go_simp; try with_reducible rfl); try simp only [Act.put, List.setIfInBounds_toArray, List.set_cons_zero, List.set_cons_succ]); (refine wpAnyH_take (i := 7) (v := ?_) rfl (by kernel_rfl) (by kernel_rfl) (by kernel_rfl) (fun _ _ _ h => h) (Or.inl ⟨by rfl, ?_⟩) (by assumption) ?_; rotate_left; focus (intro w hSw; have q1 := fun b o hb => Ch.cell hSw (b := b) (o := o) hb (by simp); clear hSw; go_simp; try with_reducible rfl); try simp only [Act.put, List.setIfInBounds_toArray, List.set_cons_zero, List.set_cons_succ]); (refine wpAnyH_take (i := 8) (v := ?_) rfl (by kernel_rfl) (by kernel_rfl) (by kernel_rfl) (fun _ _ _ h => h) (Or.inl ⟨by rfl, ?_⟩) (by assumption) ?_; rotate_left; focus (intro w hSw; have q1 := fun b o hb => Ch.cell hSw (b := b) (o := o) hb (by simp); clear hSw; go_simp; try with_reducible rfl); try simp only [Act.put, List.setIfInBounds_toArray, List.set_cons_zero, List.set_cons_succ]); (refine wpAnyH_take (i := 9) (v := ?_) rfl (by kernel_rfl) (by kernel_rfl) (by kernel_rfl) (fun _ _ _ h => h) (Or.inl ⟨by rfl, ?_⟩) (by assumption) ?_; rotate_left; focus (intro w hSw; have q1 := fun b o hb => Ch.cell hSw (b := b) (o := o) hb (by simp); clear hSw; go_simp; try with_reducible rfl); try simp only [Act.put, List.setIfInBounds_toArray, List.set_cons_zero, List.set_cons_succ])
  have hw0 : Ch [] w ((w.alloc (.cells #[.int .i64 k, .int .i64 fl, .string body] 84)).alloc (.cells #[.int .i64 0, .int .i64 0, .int .i64 0, .string ⟨#[]⟩, .int .i64 0, .string ⟨#[]⟩] 33)) := ((Ch.refl [] w).alloc _).alloc _
  have hV0 := hV.kept hw0 (by simp) (by simp) (by simp) (by simp)
  have hc0 := hc.kept hw0 (by simp) (by simp)
  (refine wpAnyH_ready (rs := [5, 11]) (by kernel_rfl) (by simp) ?_; refine AllReadyH.cons rfl (fun K hK => ?_) (AllReadyH.cons rfl (fun K hK => ?_) AllReadyH.nil) <;> go_simp)
  · refine (conns_Owner s 67 v ls n l _ ((hV0.kept ((Ch.refl [] _).drew) (by simp) (by simp) (by simp) (by simp)).srv.cell (i := 67) (v := v) rfl) (hc0.kept ((Ch.refl [] _).drew) (by simp) (by simp)) hl).mono ?_
    rintro e w1 ⟨rfl, rfl⟩
    (refine hK.out _ _ (Ch.trans (by assumption) (Ch.refl [] _)) (fun hSx => ?_); refine wpAnyH_more (Ch [] _) (fun w h => Ch.trans hSx h) (Ch.refl [] _) (fun hS => ?_); clear hSx)
    (refine wpAnyH_take (i := 10) (v := ?_) rfl (by kernel_rfl) (by kernel_rfl) (by kernel_rfl) (fun _ _ _ h => h) (Or.inl ⟨by rfl, ?_⟩) (by assumption) ?_; rotate_left; focus (intro w hSw; have q1 := fun b o hb => Ch.cell hSw (b := b) (o := o) hb (by simp); clear hSw; go_simp; try with_reducible rfl); try simp only [Act.put, List.setIfInBounds_toArray, List.set_cons_zero, List.set_cons_succ])
    (refine wpAnyH_ready (rs := [11]) (by kernel_rfl) (by simp) ?_; refine AllReadyH.cons rfl (fun K hK => ?_) AllReadyH.nil; go_simp)
    refine hK.out _ _ (Ch.undrew (((Ch.refl [] _).alloc _).drew)) (fun hS => ?_)
    (refine wpAnyH_ready (rs := [12]) (by kernel_rfl) (by simp) ?_; refine AllReadyH.cons rfl (fun K hK => ?_) AllReadyH.nil; go_simp)
    refine hK.out _ _ (Ch.undrew (((Ch.refl [] _).alloc _).drew)) (fun hS => ?_)
    refine wpAnyH_done (by kernel_rfl) ?_ _
    have hw1 := (hw0.alloc (.cells #[.int .i64 n, .int .i64 (-1), .int .i64 k, .string body, .int .i64 0, .string ⟨#[]⟩] 33)).drew
    have hV1 := hV.kept hw1 (by simp) (by simp) (by simp) (by simp)
    have hc1 := hc.kept hw1 (by simp) (by simp)
    have hn1 : Blk (((w.alloc (.cells #[.int .i64 k, .int .i64 fl, .string body] 84)).alloc (.cells #[.int .i64 0, .int .i64 0, .int .i64 0, .string ⟨#[]⟩, .int .i64 0, .string ⟨#[]⟩] 33)).alloc (.cells #[.int .i64 n, .int .i64 (-1), .int .i64 k, .string body, .int .i64 0, .string ⟨#[]⟩] 33)).drew (w.heap.size + 1 + 1) #[.int .i64 n, .int .i64 (-1), .int .i64 k, .string body, .int .i64 0, .string ⟨#[]⟩] 33 := by
      have := (Blk.new ((w.alloc (.cells #[.int .i64 k, .int .i64 fl, .string body] 84)).alloc (.cells #[.int .i64 0, .int .i64 0, .int .i64 0, .string ⟨#[]⟩, .int .i64 0, .string ⟨#[]⟩] 33)) #[.int .i64 n, .int .i64 (-1), .int .i64 k, .string body, .int .i64 0, .string ⟨#[]⟩] 33).drew
      simp only [World.size_alloc] at this; exact this
    have hr1 : Blk (((w.alloc (.cells #[.int .i64 k, .int .i64 fl, .string body] 84)).alloc (.cells #[.int .i64 0, .int .i64 0, .int .i64 0, .string ⟨#[]⟩, .int .i64 0, .string ⟨#[]⟩] 33)).alloc (.cells #[.int .i64 n, .int .i64 (-1), .int .i64 k, .string body, .int .i64 0, .string ⟨#[]⟩] 33)).drew (w.heap.size + 1) #[.int .i64 0, .int .i64 0, .int .i64 0, .string ⟨#[]⟩, .int .i64 0, .string ⟨#[]⟩] 33 := by
      have := (((Blk.new (w.alloc (.cells #[.int .i64 k, .int .i64 fl, .string body] 84)) #[.int .i64 0, .int .i64 0, .int .i64 0, .string ⟨#[]⟩, .int .i64 0, .string ⟨#[]⟩] 33).alloc (.cells #[.int .i64 n, .int .i64 (-1), .int .i64 k, .string body, .int .i64 0, .string ⟨#[]⟩] 33)).drew)
      simp only [World.size_alloc] at this; exact this
    clear hS
    go_wp2_with fail
    refine (greet_bad B s tb tm tn g v now ls n l k fl body _ hV1 hc1 hl hst hlen hk hb hbad).mono ?_
    rintro e w5 ⟨rfl, out', hV5, hc5, hch5⟩
    have n2 : ∀ j, w.heap.size ≤ j → j ∉ foot ls := fun j hj hf => by have := hflt j hf; omega
    have hn5 := hch5.blk hn1 (n2 _ (by omega))
    have hr5 := hch5.blk hr1 (n2 _ (by omega))
    have d0 := hn5.cell (i := 0) (v := .int .i64 n) rfl
    have d1 := hn5.cell (i := 1) (v := .int .i64 (-1)) rfl
    have d2 := hn5.cell (i := 2) (v := .int .i64 k) rfl
    have d3 := hn5.cell (i := 3) (v := .string body) rfl
    have d4 := hn5.cell (i := 4) (v := .int .i64 0) rfl
    have d5 := hn5.cell (i := 5) (v := .string ⟨#[]⟩) rfl
    have g1 := hn5.free 1
    have g4 := hn5.free 4
    have r0 := hr5.cell (i := 0) (v := .int .i64 0) rfl
    have r1 := hr5.cell (i := 1) (v := .int .i64 0) rfl
    have r2 := hr5.cell (i := 2) (v := .int .i64 0) rfl
    have r3 := hr5.cell (i := 3) (v := .string ⟨#[]⟩) rfl
    have r4 := hr5.cell (i := 4) (v := .int .i64 0) rfl
    have r5 := hr5.cell (i := 5) (v := .string ⟨#[]⟩) rfl
    have s0 := hr5.free 0
    have s1 := hr5.free 1
    have s2 := hr5.free 2
    have s3 := hr5.free 3
    have s4 := hr5.free 4
    have s5 := hr5.free 5
    have lt5 := hn5.lt
    go_wp2_with fail
    have hsz : w.heap.size + 1 + 1 < w5.heap.size := lt5
    have hfs : ∀ k, k ∈ [w.heap.size + 1, w.heap.size + 1 + 1] → w.heap.size ≤ k := by
      intro k hk; simp only [List.mem_cons, List.mem_nil_iff, or_false] at hk; omega
    have hft : ∀ k, k ∈ foot (ls.set n (l.refused out')) → k ∉ [w.heap.size + 1, w.heap.size + 1 + 1] := by
      intro k hk hk'
      rcases foot_blk hc5 k hk with ⟨cs, hb'⟩ | ⟨cs, hb'⟩
      · simp only [List.mem_cons, List.mem_nil_iff, or_false] at hk'
        rcases hk' with rfl | rfl
        · exact hb'.ne_type hr5 (by decide) rfl
        · exact hb'.ne_type hn5 (by decide) rfl
      · simp only [List.mem_cons, List.mem_nil_iff, or_false] at hk'
        rcases hk' with rfl | rfl
        · exact hb'.ne_type hr5 (by decide) rfl
        · exact hb'.ne_type hn5 (by decide) rfl
    have hqv : ∀ k, k ∈ qb v → k ∉ [w.heap.size + 1, w.heap.size + 1 + 1] := by
      intro k hk hk'
      simp only [List.mem_cons, List.mem_nil_iff, or_false] at hk'
      rcases hk' with rfl | rfl
      · exact hc5.que.ne_blk hr5 (by decide) hk
      · exact hc5.que.ne_blk hn5 (by decide) hk
    have hsv : ∀ k, k = s ∨ k = tm ∨ k = tn ∨ k = g → k ∉ [w.heap.size + 1, w.heap.size + 1 + 1] := by
      intro k hk hk'
      have := hV.srv.lt
      have := hV.map.lt
      have := hV.ten.lt
      have := hV.gate.lt
      have := hfs k hk'
      omega
    refine bodyPost_ret (v := .agg #[.int .i64 n, .int .i64 (-1), .int .i64 k, .string body, .int .i64 16, .string ByteArray.empty]) (by simp [results, Tryz.results21, go_sem, lt5, r0, r1, r2, r3, r4, r5]; try rfl) rfl ⟨rfl, out', hV5.kept (S := [w.heap.size + 1, w.heap.size + 1 + 1]) ?_ (hsv _ (by simp)) (hsv _ (by simp)) (hsv _ (by simp)) (hsv _ (by simp)), hc5.kept (S := [w.heap.size + 1, w.heap.size + 1 + 1]) ?_ hft hqv, (hw1.nil.trans hch5).step (T := [w.heap.size + 1, w.heap.size + 1 + 1]) ?_ (fun k hk => .inr (hfs k hk))⟩
    · ((repeat (first | (with_reducible exact Ch.refl _ _) | (with_reducible assumption) | (with_reducible refine Ch.setCell ?_ ?_ _) | (with_reducible refine Ch.alloc ?_ _) | (with_reducible apply Ch.drewN) | (with_reducible apply Ch.drew))); all_goals (first | (left; simp; done) | (right; simp; done) | (right; simp; omega)))
    · ((repeat (first | (with_reducible exact Ch.refl _ _) | (with_reducible assumption) | (with_reducible refine Ch.setCell ?_ ?_ _) | (with_reducible refine Ch.alloc ?_ _) | (with_reducible apply Ch.drewN) | (with_reducible apply Ch.drew))); all_goals (first | (left; simp; done) | (right; simp; done) | (right; simp; omega)))
    · ((repeat (first | (with_reducible exact Ch.refl _ _) | (with_reducible assumption) | (with_reducible refine Ch.setCell ?_ ?_ _) | (with_reducible refine Ch.alloc ?_ _) | (with_reducible apply Ch.drewN) | (with_reducible apply Ch.drew))); all_goals (first | (left; simp; done) | (right; simp; done) | (right; simp; omega)))
  · refine hK.out _ _ (((Ch.refl [] _).alloc _).drew) (fun hS => ?_)
    (refine wpAnyH_ready (rs := [5]) (by kernel_rfl) (by simp) ?_; refine AllReadyH.cons rfl (fun K hK => ?_) AllReadyH.nil; go_simp)
    have hwb := (hw0.alloc (.cells #[.int .i64 0, .int .i64 0, .int .i64 0, .string ⟨#[]⟩, .int .i64 0, .string ⟨#[]⟩] 33)).drew
    refine (conns_Owner s 67 v ls n l _ ((hV.kept hwb (by simp) (by simp) (by simp) (by simp)).srv.cell (i := 67) (v := v) rfl) (hc.kept hwb (by simp) (by simp)) hl).mono ?_
    rintro e w1 ⟨rfl, rfl⟩
    refine hK.out _ _ (((Ch.refl [] _).alloc _).drew) (fun hS => ?_)
    (refine wpAnyH_take (i := 10) (v := ?_) rfl (by kernel_rfl) (by kernel_rfl) (by kernel_rfl) (fun _ _ _ h => h) (Or.inl ⟨by rfl, ?_⟩) (by assumption) ?_; rotate_left; focus (intro w hSw; have q1 := fun b o hb => Ch.cell hSw (b := b) (o := o) hb (by simp); clear hSw; go_simp; try with_reducible rfl); try simp only [Act.put, List.setIfInBounds_toArray, List.set_cons_zero, List.set_cons_succ])
    (refine wpAnyH_ready (rs := [12]) (by kernel_rfl) (by simp) ?_; refine AllReadyH.cons rfl (fun K hK => ?_) AllReadyH.nil; go_simp)
    refine hK.out _ _ (((Ch.refl [] _).alloc _).drew) (fun hS => ?_)
    refine wpAnyH_done (by kernel_rfl) ?_ _
    have hw1 := (hw0.alloc (.cells #[.int .i64 n, .int .i64 (-1), .int .i64 k, .string body, .int .i64 0, .string ⟨#[]⟩] 33)).drew
    have hV1 := hV.kept hw1 (by simp) (by simp) (by simp) (by simp)
    have hc1 := hc.kept hw1 (by simp) (by simp)
    have hn1 : Blk (((w.alloc (.cells #[.int .i64 k, .int .i64 fl, .string body] 84)).alloc (.cells #[.int .i64 0, .int .i64 0, .int .i64 0, .string ⟨#[]⟩, .int .i64 0, .string ⟨#[]⟩] 33)).alloc (.cells #[.int .i64 n, .int .i64 (-1), .int .i64 k, .string body, .int .i64 0, .string ⟨#[]⟩] 33)).drew (w.heap.size + 1 + 1) #[.int .i64 n, .int .i64 (-1), .int .i64 k, .string body, .int .i64 0, .string ⟨#[]⟩] 33 := by
      have := (Blk.new ((w.alloc (.cells #[.int .i64 k, .int .i64 fl, .string body] 84)).alloc (.cells #[.int .i64 0, .int .i64 0, .int .i64 0, .string ⟨#[]⟩, .int .i64 0, .string ⟨#[]⟩] 33)) #[.int .i64 n, .int .i64 (-1), .int .i64 k, .string body, .int .i64 0, .string ⟨#[]⟩] 33).drew
      simp only [World.size_alloc] at this; exact this
    have hr1 : Blk (((w.alloc (.cells #[.int .i64 k, .int .i64 fl, .string body] 84)).alloc (.cells #[.int .i64 0, .int .i64 0, .int .i64 0, .string ⟨#[]⟩, .int .i64 0, .string ⟨#[]⟩] 33)).alloc (.cells #[.int .i64 n, .int .i64 (-1), .int .i64 k, .string body, .int .i64 0, .string ⟨#[]⟩] 33)).drew (w.heap.size + 1) #[.int .i64 0, .int .i64 0, .int .i64 0, .string ⟨#[]⟩, .int .i64 0, .string ⟨#[]⟩] 33 := by
      have := (((Blk.new (w.alloc (.cells #[.int .i64 k, .int .i64 fl, .string body] 84)) #[.int .i64 0, .int .i64 0, .int .i64 0, .string ⟨#[]⟩, .int .i64 0, .string ⟨#[]⟩] 33).alloc (.cells #[.int .i64 n, .int .i64 (-1), .int .i64 k, .string body, .int .i64 0, .string ⟨#[]⟩] 33)).drew)
      simp only [World.size_alloc] at this; exact this
    clear hS
    go_wp2_with fail
    refine (greet_bad B s tb tm tn g v now ls n l k fl body _ hV1 hc1 hl hst hlen hk hb hbad).mono ?_
    rintro e w5 ⟨rfl, out', hV5, hc5, hch5⟩
    have n2 : ∀ j, w.heap.size ≤ j → j ∉ foot ls := fun j hj hf => by have := hflt j hf; omega
    have hn5 := hch5.blk hn1 (n2 _ (by omega))
    have hr5 := hch5.blk hr1 (n2 _ (by omega))
    have d0 := hn5.cell (i := 0) (v := .int .i64 n) rfl
    have d1 := hn5.cell (i := 1) (v := .int .i64 (-1)) rfl
    have d2 := hn5.cell (i := 2) (v := .int .i64 k) rfl
    have d3 := hn5.cell (i := 3) (v := .string body) rfl
    have d4 := hn5.cell (i := 4) (v := .int .i64 0) rfl
    have d5 := hn5.cell (i := 5) (v := .string ⟨#[]⟩) rfl
    have g1 := hn5.free 1
    have g4 := hn5.free 4
    have r0 := hr5.cell (i := 0) (v := .int .i64 0) rfl
    have r1 := hr5.cell (i := 1) (v := .int .i64 0) rfl
    have r2 := hr5.cell (i := 2) (v := .int .i64 0) rfl
    have r3 := hr5.cell (i := 3) (v := .string ⟨#[]⟩) rfl
    have r4 := hr5.cell (i := 4) (v := .int .i64 0) rfl
    have r5 := hr5.cell (i := 5) (v := .string ⟨#[]⟩) rfl
    have s0 := hr5.free 0
    have s1 := hr5.free 1
    have s2 := hr5.free 2
    have s3 := hr5.free 3
    have s4 := hr5.free 4
    have s5 := hr5.free 5
    have lt5 := hn5.lt
    go_wp2_with fail
    have hsz : w.heap.size + 1 + 1 < w5.heap.size := lt5
    have hfs : ∀ k, k ∈ [w.heap.size + 1, w.heap.size + 1 + 1] → w.heap.size ≤ k := by
      intro k hk; simp only [List.mem_cons, List.mem_nil_iff, or_false] at hk; omega
    have hft : ∀ k, k ∈ foot (ls.set n (l.refused out')) → k ∉ [w.heap.size + 1, w.heap.size + 1 + 1] := by
      intro k hk hk'
      rcases foot_blk hc5 k hk with ⟨cs, hb'⟩ | ⟨cs, hb'⟩
      · simp only [List.mem_cons, List.mem_nil_iff, or_false] at hk'
        rcases hk' with rfl | rfl
        · exact hb'.ne_type hr5 (by decide) rfl
        · exact hb'.ne_type hn5 (by decide) rfl
      · simp only [List.mem_cons, List.mem_nil_iff, or_false] at hk'
        rcases hk' with rfl | rfl
        · exact hb'.ne_type hr5 (by decide) rfl
        · exact hb'.ne_type hn5 (by decide) rfl
    have hqv : ∀ k, k ∈ qb v → k ∉ [w.heap.size + 1, w.heap.size + 1 + 1] := by
      intro k hk hk'
      simp only [List.mem_cons, List.mem_nil_iff, or_false] at hk'
      rcases hk' with rfl | rfl
      · exact hc5.que.ne_blk hr5 (by decide) hk
      · exact hc5.que.ne_blk hn5 (by decide) hk
    have hsv : ∀ k, k = s ∨ k = tm ∨ k = tn ∨ k = g → k ∉ [w.heap.size + 1, w.heap.size + 1 + 1] := by
      intro k hk hk'
      have := hV.srv.lt
      have := hV.map.lt
      have := hV.ten.lt
      have := hV.gate.lt
      have := hfs k hk'
      omega
    refine bodyPost_ret (v := .agg #[.int .i64 n, .int .i64 (-1), .int .i64 k, .string body, .int .i64 16, .string ByteArray.empty]) (by simp [results, Tryz.results21, go_sem, lt5, r0, r1, r2, r3, r4, r5]; try rfl) rfl ⟨rfl, out', hV5.kept (S := [w.heap.size + 1, w.heap.size + 1 + 1]) ?_ (hsv _ (by simp)) (hsv _ (by simp)) (hsv _ (by simp)) (hsv _ (by simp)), hc5.kept (S := [w.heap.size + 1, w.heap.size + 1 + 1]) ?_ hft hqv, (hw1.nil.trans hch5).step (T := [w.heap.size + 1, w.heap.size + 1 + 1]) ?_ (fun k hk => .inr (hfs k hk))⟩
    · ((repeat (first | (with_reducible exact Ch.refl _ _) | (with_reducible assumption) | (with_reducible refine Ch.setCell ?_ ?_ _) | (with_reducible refine Ch.alloc ?_ _) | (with_reducible apply Ch.drewN) | (with_reducible apply Ch.drew))); all_goals (first | (left; simp; done) | (right; simp; done) | (right; simp; omega)))
    · ((repeat (first | (with_reducible exact Ch.refl _ _) | (with_reducible assumption) | (with_reducible refine Ch.setCell ?_ ?_ _) | (with_reducible refine Ch.alloc ?_ _) | (with_reducible apply Ch.drewN) | (with_reducible apply Ch.drew))); all_goals (first | (left; simp; done) | (right; simp; done) | (right; simp; omega)))
    · ((repeat (first | (with_reducible exact Ch.refl _ _) | (with_reducible assumption) | (with_reducible refine Ch.setCell ?_ ?_ _) | (with_reducible refine Ch.alloc ?_ _) | (with_reducible apply Ch.drewN) | (with_reducible apply Ch.drew))); all_goals (first | (left; simp; done) | (right; simp; done) | (right; simp; omega)))
end Go.Proofs.YtmimhgngbpancaaGreatDoor
