import Derived.Test.YtmimhgngbpancaaGreatDoorWo
/- Frames: put; replies. -/
set_option linter.unusedSimpArgs false
set_option linter.unusedVariables false
namespace Go.Proofs.YtmimhgngbpancaaGreatDoor
open Go.RowKit

def frameB (kind flags : Int) (body : ByteArray) : ByteArray := strOfNums [kind, flags, (body.size : Int) / 256, (body.size : Int) % 256] ++ body

set_option maxRecDepth 100000 in
set_option maxHeartbeats 1000000 in
theorem frame_put (kind flags : Int) (s : ByteArray) (W : World) (hk0 : 1 ≤ kind) (hk1 : kind ≤ 9) (hf0 : 0 ≤ flags) (hf1 : flags ≤ 255) (hs : s.size ≤ 1024) : Calls Tryz.prog 130 #[.agg #[.int .i64 kind, .int .i64 flags, .string s]] W fun e w' => e = .returned (.tuple #[.string (frameB kind flags s), .int .i64 0]) ∧ Ch [] W w' := by
  have hu1 : IntKind.u8.wrap ((s.size : Int) / 256) = (s.size : Int) / 256 := by rw [IntKind.wrap_u8]; omega
  have hu2 : IntKind.u8.wrap (s.size : Int) = (s.size : Int) % 256 := IntKind.wrap_u8 _
  have hu3 : IntKind.u8.wrap kind = kind := by rw [IntKind.wrap_u8]; omega
  have hu4 : IntKind.u8.wrap flags = flags := by rw [IntKind.wrap_u8]; omega
  have hf0' : ¬ flags < 0 := by omega
  have hf1' : ¬ 255 < flags := by omega
  have hs' : ¬ (1024 : Int) < s.size := by omega
  obtain ⟨hd, hhd⟩ : ∃ hd, strOfNums [kind, flags, (s.size : Int) / 256, (s.size : Int) % 256] = hd := ⟨_, rfl⟩
  have hd2 : hd.size = 4 := by rw [← hhd, strOfNums_size]; rfl
  have hcat : ¬ 9223372036854775807 < hd.size + s.size := by omega
  have hfin : frameB kind flags s = hd ++ s := by unfold frameB; rw [hhd]
  rw [hfin]
  have HH := Lib.hid hhd
  have HD := Lib.hid hd2
  have hcv : ∀ (B : Nat) (w : World), Blk w B #[.int .u8 kind, .int .u8 flags, .int .u8 ((s.size : Int) / 256), .int .u8 ((s.size : Int) % 256)] 295 → (convert 264 9 (.slice (some ⟨B, 0, none⟩) 4 4)).run Tryz.prog w = .ok (.string hd) w := by
    intro B w hb
    rw [← HH.out]
    refine run_convert_bytes_arg w 264 5 Tryz.underlying264 Tryz.underlying5 B 0 4 4 [kind, flags, (s.size : Int) / 256, (s.size : Int) % 256] rfl (fun i hi => ?_) 9 Tryz.underlying9
    match i, hi with
    | 0, _ => exact hb.cell rfl
    | 1, _ => exact hb.cell rfl
    | 2, _ => exact hb.cell rfl
    | 3, _ => exact hb.cell rfl
  have HC := Lib.hid hcv
  clear hcv hhd hd2 hfin
  go_enter Tryz.func130, Tryz.ntmps130
  go_wp2_with fail
  refine (known_yes _ _ hk0 hk1).mono ?_
  rintro e w1 ⟨rfl, rfl⟩
  go_wp2_with fail
  have hbn : Blk ((W.alloc (.cells #[.int .i64 kind, .int .i64 flags, .string s] 84)).alloc (.cells #[.int .u8 kind, .int .u8 flags, .int .u8 ((s.size : Int) / 256), .int .u8 ((s.size : Int) % 256)] 295)) (W.heap.size + 1) #[.int .u8 kind, .int .u8 flags, .int .u8 ((s.size : Int) / 256), .int .u8 ((s.size : Int) % 256)] 295 := by
    have := Blk.new (W.alloc (.cells #[.int .i64 kind, .int .i64 flags, .string s] 84)) #[.int .u8 kind, .int .u8 flags, .int .u8 ((s.size : Int) / 256), .int .u8 ((s.size : Int) % 256)] 295
    rwa [World.size_alloc] at this
  refine wp_region_held_drew (S := Ch [] _) (by kernel_rfl) ((Ch.refl [] _).drew) (fun hS => ?_)
  (refine wpAnyH_take (i := 0) (v := ?_) rfl (by kernel_rfl) (by kernel_rfl) (by kernel_rfl) (fun _ _ _ h => h) (Or.inl ⟨by rfl, ?_⟩) (by assumption) ?_; rotate_left; focus (intro w hSw; have q1 := fun b o hb => Ch.cell hSw (b := b) (o := o) hb (by simp); clear hSw; go_simp; try with_reducible rfl); try simp only [Act.put, List.setIfInBounds_toArray, List.set_cons_zero, List.set_cons_succ])
  (refine wpAnyH_take (i := 1) (v := ?_) rfl (by kernel_rfl) (by kernel_rfl) (by kernel_rfl) (fun _ _ _ h => h) (Or.inl ⟨by rfl, ?_⟩) (by assumption) ?_; rotate_left; focus (intro w hSw; (have hcv' := HC.out (W.heap.size + 1) w (hSw.blk hbn (by simp))); clear hSw; go_simp; try with_reducible rfl); try simp only [Act.put, List.setIfInBounds_toArray, List.set_cons_zero, List.set_cons_succ])
  (refine wpAnyH_take (i := 2) (v := ?_) rfl (by kernel_rfl) (by kernel_rfl) (by kernel_rfl) (fun _ _ _ h => h) (Or.inl ⟨by rfl, ?_⟩) (by assumption) ?_; rotate_left; focus (intro w hSw; have q1 := fun b o hb => Ch.cell hSw (b := b) (o := o) hb (by simp); clear hSw; go_simp; try with_reducible rfl); try simp only [Act.put, List.setIfInBounds_toArray, List.set_cons_zero, List.set_cons_succ]); (refine wpAnyH_take (i := 3) (v := ?_) rfl (by kernel_rfl) (by kernel_rfl) (by kernel_rfl) (fun _ _ _ h => h) (Or.inl ⟨by rfl, ?_⟩) (by assumption) ?_; rotate_left; focus (intro w hSw; have q1 := fun b o hb => Ch.cell hSw (b := b) (o := o) hb (by simp); clear hSw; go_simp; try with_reducible rfl); try simp only [Act.put, List.setIfInBounds_toArray, List.set_cons_zero, List.set_cons_succ]); (refine wpAnyH_take (i := 4) (v := ?_) rfl (by kernel_rfl) (by kernel_rfl) (by kernel_rfl) (fun _ _ _ h => h) (Or.inl ⟨by rfl, ?_⟩) (by assumption) ?_; rotate_left; focus (intro w hSw; have q1 := fun b o hb => Ch.cell hSw (b := b) (o := o) hb (by simp); clear hSw; go_simp; try with_reducible rfl); try simp only [Act.put, List.setIfInBounds_toArray, List.set_cons_zero, List.set_cons_succ])
  (refine wpAnyH_ready (rs := [5]) (by kernel_rfl) (by simp) ?_; refine AllReadyH.cons rfl (fun K hK => ?_) AllReadyH.nil; go_simp)
  (refine hK.out _ _ (Ch.drew (Ch.refl [] _)) (fun hSx => ?_); refine wpAnyH_more (Ch [] _) (fun w h => Ch.trans hSx h) (Ch.refl [] _) (fun hS => ?_); clear hSx)
  (refine wpAnyH_ready (rs := [6]) (by kernel_rfl) (by simp) ?_; refine AllReadyH.cons rfl (fun K hK => ?_) AllReadyH.nil; go_simp)
  (refine hK.out _ _ (Ch.refl [] _) (fun hSx => ?_); refine wpAnyH_more (Ch [] _) (fun w h => Ch.trans hSx h) (Ch.refl [] _) (fun hS => ?_); clear hSx)
  refine wpAnyH_done (by kernel_rfl) ?_ _
  go_wp2_with fail
  go_ret2
  exact ⟨rfl, (((Ch.refl [] W).alloc _).alloc _).drew⟩

theorem padB_size (s : ByteArray) (h : s.size ≤ 1022) : ((padB s).size : Int) = cls s.size := by
  have hc := cls_ge s.size (by omega)
  unfold padB
  rw [ByteArray.size_append, ByteArray.size_append, strOfNums_size]
  have : (⟨(Lib.repeatL [0] (cls s.size - 2 - s.size).toNat).toArray⟩ : ByteArray).size = (cls s.size - 2 - s.size).toNat := by
    show (Lib.repeatL [0] (cls s.size - 2 - s.size).toNat).toArray.size = _
    rw [List.size_toArray, Lib.repeatL_length]; simp
  rw [this]
  simp only [List.length_cons, List.length_nil]
  omega

theorem bounded_yes (n : Int) (w : World) (h0 : 0 ≤ n) (h1 : n ≤ 1048576) : Calls Tryz.prog 81 #[.int .i64 n] w fun e w' => e = .returned (.bool true) ∧ w = w' := by
  go_enter Tryz.func81, Tryz.ntmps81
  go_wp2
  go_ret
  exact ⟨by simp [h0, h1], rfl⟩

theorem join_three (a b c : ByteArray) : (⟨(Lib.join [a.data.toList, b.data.toList, c.data.toList] []).toArray⟩ : ByteArray) = a ++ b ++ c := by
  apply ByteArray.ext
  simp [Lib.join, List.intercalate, List.intersperse]

theorem reply_row (B c : Nat) (x y z : ByteArray) (w : World) (hb : Blk w B #[.string x, .string y, .string z] 9) (hlen : x.size + y.size + z.size ≤ 140737488355328) (hc : 3 ≤ c) :
    Calls Tryz.prog 128 #[.slice (some ⟨B, 0, none⟩) 3 c] w fun e w' => e = .returned (.string (x ++ y ++ z)) ∧ Ch [] w w' := by
  go_enter Tryz.func128, Tryz.ntmps128
  go_wp2_with fail
  refine (Tryz.strings_Join B 0 c [x, y, z] ⟨#[]⟩ _ ?_ hb.lt (show 3 ≤ _ by decide) hc ?_).mono ?_
  · intro j u hj
    match j, hj with
    | 0, hj => simp at hj; subst hj; exact hb.cell rfl
    | 1, hj => simp at hj; subst hj; exact hb.cell rfl
    | 2, hj => simp at hj; subst hj; exact hb.cell rfl
    | j + 3, hj => simp at hj
  · have := congrArg ByteArray.size (join_three x y z)
    rw [ByteArray.size_append, ByteArray.size_append] at this
    have h2 : (⟨(Lib.join [x.data.toList, y.data.toList, z.data.toList] []).toArray⟩ : ByteArray).size = (Lib.join [x.data.toList, y.data.toList, z.data.toList] []).length := by
      show Array.size _ = _
      rw [List.size_toArray]
    simp only [List.map_cons, List.map_nil]
    show (Lib.join _ []).length ≤ _
    omega
  rintro e w1 ⟨rfl, hb1⟩
  go_wp2_with fail
  go_ret
  refine ⟨?_, Ch.of_below hb1⟩
  have := join_three x y z
  simp only [List.map_cons, List.map_nil]
  exact congrArg (fun s => Ending.returned (Value.string s)) this
end Go.Proofs.YtmimhgngbpancaaGreatDoor
