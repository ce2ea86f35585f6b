import Derived.Test.YtmimhgngbpancaaGreatDoorWr
/- A server without tenants: what comes on a fresh connection. -/
set_option linter.unusedSimpArgs false
set_option linter.unusedVariables false
namespace Go.Proofs.YtmimhgngbpancaaGreatDoor
open Go.RowKit

/-- A connection that is refused. -/
def Line.refused (l : Line) (out' : Value) : Line := { l with out := out', outs := l.outs ++ [replyB 0 16 ByteArray.empty], stage := 2 }

set_option maxRecDepth 100000 in
set_option maxHeartbeats 1000000 in
theorem greet_bad (B s tb tm tn g : Nat) (v : Value) (now : Int) (ls : List Line) (n : Nat) (l : Line) (k fl : Int) (body : ByteArray) (w : World) (hV : Srv B w s tb tm tn g v now) (hc : Conns w v ls) (hl : ls[n]? = some l) (hst : l.stage < 2) (hlen : l.outs.length < 1099511627776) (hk : k ≠ 1)
    (hb : body.size ≤ 9223372036854775807) (hbad : doneE (helloR body) ≠ 0) :
    Calls Tryz.prog 54 #[.pointer (some ⟨s, 0, none⟩), .int .i64 n, .agg #[.int .i64 k, .int .i64 fl, .string body]] w fun e w' => e = .returned (.tuple #[.int .i64 (-1), .int .i64 16]) ∧ ∃ out', Srv B w' s tb tm tn g v now ∧ Conns w' v (ls.set n (l.refused out')) ∧ Ch (foot ls) w w' := by
  have c0 := hV.srv.cell (i := 0) (v := .pointer (some ⟨tb, 0, none⟩)) rfl
  have hkb : (k == 1) = false := by simpa using hk
  have HK := Lib.hid hk
  clear hk
  have hlt := hV.srv.lt
  go_enter Tryz.func54, Tryz.ntmps54
  go_wp2_with fail
  refine wp_region_held_drew (S := Ch [] _) (by kernel_rfl) ((Ch.refl [] _).drew) (fun hS => ?_)
  (refine wpAnyH_take (i := 0) (v := ?_) rfl (by kernel_rfl) (by kernel_rfl) (by kernel_rfl) (fun _ _ _ h => h) (Or.inl ⟨by rfl, ?_⟩) (by assumption) ?_; rotate_left; focus (intro w hSw; have q1 := fun b o hb => Ch.cell hSw (b := b) (o := o) hb (by simp); clear hSw; go_simp; try with_reducible rfl); try simp only [Act.put, List.setIfInBounds_toArray, List.set_cons_zero, List.set_cons_succ]); (refine wpAnyH_take (i := 1) (v := ?_) rfl (by kernel_rfl) (by kernel_rfl) (by kernel_rfl) (fun _ _ _ h => h) (Or.inl ⟨by rfl, ?_⟩) (by assumption) ?_; rotate_left; focus (intro w hSw; have q1 := fun b o hb => Ch.cell hSw (b := b) (o := o) hb (by simp); clear hSw; go_simp; try with_reducible rfl); try simp only [Act.put, List.setIfInBounds_toArray, List.set_cons_zero, List.set_cons_succ]); (refine wpAnyH_take (i := 2) (v := ?_) rfl (by kernel_rfl) (by kernel_rfl) (by kernel_rfl) (fun _ _ _ h => h) (Or.inl ⟨by rfl, ?_⟩) (by assumption) ?_; rotate_left; focus (intro w hSw; have q1 := fun b o hb => Ch.cell hSw (b := b) (o := o) hb (by simp); clear hSw; go_simp; try with_reducible rfl); try simp only [Act.put, List.setIfInBounds_toArray, List.set_cons_zero, List.set_cons_succ]); (refine wpAnyH_take (i := 3) (v := ?_) rfl (by kernel_rfl) (by kernel_rfl) (by kernel_rfl) (fun _ _ _ h => h) (Or.inl ⟨by rfl, ?_⟩) (by assumption) ?_; rotate_left; focus (intro w hSw; have q1 := fun b o hb => Ch.cell hSw (b := b) (o := o) hb (by simp); clear hSw; go_simp; try with_reducible rfl); try simp only [Act.put, List.setIfInBounds_toArray, List.set_cons_zero, List.set_cons_succ]); (refine wpAnyH_take (i := 4) (v := ?_) rfl (by kernel_rfl) (by kernel_rfl) (by kernel_rfl) (fun _ _ _ h => h) (Or.inl ⟨by rfl, ?_⟩) (by assumption) ?_; rotate_left; focus (intro w hSw; have q1 := fun b o hb => Ch.cell hSw (b := b) (o := o) hb (by simp); clear hSw; go_simp; try with_reducible rfl); try simp only [Act.put, List.setIfInBounds_toArray, List.set_cons_zero, List.set_cons_succ]); (refine wpAnyH_take (i := 5) (v := ?_) rfl (by kernel_rfl) (by kernel_rfl) (by kernel_rfl) (fun _ _ _ h => h) (Or.inl ⟨by rfl, ?_⟩) (by assumption) ?_; rotate_left; focus (intro w hSw; have q1 := fun b o hb => Ch.cell hSw (b := b) (o := o) hb (by simp); clear hSw; go_simp; try with_reducible rfl); try simp only [Act.put, List.setIfInBounds_toArray, List.set_cons_zero, List.set_cons_succ])
  (refine wpAnyH_ready (rs := [6]) (by kernel_rfl) (by simp) ?_; refine AllReadyH.cons rfl (fun K hK => ?_) AllReadyH.nil; go_simp)
  refine (hello_verify_bad _ body _ hb hbad).mono ?_
  rintro e w1 ⟨rfl, hc1⟩
  (refine hK.out _ _ (Ch.trans (by assumption) hc1) (fun hSx => ?_); refine wpAnyH_more (Ch [] _) (fun w h => Ch.trans hSx h) (Ch.refl [] _) (fun hS => ?_); clear hSx)
  (refine wpAnyH_take (i := 7) (v := ?_) rfl (by kernel_rfl) (by kernel_rfl) (by kernel_rfl) (fun _ _ _ h => h) (Or.inl ⟨by rfl, ?_⟩) (by assumption) ?_; rotate_left; focus (intro w hSw; have q1 := fun b o hb => Ch.cell hSw (b := b) (o := o) hb (by simp); clear hSw; go_simp; try with_reducible rfl); try simp only [Act.put, List.setIfInBounds_toArray, List.set_cons_zero, List.set_cons_succ]); (refine wpAnyH_take (i := 8) (v := ?_) rfl (by kernel_rfl) (by kernel_rfl) (by kernel_rfl) (fun _ _ _ h => h) (Or.inl ⟨by rfl, ?_⟩) (by assumption) ?_; rotate_left; focus (intro w hSw; have q1 := fun b o hb => Ch.cell hSw (b := b) (o := o) hb (by simp); clear hSw; go_simp; try with_reducible rfl); try simp only [Act.put, List.setIfInBounds_toArray, List.set_cons_zero, List.set_cons_succ]); (refine wpAnyH_take (i := 9) (v := ?_) rfl (by kernel_rfl) (by kernel_rfl) (by kernel_rfl) (fun _ _ _ h => h) (Or.inl ⟨by rfl, ?_⟩) (by assumption) ?_; rotate_left; focus (intro w hSw; have q1 := fun b o hb => Ch.cell hSw (b := b) (o := o) hb (by simp); clear hSw; go_simp; try with_reducible rfl); try simp only [Act.put, List.setIfInBounds_toArray, List.set_cons_zero, List.set_cons_succ])
  (refine wpAnyH_ready (rs := [10]) (by kernel_rfl) (by simp) ?_; refine AllReadyH.cons rfl (fun K hK => ?_) AllReadyH.nil; go_simp)
  (refine hK.out _ _ (Ch.refl [] _) (fun hSx => ?_); refine wpAnyH_more (Ch [] _) (fun w h => Ch.trans hSx h) (Ch.refl [] _) (fun hS => ?_); clear hSx)
  (refine wpAnyH_ready (rs := [11]) (by kernel_rfl) (by simp) ?_; refine AllReadyH.cons rfl (fun K hK => ?_) AllReadyH.nil; go_simp)
  (refine hK.out _ _ (Ch.refl [] _) (fun hSx => ?_); refine wpAnyH_more (Ch [] _) (fun w h => Ch.trans hSx h) (Ch.refl [] _) (fun hS => ?_); clear hSx)
  refine wpAnyH_done (by kernel_rfl) ?_ _
  have hbx : Blk w1 w.heap.size #[.int .i64 k, .int .i64 fl, .string body] 84 := hc1.blk ((Blk.new w _ _).drew) (by simp)
  have x0 := hbx.cell (i := 0) (v := .int .i64 k) rfl
  have ltx := hbx.lt
  have hw1 : Ch [] w w1 := (((Ch.refl [] w).alloc _).drew).trans hc1
  clear c0 hc1
  go_wp2_with fail
  refine wp_region_held_drew (S := Ch (foot ls) _) (by kernel_rfl) ((Ch.refl (foot ls) _).drew) (fun hS => ?_)
  (refine wpAnyH_take (i := 0) (v := ?_) rfl (by kernel_rfl) (by kernel_rfl) (by kernel_rfl) (fun _ _ _ h => h) (Or.inl ⟨by rfl, ?_⟩) (by assumption) ?_; rotate_left; focus (intro w hSw; clear hSw; go_simp; try with_reducible rfl); try simp only [Act.put, List.setIfInBounds_toArray, List.set_cons_zero, List.set_cons_succ]); (refine wpAnyH_take (i := 1) (v := ?_) rfl (by kernel_rfl) (by kernel_rfl) (by kernel_rfl) (fun _ _ _ h => h) (Or.inl ⟨by rfl, ?_⟩) (by assumption) ?_; rotate_left; focus (intro w hSw; clear hSw; go_simp; try with_reducible rfl); try simp only [Act.put, List.setIfInBounds_toArray, List.set_cons_zero, List.set_cons_succ]); (refine wpAnyH_take (i := 2) (v := ?_) rfl (by kernel_rfl) (by kernel_rfl) (by kernel_rfl) (fun _ _ _ h => h) (Or.inl ⟨by rfl, ?_⟩) (by assumption) ?_; rotate_left; focus (intro w hSw; clear hSw; go_simp; try with_reducible rfl); try simp only [Act.put, List.setIfInBounds_toArray, List.set_cons_zero, List.set_cons_succ]); (refine wpAnyH_take (i := 3) (v := ?_) rfl (by kernel_rfl) (by kernel_rfl) (by kernel_rfl) (fun _ _ _ h => h) (Or.inl ⟨by rfl, ?_⟩) (by assumption) ?_; rotate_left; focus (intro w hSw; clear hSw; go_simp; try with_reducible rfl); try simp only [Act.put, List.setIfInBounds_toArray, List.set_cons_zero, List.set_cons_succ])
  (refine wpAnyH_ready (rs := [4]) (by kernel_rfl) (by simp) ?_; refine AllReadyH.cons rfl (fun K hK => ?_) AllReadyH.nil; go_simp)
  refine (reply_fail 0 16 _ (by omega) (by omega) (by omega) (by omega)).mono ?_
  rintro e w2 ⟨rfl, hc2⟩
  refine hK.out _ _ ((Ch.refl (foot ls) _).drew.trans hc2.nil) (fun hS => ?_)
  (refine wpAnyH_ready (rs := [5]) (by kernel_rfl) (by simp) ?_; refine AllReadyH.cons rfl (fun K hK => ?_) AllReadyH.nil; go_simp)
  have hw2 : Ch [] w w2 := (hw1.drew).trans hc2
  have hV2 := hV.kept hw2 (by simp) (by simp) (by simp) (by simp)
  have hcn2 := hc.kept hw2 (by simp) (by simp)
  refine (conns_Send s 67 v ls n l w2 (hV2.srv.cell (i := 67) (v := v) rfl) hcn2 hl (replyB 0 16 ByteArray.empty) (by omega) hlen).mono ?_
  rintro e w3 ⟨rfl, out', hcn3, hc3⟩
  have hc3' : Ch (foot ls) w2 w3 := hc3.mono (line_foot hl)
  refine hK.out _ _ (((Ch.refl (foot ls) _).drew.trans hc2.nil).trans hc3') (fun hS => ?_)
  refine wpAnyH_done (by kernel_rfl) ?_ _
  have hV3 := hV2.kept_foot hcn2 hc3' (fun k h => h)
  have hl3 : (ls.set n { l with out := out', outs := l.outs ++ [replyB 0 16 ByteArray.empty] })[n]? = some { l with out := out', outs := l.outs ++ [replyB 0 16 ByteArray.empty] } := by
    have := (List.getElem?_eq_some_iff.1 hl).1
    simp [this]
  clear hS
  go_wp2_with fail
  refine (conns_Shut s 67 v _ n _ w3 (hV3.srv.cell (i := 67) (v := v) rfl) hcn3 hl3 hst).mono ?_
  rintro e w4 ⟨rfl, hcn4, hc4⟩
  have hc4' : Ch (foot ls) w3 w4 := hc4.mono (fun k hk => line_foot hl k (by simp at hk; subst hk; simp))
  have hV4 := hV3.kept_foot hcn3 hc4 (fun k hk => line_foot hl3 k (by simp at hk; subst hk; simp))
  go_wp2_with fail
  go_ret2
  refine ⟨rfl, out', hV4, ?_, (hw2.nil.trans hc3').trans hc4'⟩
  rw [List.set_set] at hcn4
  exact hcn4
end Go.Proofs.YtmimhgngbpancaaGreatDoor
