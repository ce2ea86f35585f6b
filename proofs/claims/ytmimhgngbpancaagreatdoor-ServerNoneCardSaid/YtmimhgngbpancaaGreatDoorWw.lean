import Derived.Test.YtmimhgngbpancaaGreatDoorWv
/- The example of chapter 42. -/
set_option linter.unusedSimpArgs false
set_option linter.unusedVariables false
namespace Go.Proofs.YtmimhgngbpancaaGreatDoor
open Go.RowKit

theorem feed_two : feed (ByteArray.empty ++ ⟨#[2, 0, 0, 0]⟩) = ([⟨2, 0, ByteArray.empty⟩], ByteArray.empty, 0) := by
  have h : takeE ⟨#[2, 0, 0, 0]⟩ = 0 := by decide
  have e : ByteArray.empty ++ ⟨#[2, 0, 0, 0]⟩ = (⟨#[2, 0, 0, 0]⟩ : ByteArray) := by decide
  rw [e, feed_ok h]
  have r : frest ⟨#[2, 0, 0, 0]⟩ = ByteArray.empty := by decide
  have s : takeE ByteArray.empty = 2 := by decide
  rw [r, feed_short s]
  have t : ftop ⟨#[2, 0, 0, 0]⟩ = ⟨2, 0, ByteArray.empty⟩ := by
    unfold ftop
    have a : byt ⟨#[2, 0, 0, 0]⟩ 0 = 2 := by decide
    have b : byt ⟨#[2, 0, 0, 0]⟩ 1 = 0 := by decide
    have c : fbody ⟨#[2, 0, 0, 0]⟩ = ByteArray.empty := by decide
    rw [a, b, c]
  rw [t]
theorem hello_empty : doneE (helloR ByteArray.empty) ≠ 0 := by decide

set_option maxRecDepth 100000 in
set_option maxHeartbeats 1000000 in
theorem awake42 (w : World) : Calls Tryz.prog 16 #[] w fun e w' => e = .returned (.bool true) ∧ Ch [] w w' := by
  go_enter Tryz.func16, Tryz.ntmps16
  go_wp2_with fail
  refine (servernew 7 w).mono ?_
  rintro e w1 ⟨s, tb, tm, tn, g, rfl, hV1, hch1⟩
  have hc1 : Conns w1 (.slice none 0 0) [] := ⟨Que.nil _ _ _, by simp, by simp [foot]⟩
  go_wp2_with fail
  refine (server_open _ s tb tm tn g _ 0 [] w1 hV1 hc1 (by decide)).mono ?_
  rintro e w2 ⟨rfl, v2, b, hV2, hc2, hch2, hbw⟩
  simp only [List.nil_append] at hc2
  go_wp2_with fail
  refine (recv_bad _ s tb tm tn g v2 0 [newLine b] 0 (newLine b) ⟨#[2, 0, 0, 0]⟩ ⟨2, 0, ByteArray.empty⟩ ByteArray.empty w2 hV2 hc2 rfl (show (0 : Int) < 2 by decide) rfl rfl (show 0 < 1099511627776 by decide) (show 4 ≤ 1099511627776 by decide) feed_two (by decide) (by decide) hello_empty).mono ?_
  rintro e w3 ⟨u, out3, rfl, hq3, hV3, hc3, hch3⟩
  obtain ⟨l3, hl3⟩ : ∃ l3 : Line, l3 = (Line.refused { newLine b with rest := ByteArray.empty, e := 0 } out3) := ⟨_, rfl⟩
  have hc3' : Conns w3 v2 [l3] := by rw [hl3]; exact hc3
  have hl3a : l3.owner = -1 := by rw [hl3]; rfl
  have hl3b : l3.stage = 2 := by rw [hl3]; rfl
  have hl3c : l3.outs = [replyB 0 16 ByteArray.empty] := by rw [hl3]; rfl
  have hl3d : l3.b = b := by rw [hl3]; rfl
  have HL := Lib.hid hl3c
  have HB := Lib.hid hl3d
  clear hl3 hc3 hl3c hl3d
  go_wp2_with fail
  refine (deliver_text _ s tb tm tn g v2 0 [l3] 0 l3 (replyB 0 16 ByteArray.empty) [] w3 hV3 hc3' rfl (by omega) hl3a (by rw [HL.out]; decide) HL.out).mono ?_
  rintro e w4 ⟨rfl, out4, hV4, hc4, hch4⟩
  go_wp2_with fail
  refine (deliver_shut _ s tb tm tn g v2 0 [{ l3 with out := out4, outs := [] }] 0 { l3 with out := out4, outs := [] } w4 hV4 hc4 rfl hl3b hl3a rfl).mono ?_
  rintro e w5 ⟨rfl, hV5, hc5, hch5⟩
  have hq4 := hq3.kept hch4 (fun k hk hk' => by simp only [List.mem_singleton] at hk'; subst hk'; exact hq3.ne_blk (hc3'.lines l3 (by simp)).blk (by decide) hk)
  have hq5 := hq4.kept hch5 (fun k hk hk' => by simp only [List.mem_singleton] at hk'; subst hk'; exact hq4.ne_blk (hc4.lines { l3 with out := out4, outs := [] } (by simp)).blk (by decide) hk)
  have hfin : Ch [] w w5 := by
    have h2 : Ch [] w w2 := hch1.step hch2 (fun k hk => by
      simp only [qb, List.mem_singleton] at hk
      subst hk
      exact .inr hV1.b1)
    have h3 : Ch [] w w3 := h2.step hch3 (fun k hk => by
      simp only [foot, newLine, qb, List.flatMap_cons, List.flatMap_nil, List.append_nil, List.mem_singleton] at hk
      subst hk
      exact .inr (Nat.le_trans hch1.size hbw))
    have h4 : Ch [] w w4 := h3.step hch4 (fun k hk => by
      simp only [List.mem_singleton] at hk
      rw [hk, HB.out]
      exact .inr (Nat.le_trans hch1.size hbw))
    exact h4.step hch5 (fun k hk => by
      simp only [List.mem_singleton] at hk
      rw [hk]
      show _ ∨ _ ≤ l3.b
      rw [HB.out]
      exact .inr (Nat.le_trans hch1.size hbw))
  obtain ⟨g', off, cap, hu, hcap, hcell, hfr⟩ := hq5.some (by decide)
  have d4 := hcell 4 (.int .i64 16) rfl
  rw [hu]
  have hcap' : (1 : Int) ≤ cap := by omega
  clear hV1 hV2 hV3 hV4 hV5 hc1 hc2 hc3' hc4 hc5 hcell hq3 hq4 hq5 hch1 hch2 hch3 hch4 hch5 hfr
  go_wp2_with fail
  refine (reply_fail 0 16 _ (by omega) (by omega) (by omega) (by omega)).mono ?_
  rintro e w6 ⟨rfl, hch6⟩
  go_wp2_with fail
  go_ret
  refine ⟨?_, hfin.trans hch6⟩
  first | rfl | simp
end Go.Proofs.YtmimhgngbpancaaGreatDoor
