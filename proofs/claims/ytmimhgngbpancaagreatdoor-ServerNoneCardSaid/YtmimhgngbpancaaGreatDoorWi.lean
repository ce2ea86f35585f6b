import Derived.Test.YtmimhgngbpancaaGreatDoorWh
import Derived.Test.YtmimhgngbpancaaGreatDoorBq
import Derived.ScopeJumps
/- The frames of a stream of bytes. -/
set_option linter.unusedSimpArgs false
set_option linter.unusedVariables false
namespace Go.Proofs.YtmimhgngbpancaaGreatDoor
open Go.RowKit

/-- A jump back to a label, what is behind it walked once. -/
theorem wp_scope_pass {P : Program} {a : Act} {w : World} {Q : Exit → Act → World → Prop} {c rest : Code} (l : Nat) (J : Act → World → Prop) (μ : Act → World → Nat) (hf : findLabel c l = some (Code.seq Code.skip rest))
    (pass : ∀ a w, J a w → rest.wp P (Exit.jump l (fun a' w' => J a' w' ∧ μ a' w' < μ a w) Q) a w)
    (first : (∀ a w, J a w → rest.wp P (Exit.jump l J Q) a w) → c.wp P (Exit.jump l J Q) a w) : (Code.scope c).wp P Q a w :=
  wp_scope_jumps l J μ hf (first fun a w h => Code.wp_mono (by
    intro e a' w' hq
    cases e <;> first | exact ⟨hq.1, hq.2.1⟩ | exact hq) (pass a w h)) (fun a w h => wp_seq (wp_skip (pass a w h)))

theorem info_frame : (Tryz.prog.info? 84).map (fun i => (i.zero, i.size, i.bytes)) = some (some (.agg #[.int .i64 0, .int .i64 0, .string ByteArray.empty]), 3, 32) := by kernel_rfl

/-- Feed's cells behind bytes. -/
def feedTo (cs : Array Value) (r : ByteArray) (e : Int) : Array Value := (cs.setIfInBounds 0 (.string r)).setIfInBounds 1 (.int .i64 e)

/-- A row of three cells in a new block. -/
theorem cells_new3 (w : World) (a b c : Value) (t : TypeId) : ∀ j u, [a, b, c][j]? = some u → (w.alloc (.cells #[a, b, c] t)).cell? ((⟨w.heap.size, 0, none⟩ : Addr).add j) = some u := by
  intro j u hj
  match j, hj with
  | 0, hj => simp at hj; subst hj; exact (Blk.new w #[a, b, c] t).cell rfl
  | 1, hj => simp at hj; subst hj; exact (Blk.new w #[a, b, c] t).cell rfl
  | 2, hj => simp at hj; subst hj; exact (Blk.new w #[a, b, c] t).cell rfl
  | j + 3, hj => simp at hj

theorem cells_new3' (w : World) (o : Obj) (a b c : Value) (t : TypeId) : ∀ j u, [a, b, c][j]? = some u → ((w.alloc o).alloc (.cells #[a, b, c] t)).cell? ((⟨w.heap.size + 1, 0, none⟩ : Addr).add j) = some u := by
  have := cells_new3 (w.alloc o) a b c t
  rwa [World.size_alloc] at this

/-- What holds at the label. -/
def FJ (W : World) (b : Nat) (cs : Array Value) (T : TypeId) (R : ByteArray) (a : Act) (w : World) : Prop :=
  ∃ (v : Value) (fs : List Fr) (r : ByteArray) (u1 u2 u3 u6 u7 u8 u9 u10 u11 u12 u13 u14 u15 u16 u17 u18 u19 u20 u21 u22 u23 u24 u25 u26 u27 u28 u29 u30 u31 u32 u33 u34 u35 u36 u37 u38 u39 u40 u41 u42 u43 u44 u45 u46 u47 u48 u49 u50 u51 u52 u53 u54 u55 u56 u57 u58 u59 u60 u61 : Value), a = { tmps := #[.pointer (some ⟨b, 0, none⟩), u1, u2, u3, .slice none 0 0, v, u6, u7, u8, u9, u10, u11, u12, u13, u14, u15, u16, u17, u18, u19, u20, u21, u22, u23, u24, u25, u26, u27, u28, u29, u30, u31, u32, u33, u34, u35, u36, u37, u38, u39, u40, u41, u42, u43, u44, u45, u46, u47, u48, u49, u50, u51, u52, u53, u54, u55, u56, u57, u58, u59, u60, u61], defers := [] } ∧ Blk w b (cs.setIfInBounds 0 (.string r)) T ∧ Que w 84 3 v fs.length (frs fs) ∧ (∀ k, k ∈ qb v → W.heap.size ≤ k) ∧ Ch [b] W w ∧ feed R = (fs ++ (feed r).1, (feed r).2) ∧ r.size + 4 * fs.length ≤ R.size
def fμ (b : Nat) (a : Act) (w : World) : Nat := match w.cell? ⟨b, 0, none⟩ with | some (.string r) => r.size | _ => 0

set_option maxRecDepth 100000 in
set_option maxHeartbeats 1000000 in
theorem feed_push (b : Nat) (cs : Array Value) (T : TypeId) (r x : ByteArray) (W : World) (hb : Blk W b cs T) (h0 : cs[0]? = some (.string r)) (h1 : cs[1]? = some (.int .i64 0)) (hT : T ≠ 84) (hlen : r.size + x.size ≤ 1099511627776) :
    Calls Tryz.prog 53 #[.pointer (some ⟨b, 0, none⟩), .string x] W fun e w' => ∃ v, e = .returned v ∧ Blk w' b (feedTo cs (feed (r ++ x)).2.1 (feed (r ++ x)).2.2) T ∧ Que w' 84 3 v (feed (r ++ x)).1.length (frs (feed (r ++ x)).1) ∧ (∀ k, k ∈ qb v → W.heap.size ≤ k) ∧ Ch [b] W w' := by
  have c0 := hb.cell h0
  have c1 := hb.cell h1
  have f0 := hb.free 0
  go_enter Tryz.func53, Tryz.ntmps53
  go_wp2_with fail
  refine wp_scope_pass 0 (FJ W b cs T (r ++ x)) (fμ b) rfl ?pass ?first
  case first =>
    intro hpass
    go_wp2_with fail
    go_step3
    simp only [Exit.then]
    rename_i hK
    refine hK _ _ (hpass _ _ ⟨.slice none 0 0, [], r ++ x, _, _, _, _, _, _, _, _, _, _, _, _, _, _, _, _, _, _, _, _, _, _, _, _, _, _, _, _, _, _, _, _, _, _, _, _, _, _, _, _, _, _, _, _, _, _, _, _, _, _, _, _, _, _, _, _, _, _, _, rfl, ?_, Que.nil _ _ _, by simp [qb], ?_, by simp, by simp⟩)
    · simpa using hb.set 0 (.string (r ++ x))
    · exact (Ch.refl _ _).setCell (.inl (by simp)) _
  case pass =>
    rintro a w ⟨v, fs, q, u1, u2, u3, u6, u7, u8, u9, u10, u11, u12, u13, u14, u15, u16, u17, u18, u19, u20, u21, u22, u23, u24, u25, u26, u27, u28, u29, u30, u31, u32, u33, u34, u35, u36, u37, u38, u39, u40, u41, u42, u43, u44, u45, u46, u47, u48, u49, u50, u51, u52, u53, u54, u55, u56, u57, u58, u59, u60, u61, rfl, hbw, hq, hv, hch, hfeed, hsz⟩
    rw [ByteArray.size_append] at hsz
    have hcs : 1 < cs.size := (Array.getElem?_eq_some_iff.1 h1).1
    have d0 : w.cell? ⟨b, 0, none⟩ = some (.string q) := hbw.cell (i := 0) (set_same h0)
    have d1 : w.cell? ⟨b, 1, none⟩ = some (.int .i64 0) := hbw.cell (i := 1) (set_other (by decide) h1)
    have g0 := hbw.free 0
    have g1 := hbw.free 1
    by_cases ht : takeE q = 0
    · have hts := takeE_ok ht
      have hfs := frest_size ht
      have HT := Lib.hid ht
      have D0 := Lib.hid d0
      clear ht c0 c1 f0 hb
      go_wp2_with fail
      refine (take_ok q _ (by omega) HT.out).mono ?_
      rintro e w1 ⟨rfl, hc1⟩
      have hb1 := hc1.blk hbw (by simp)
      have hq1 := hq.kept hc1 (by simp)
      have e0 := hb1.cell (i := 0) (v := .string q) (set_same h0)
      have k0 := hb1.free 0
      clear d0 d1 g0 g1
      obtain ⟨i0, hi, hz0, hz1, hz2⟩ := info_parts info_frame
      go_wp2_with (at_builtin; refine wpList_append_que _ rfl _ _ 80 rfl 84 i0 _ 3 32 Tryz.underlying80 hi hz0 hz1 hz2 rfl (by decide) v fs.length (frs fs) rfl ((hq1.alloc _).alloc _) ⟨w1.heap.size + 1, 0, none⟩ 1 1 (ftop q).cells rfl rfl (cells_new3' _ _ _ _ _ _) (by simp [Fr.cells, ftop, Value.oneCell']) (by unfold maxLen; omega) (by omega) ?_)
      intro v' w2 hq2 hch2 hfr
      have hnb : b ∉ qb v := hq1.ne_blk hb1 hT
      have hb2 := hch2.blk ((hb1.alloc _).alloc _) hnb
      have e2 := hb2.cell (i := 0) (v := .string q) (set_same h0)
      have k2 := hb2.free 0
      clear e0 k0
      obtain ⟨_, hts2, hts3, hts4⟩ := hts
      have hn0 := hlen_nonneg q
      obtain ⟨m, hm⟩ := Int.eq_ofNat_of_zero_le hn0
      rw [hm] at hts3 hts4 ⊢
      have hm' := Lib.hid hm
      clear hm hn0
      go_wp2_with fail
      go_step3
      have hset := hb2.set 0 (.string (q.extract (4 + m) q.size))
      have hfr' : q.extract (4 + m) q.size = frest q := by unfold frest; rw [hm'.out]; rfl
      have hch3 : Ch [b] W (w2.setCell ⟨b, 0, none⟩ (.string (q.extract (4 + m) q.size))) :=
        ((((hch.trans hc1.nil).alloc _).alloc _).step hch2 (fun k hk => .inr (hv k hk))).setCell (.inl (by simp)) _
      have hnb2 : b ∉ qb v' := hq2.ne_blk hb2 hT
      have hw1 := hch.size
      have hw2 := hc1.size
      rw [hfr'] at hset hch3 ⊢
      have hset' : Blk (w2.setCell ⟨b, 0, none⟩ (.string (frest q))) b (cs.setIfInBounds 0 (.string (frest q))) T := by simpa using hset
      refine ⟨rfl, ⟨v', fs ++ [ftop q], frest q, _, _, _, _, _, _, _, _, _, _, _, _, _, _, _, _, _, _, _, _, _, _, _, _, _, _, _, _, _, _, _, _, _, _, _, _, _, _, _, _, _, _, _, _, _, _, _, _, _, _, _, _, _, _, _, _, _, _, _, rfl, hset', ?_, ?_, hch3, ?_, ?_⟩, ?_⟩
      · rw [frs_snoc, List.length_append]
        exact hq2.kept ((Ch.refl [b] w2).setCell (.inl (by simp)) _) (fun k hk hk' => by simp at hk'; subst hk'; exact hnb2 hk)
      · intro k hk
        rcases hfr k hk with h' | h'
        · exact hv k h'
        · omega
      · rw [hfeed, feed_ok HT.out]
        simp
      · rw [ByteArray.size_append, List.length_append]
        simp
        omega
      · unfold fμ
        rw [D0.out, hset'.cell (i := 0) (set_same h0)]
        simp only []
        omega
    · by_cases ht2 : takeE q = 2
      · have HT := Lib.hid ht2
        clear ht ht2 c0 c1 f0 hb
        go_wp2_with fail
        refine (take_bad q _ (by omega) (by rw [HT.out]; decide)).mono ?_
        rw [HT.out]
        rintro e w1 ⟨rfl, hc1⟩
        have hb1 := hc1.blk hbw (by simp)
        go_wp2_with fail
        simp only [Exit.jump]
        go_ret
        refine ⟨v, rfl, ?_, ?_, hv, (hch.trans hc1.nil).alloc _⟩
        · rw [hfeed, feed_short HT.out]
          have e : feedTo cs q 0 = cs.setIfInBounds 0 (.string q) := by
            unfold feedTo
            exact set_id (set_other (by decide) h1)
          rw [e]
          exact hb1.alloc _
        · rw [hfeed, feed_short HT.out]
          simpa using (hq.kept hc1 (by simp)).alloc _
      · have HT := Lib.hid ht
        have HT2 := Lib.hid ht2
        have t1 : (takeE q == 0) = false := by simpa using ht
        have t2 : (takeE q == 2) = false := by simpa using ht2
        clear ht ht2 c0 c1 f0 hb
        go_wp2_with fail
        refine (take_bad q _ (by omega) HT.out).mono ?_
        rintro e w1 ⟨rfl, hc1⟩
        have hb1 := hc1.blk hbw (by simp)
        have k0 := hb1.free 0
        have k1 := hb1.free 1
        have e0 := hb1.cell (i := 0) (v := .string q) (set_same h0)
        have e1 := hb1.cell (i := 1) (v := .int .i64 0) (set_other (by decide) h1)
        have lt1 := hb1.lt
        clear d0 d1 g0 g1
        go_wp2_with fail
        simp only [Exit.jump]
        go_ret
        have hs := ((hb1.set 0 (.string ByteArray.empty)).set 1 (.int .i64 (takeE q))).alloc (.cells #[.int .i64 0, .int .i64 0, .string ByteArray.empty] 84)
        have hch3 := (((hch.trans hc1.nil).setCell (p := ⟨b, 0, none⟩) (.inl (by simp)) (.string ByteArray.empty)).setCell (p := ⟨b, 1, none⟩) (.inl (by simp)) (.int .i64 (takeE q))).alloc (.cells #[.int .i64 0, .int .i64 0, .string ByteArray.empty] 84)
        refine ⟨v, rfl, ?_, ?_, hv, ?_⟩
        · rw [hfeed, feed_bad HT.out HT2.out]
          have e : cs.setIfInBounds 0 (.string ByteArray.empty) = (cs.setIfInBounds 0 (.string q)).setIfInBounds 0 (.string ByteArray.empty) := by simp
          unfold feedTo
          rw [e]
          exact hs
        · rw [hfeed, feed_bad HT.out HT2.out]
          have hnb : b ∉ qb v := hq.ne_blk hbw hT
          have := (((hq.kept hc1 (by simp)).kept ((Ch.refl [b] _).setCell (p := ⟨b, 0, none⟩) (.inl (by simp)) (.string ByteArray.empty)) (fun k hk hk' => by simp at hk'; subst hk'; exact hnb hk)).kept ((Ch.refl [b] _).setCell (p := ⟨b, 1, none⟩) (.inl (by simp)) (.int .i64 (takeE q))) (fun k hk hk' => by simp at hk'; subst hk'; exact hnb hk)).alloc (.cells #[.int .i64 0, .int .i64 0, .string ByteArray.empty] 84)
          simp only [List.append_nil]
          exact this
        · exact hch3
end Go.Proofs.YtmimhgngbpancaaGreatDoor
