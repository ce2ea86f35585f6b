import Derived.Test.YtmimhgngbpancaaGreatDoorBa
/- Walks: numbers' holders (bucket, account), configuration of the admin, dice, table of tags. -/
set_option linter.unusedSimpArgs false
set_option linter.unusedVariables false
namespace Go.Proofs.YtmimhgngbpancaaGreatDoor
open Go.RowKit

/-- frame.known -/
theorem known_yes (k : Int) (w : World) (h1 : 1 ≤ k) (h2 : k ≤ 9) : Calls Tryz.prog 168 #[.int .i64 k] w fun e w' => e = .returned (.bool true) ∧ w = w' := by
  go_enter Tryz.func168, Tryz.ntmps168
  go_wp2
  go_ret
  exact ⟨by simp [h1, h2], rfl⟩

theorem within_mid (n : Int) (w : World) (h0 : 0 ≤ n) (h1 : n ≤ 1048576) : Calls Tryz.prog 209 #[.int .i64 n, .int .i64 0, .int .i64 1048576] w fun e w' => e = .returned (.int .i64 n) ∧ w = w' := by
  go_enter Tryz.func209, Tryz.ntmps209
  go_wp2
  all_goals (go_ret; exact ⟨by first | rfl | (simp; omega), rfl⟩)

theorem accset (b o : Nat) (n l0 : Int) (w : World) (h0 : 0 ≤ n) (h1 : n ≤ 1048576) (hc : w.cell? ⟨b, o, none⟩ = some (.int .i64 l0)) (hf : w.frozen? ⟨b, o, none⟩ = false) :
    Calls Tryz.prog 164 #[.pointer (some ⟨b, o, none⟩), .int .i64 n] w fun e w' => e = .returned (.tuple #[]) ∧ w' = w.setCell ⟨b, o, none⟩ (.int .i64 n) := by
  go_enter Tryz.func164, Tryz.ntmps164
  go_wp2
  · go_end0; exact ⟨rfl, rfl⟩
  · go_end0; exact ⟨rfl, by rw [show n = 0 by omega]⟩

/-- account.New -/
theorem accnew (n : Int) (w : World) (h0 : 0 ≤ n) (h1 : n ≤ 1048576) :
    Calls Tryz.prog 123 #[.int .i64 n] w fun e w' => e = .returned (.pointer (some ⟨w.heap.size, 0, none⟩)) ∧ Blk w' w.heap.size #[.int .i64 n, .int .i64 0] 107 ∧ Ch [] w w' := by
  go_enter Tryz.func123, Tryz.ntmps123
  go_wp2_with fail
  refine (accset _ _ _ 0 _ h0 h1 ?_ ?_).mono ?_
  · exact (Blk.new _ _ _).cell rfl
  · exact (Blk.new _ _ _).free _
  rintro e w1 ⟨rfl, rfl⟩
  go_wp2_with fail
  go_ret
  exact ⟨rfl, Blk.new _ _ _, (Ch.refl _ _).alloc _⟩

/-- bucket.Set on a bucket of one's own -/
theorem bucketset (b : Nat) (r m r0 m0 t0 : Int) (w : World) (h0 : 0 ≤ r) (h1 : r ≤ 1048576) (h2 : 0 ≤ m) (h3 : m ≤ 1048576) (ht : t0 ≤ m) (hb : Blk w b #[.int .i64 r0, .int .i64 m0, .int .i64 t0] 105) :
    Calls Tryz.prog 163 #[.pointer (some ⟨b, 0, none⟩), .int .i64 r, .int .i64 m] w fun e w' => e = .returned (.tuple #[]) ∧ Blk w' b #[.int .i64 r, .int .i64 m, .int .i64 t0] 105 ∧ Ch [b] w w' := by
  have c0 := hb.cell (i := 0) rfl
  have c1 := hb.cell (i := 1) rfl
  have c2 := hb.cell (i := 2) rfl
  have f0 := hb.free 0
  have f1 := hb.free 1
  have f2 := hb.free 2
  go_enter Tryz.func163, Tryz.ntmps163
  go_wp2_with fail
  refine (within_mid r _ h0 h1).mono ?_
  rintro e w1 ⟨rfl, rfl⟩
  go_wp2_with fail
  refine (within_mid m _ h2 h3).mono ?_
  rintro e w1 ⟨rfl, rfl⟩
  go_wp2_with fail
  go_region
  all_goals (go_wp2; go_end0)
  all_goals exact ⟨rfl, ((hb.set 0 _).set 1 _).set 2 _, ((((Ch.refl _ _).setCell (.inl (by simp)) _).setCell (.inl (by simp)) _).setCell (.inl (by simp)) _).drew⟩

/-- bucket.New -/
theorem bucketnew (r m : Int) (w : World) (h0 : 0 ≤ r) (h1 : r ≤ 1048576) (h2 : 0 ≤ m) (h3 : m ≤ 1048576) :
    Calls Tryz.prog 122 #[.int .i64 r, .int .i64 m] w fun e w' => e = .returned (.pointer (some ⟨w.heap.size, 0, none⟩)) ∧ Blk w' w.heap.size #[.int .i64 r, .int .i64 m, .int .i64 m] 105 ∧ Ch [] w w' := by
  go_enter Tryz.func122, Tryz.ntmps122
  go_wp2_with fail
  refine (bucketset _ r m 0 0 0 _ h0 h1 h2 h3 h2 (Blk.new _ _ _)).mono ?_
  rintro e w1 ⟨rfl, hb1, hc1⟩
  have c1 := hb1.cell (i := 1) rfl
  have c2 := hb1.cell (i := 2) rfl
  have f2 := hb1.free 2
  go_wp2_with fail
  go_ret
  exact ⟨rfl, hb1.set 2 _, (((Ch.refl _ _).alloc _).step hc1 (by simp)).setCell (.inr (by simp)) _⟩

theorem confadmin (w : World) : Calls Tryz.prog 64 #[] w fun e w' => e = .returned (.agg #[.int .i64 1040, .int .i64 1048576, .int .i64 1048576, .int .i64 0, .int .i64 0, .int .i64 32, .int .i64 2, .int .i64 0, .int .i64 0]) ∧ Ch [] w w' := by
  go_enter Tryz.func64, Tryz.ntmps64
  go_wp2_with fail
  refine bodyPost_ret (v := .agg #[.int .i64 1040, .int .i64 1048576, .int .i64 1048576, .int .i64 0, .int .i64 0, .int .i64 32, .int .i64 2, .int .i64 0, .int .i64 0]) (by simp [results, Tryz.results64, go_sem]) rfl ⟨rfl, (Ch.refl _ _).alloc _⟩

/-- dice.New -/
theorem dicenew (w : World) : Calls Tryz.prog 79 #[] w fun e w' => e = .returned (.pointer (some ⟨w.heap.size, 0, none⟩)) ∧ (∃ cs, Blk w' w.heap.size cs 57 ∧ cs[0]? = some (.int .u64 0) ∧ cs[64]? = some (.int .i64 0) ∧ cs[65]? = some (.int .i64 0)) ∧ Ch [] w w' := by
  go_enter Tryz.func79, Tryz.ntmps79
  go_wp2_with fail
  go_ret
  exact ⟨rfl, ⟨_, Blk.new _ _ _, rfl, rfl, rfl⟩, (Ch.refl _ _).alloc _⟩

/-- mac.New -/
theorem macnew (w : World) : Calls Tryz.prog 77 #[] w fun e w' => e = .returned (.pointer (some ⟨w.heap.size, 0, none⟩)) ∧ (∃ cs, Blk w' w.heap.size cs 229 ∧ cs.size = 27 ∧ cs[0]? = some (.int .i64 0) ∧ cs[9]? = some (.int .i64 0) ∧ cs[10]? = some (.int .u64 0)) ∧ Ch [] w w' := by
  go_enter Tryz.func77, Tryz.ntmps77
  go_wp2_with fail
  go_ret
  exact ⟨rfl, ⟨_, Blk.new _ _ _, rfl, rfl, rfl, rfl⟩, (Ch.refl _ _).alloc _⟩

/-- dice.Put into new dice -/
theorem diceput (b : Nat) (n : Int) (cs : Array Value) (w : World) (hb : Blk w b cs 57) (h0 : cs[0]? = some (.int .u64 0)) (h64 : cs[64]? = some (.int .i64 0)) (h65 : cs[65]? = some (.int .i64 0)) :
    Calls Tryz.prog 42 #[.pointer (some ⟨b, 0, none⟩), .int .u64 n] w fun e w' => e = .returned (.bool true) ∧ Blk w' b ((cs.setIfInBounds 0 (.int .u64 n)).setIfInBounds 65 (.int .i64 1)) 57 ∧ Ch [b] w w' := by
  have c0 := hb.cell h0
  have c64 := hb.cell h64
  have c65 := hb.cell h65
  have f0 := hb.free 0
  have f65 := hb.free 65
  go_enter Tryz.func42, Tryz.ntmps42
  go_wp2_with fail
  go_region
  all_goals go_wp2
  all_goals go_ret
  all_goals exact ⟨rfl, (hb.set 0 _).set 65 _, (((Ch.refl _ _).setCell (.inl (by simp)) _).setCell (.inl (by simp)) _).drew⟩

def SomeU64 (w : World) (e : Ending) (w' : World) : Prop := ∃ n : Int, e = .returned (.int .u64 n) ∧ w = w'

/-- dice.Mix -/
theorem mix_any (x y : Int) (w : World) : Calls Tryz.prog 126 #[.int .u64 x, .int .u64 y] w (SomeU64 w) := by
  go_enter Tryz.func126, Tryz.ntmps126
  go_wp2_with fail
  go_ret
  exact ⟨_, rfl, rfl⟩

/-- dice.Take from dice of one number -/
theorem dicetake (b : Nat) (n : Int) (cs : Array Value) (w : World) (hb : Blk w b cs 57) (h0 : cs[0]? = some (.int .u64 n)) (h64 : cs[64]? = some (.int .i64 0)) (h65 : cs[65]? = some (.int .i64 1)) :
    Calls Tryz.prog 125 #[.pointer (some ⟨b, 0, none⟩)] w fun e w' => e = .returned (.tuple #[.int .u64 n, .bool true]) ∧ Ch [b] w w' := by
  have c0 := hb.cell h0
  have c64 := hb.cell h64
  have c65 := hb.cell h65
  have f64 := hb.free 64
  have f65 := hb.free 65
  go_enter Tryz.func125, Tryz.ntmps125
  go_wp2_with fail
  go_quiet (fail)
  go_wp2_with fail
  go_ret2
  exact ⟨rfl, (((Ch.refl _ _).setCell (.inl (by simp)) _).setCell (.inl (by simp)) _).drewN _⟩

theorem owns_zero (w : World) : Calls Tryz.prog 124 #[.int .i64 0] w fun e w' => e = .returned (.bool true) ∧ w = w' := by
  go_enter Tryz.func124, Tryz.ntmps124
  go_wp2_with fail
  go_ret
  exact ⟨rfl, rfl⟩

def SomeIssue (S : List Nat) (w : World) (e : Ending) (w' : World) : Prop := (∃ (n m k : Int), e = .returned (.tuple #[.int .i64 n, .int .u64 m, .int .i64 k])) ∧ Ch S w w'

/-- mac.Issue for the admin, on a new table, with dice of one number -/
theorem macissue (tb db : Nat) (n : Int) (ts cs : Array Value) (w : World) (hne : tb ≠ db) (ht : Blk w tb ts 229) (t0 : ts[0]? = some (.int .i64 0)) (t9 : ts[9]? = some (.int .i64 0)) (t10 : ts[10]? = some (.int .u64 0))
    (hb : Blk w db cs 57) (h0 : cs[0]? = some (.int .u64 n)) (h64 : cs[64]? = some (.int .i64 0)) (h65 : cs[65]? = some (.int .i64 1)) :
    Calls Tryz.prog 80 #[.pointer (some ⟨tb, 0, none⟩), .int .i64 0, .pointer (some ⟨db, 0, none⟩)] w (SomeIssue [tb, db] w) := by
  go_enter Tryz.func80, Tryz.ntmps80
  go_wp2_with fail
  refine (owns_zero _).mono ?_
  rintro e w1 ⟨rfl, rfl⟩
  go_wp2_with fail
  refine (dicetake db n cs _ hb h0 h64 h65).mono ?_
  rintro e w1 ⟨rfl, hc1⟩
  have ht1 : Blk w1 tb ts 229 := hc1.blk ht (by simpa using hne)
  have c0 := ht1.cell t0
  have f0 := ht1.free 0
  have c9 := ht1.cell t9
  have f9 := ht1.free 9
  have c10 := ht1.cell t10
  have f10 := ht1.free 10
  go_wp2_with fail
  go_region
  go_wp2_with fail
  refine (mix_any _ _ _).mono ?_
  rintro e w2 ⟨m, rfl, rfl⟩
  go_wp2_with fail
  all_goals
    have hw : Ch [tb, db] w w1 := hc1.mono (by simp)
    go_ret3
    refine ⟨⟨_, _, _, rfl⟩, ?_⟩
    repeat (first | exact hw | apply Ch.drew | refine Ch.setCell ?_ (.inl (by simp)) _)

end Go.Proofs.YtmimhgngbpancaaGreatDoor
