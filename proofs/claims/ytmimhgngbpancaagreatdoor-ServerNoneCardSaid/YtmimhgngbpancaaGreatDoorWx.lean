import Derived.Test.YtmimhgngbpancaaGreatDoorWw
import Derived.Test.YtmimhgngbpancaaGreatDoorBr
/- A server that is not there. -/
set_option linter.unusedSimpArgs false
set_option linter.unusedVariables false
namespace Go.Proofs.YtmimhgngbpancaaGreatDoor
open Go.RowKit

theorem none_Deliver (n : Int) (w : World) : Calls Tryz.prog 8 #[.pointer none, .int .i64 n] w fun e w' => e = .returned (.tuple #[.string ⟨#[]⟩, .bool false, .int .i64 17]) ∧ w = w' := by
  go_enter Tryz.func8, Tryz.ntmps8
  go_wp2_with fail
  go_ret3
  exact ⟨rfl, rfl⟩

theorem none_Serve (w : World) : Calls Tryz.prog 7 #[.pointer none] w fun e w' => e = .returned (.tuple #[.agg #[.int .i64 0, .int .i64 0, .int .i64 0, .string ⟨#[]⟩, .int .i64 0, .string ⟨#[]⟩], .bool false]) ∧ Ch [] w w' := by
  go_enter Tryz.func7, Tryz.ntmps7
  go_wp2_with fail
  refine bodyPost_ret (v := .tuple #[.agg #[.int .i64 0, .int .i64 0, .int .i64 0, .string ⟨#[]⟩, .int .i64 0, .string ⟨#[]⟩], .bool false]) (by simp [results, Tryz.results7, go_sem]) rfl ⟨rfl, ?_⟩
  ((repeat (first | (with_reducible exact Ch.refl _ _) | (with_reducible assumption) | (with_reducible refine Ch.setCell ?_ ?_ _) | (with_reducible refine Ch.alloc ?_ _) | (with_reducible apply Ch.drewN) | (with_reducible apply Ch.drew))); all_goals (first | (left; simp; done) | (right; simp; done) | (right; simp; omega)))

def viewZero : Array Value := #[.int .i64 0, .int .i64 0, .int .i64 0, .int .i64 0, .int .i64 0, .int .i64 0, .int .i64 0, .int .i64 0, .int .i64 0, .bool false, .int .i64 0, .int .i64 0, .int .i64 0, .int .i64 0, .int .i64 0, .int .i64 0, .int .i64 0, .int .i64 0, .int .i64 0, .int .i64 0, .string ⟨#[]⟩]
theorem zero_view (w : World) : (zeroValue 43).run Tryz.prog w = .ok (.agg viewZero) w := by kernel_rfl
theorem row_view : plainRow Tryz.prog 43 21 := ⟨⟨_, Tryz.underlying43⟩, by kernel_rfl⟩
theorem one_view : viewZero.all (·.oneCell') = true := by kernel_rfl

theorem none_View (n : Int) (w : World) : Calls Tryz.prog 9 #[.pointer none, .int .i64 n] w fun e w' => e = .returned (.tuple #[.agg viewZero, .bool false]) ∧ Ch [] w w' := by
  have hb := Blk.new w viewZero 43
  go_enter Tryz.func9, Tryz.ntmps9
  go_wp2_with (refine wpList_put 43 (.tmp 4) (.tmp 18) rfl rfl w.heap.size viewZero rfl rfl 43 viewZero hb 21 row_view rfl rfl one_view ?_)
  exact bodyPost_ret (results_row1 rfl row_view rfl (hb.row _) rfl) rfl ⟨rfl, ((Ch.refl [] w).alloc _).row (.inr (Nat.le_refl _)) _⟩

theorem none_Tick (w : World) : Calls Tryz.prog 4 #[.pointer none] w fun e w' => e = .returned (.tuple #[]) ∧ w = w' := by
  go_enter Tryz.func4, Tryz.ntmps4
  go_wp2_with fail
  refine bodyPost_ret (results_none rfl _ _ _) rfl ⟨rfl, rfl⟩
theorem none_Open (w : World) : Calls Tryz.prog 5 #[.pointer none] w fun e w' => e = .returned (.tuple #[.int .i64 0, .int .i64 17]) ∧ w = w' := by
  go_enter Tryz.func5, Tryz.ntmps5
  go_wp2_with fail
  go_ret2
  exact ⟨rfl, rfl⟩
theorem none_Recv (n : Int) (b : ByteArray) (w : World) : Calls Tryz.prog 6 #[.pointer none, .int .i64 n, .string b] w fun e w' => e = .returned (.tuple #[.slice none 0 0, .int .i64 17]) ∧ w = w' := by
  go_enter Tryz.func6, Tryz.ntmps6
  go_wp2_with fail
  go_ret2
  exact ⟨rfl, rfl⟩
theorem none_Draw (n : Int) (w : World) : Calls Tryz.prog 10 #[.pointer none, .int .u64 n] w fun e w' => e = .returned (.bool false) ∧ w = w' := by
  go_enter Tryz.func10, Tryz.ntmps10
  go_wp2_with fail
  go_ret
  exact ⟨rfl, rfl⟩
theorem none_Reset (n : Int) (w : World) : Calls Tryz.prog 11 #[.pointer none, .int .i64 n] w fun e w' => e = .returned (.int .i64 17) ∧ w = w' := by
  go_enter Tryz.func11, Tryz.ntmps11
  go_wp2_with fail
  go_ret
  exact ⟨rfl, rfl⟩
theorem none_Now (w : World) : Calls Tryz.prog 12 #[.pointer none] w fun e w' => e = .returned (.int .i64 0) ∧ w = w' := by
  go_enter Tryz.func12, Tryz.ntmps12
  go_wp2_with fail
  go_ret
  exact ⟨rfl, rfl⟩
theorem none_Live (w : World) : Calls Tryz.prog 13 #[.pointer none] w fun e w' => e = .returned (.slice none 0 0) ∧ w = w' := by
  go_enter Tryz.func13, Tryz.ntmps13
  go_wp2_with fail
  go_ret
  exact ⟨rfl, rfl⟩
theorem none_Active (w : World) : Calls Tryz.prog 14 #[.pointer none] w fun e w' => e = .returned (.slice none 0 0) ∧ w = w' := by
  go_enter Tryz.func14, Tryz.ntmps14
  go_wp2_with fail
  go_ret
  exact ⟨rfl, rfl⟩
theorem none_Owner (n : Int) (w : World) : Calls Tryz.prog 15 #[.pointer none, .int .i64 n] w fun e w' => e = .returned (.int .i64 (-1)) ∧ w = w' := by
  go_enter Tryz.func15, Tryz.ntmps15
  go_wp2_with fail
  go_ret
  exact ⟨rfl, rfl⟩
def noteZero : Array Value := #[.int .i64 0, .int .i64 0, .int .i64 0, .string ⟨#[]⟩, .int .i64 0, .string ⟨#[]⟩]
theorem row_note : plainRow Tryz.prog 33 6 := ⟨⟨_, Tryz.underlying33⟩, by kernel_rfl⟩
theorem eql_view0 (w : World) : (binOp .eql 43 (.agg viewZero) (.agg #[.int .i64 0, .int .i64 0, .int .i64 0, .int .i64 0, .int .i64 0, .int .i64 0, .int .i64 0, .int .i64 0, .int .i64 0, .bool false, .int .i64 0, .int .i64 0, .int .i64 0, .int .i64 0, .int .i64 0, .int .i64 0, .int .i64 0, .int .i64 0, .int .i64 0, .int .i64 0, .string ⟨#[]⟩])).run Tryz.prog w = .ok (.bool true) w := by kernel_rfl
theorem guard_view0 (x y : Operand) (w : World) : (eqGuard .eql 43 x y (.agg viewZero) (.agg #[.int .i64 0, .int .i64 0, .int .i64 0, .int .i64 0, .int .i64 0, .int .i64 0, .int .i64 0, .int .i64 0, .int .i64 0, .bool false, .int .i64 0, .int .i64 0, .int .i64 0, .int .i64 0, .int .i64 0, .int .i64 0, .int .i64 0, .int .i64 0, .int .i64 0, .int .i64 0, .string ⟨#[]⟩])).run Tryz.prog w = .ok () w := by kernel_rfl
/-- What a place holds, and what is equal, behind names: rules of the walk at whole operations. -/
def HoldsView (x : Value) (w : World) : Prop := ∃ g, x = .pointer (some ⟨g, 0, none⟩) ∧ Blk w g viewZero 43
def SameView (x y : Value) : Prop := x = .agg viewZero ∧ y = .agg #[.int .i64 0, .int .i64 0, .int .i64 0, .int .i64 0, .int .i64 0, .int .i64 0, .int .i64 0, .int .i64 0, .int .i64 0, .bool false, .int .i64 0, .int .i64 0, .int .i64 0, .int .i64 0, .int .i64 0, .int .i64 0, .int .i64 0, .int .i64 0, .int .i64 0, .int .i64 0, .string ⟨#[]⟩]
theorem wp_load_view {d : Option Tmp} {x : Operand} {ty : TypeId} {pos : String} {after : Array Edge} {g : Option (Nat × Bool)} {a : Act} {w : World} {K : Act → World → Prop} {Q : Exit → Act → World → Prop} (h : HoldsView (a.eval x) w) :
    Oper.wp Tryz.prog ⟨d, Op.load 43 x, ty, pos, after, g⟩ a w K Q = K (a.put d (.agg viewZero)) w := by
  obtain ⟨b, hx, hb⟩ := h
  have hl := loadAt_row (P := Tryz.prog) hb row_view rfl
  unfold Oper.wp execOp
  simp only [hx, Sem.run_bind, hl, Result.andThen, Sem.run_pure]
  rfl
theorem wp_eql_view {d : Option Tmp} {x y : Operand} {t2 ty : TypeId} {pos : String} {after : Array Edge} {g : Option (Nat × Bool)} {a : Act} {w : World} {K : Act → World → Prop} {Q : Exit → Act → World → Prop} (h : SameView (a.eval x) (a.eval y)) :
    Oper.wp Tryz.prog ⟨d, Op.binOp .eql 43 x y t2, ty, pos, after, g⟩ a w K Q = K (a.put d (.bool true)) w := by
  obtain ⟨hx, hy⟩ := h
  have h1 := guard_view0 x y w
  have h2 := eql_view0 w
  unfold Oper.wp execOp
  simp only [hx, hy, Sem.run_bind, h1, h2, Result.andThen, Sem.run_pure]
  rfl
theorem same_view : SameView (.agg viewZero) (.agg #[.int .i64 0, .int .i64 0, .int .i64 0, .int .i64 0, .int .i64 0, .int .i64 0, .int .i64 0, .int .i64 0, .int .i64 0, .bool false, .int .i64 0, .int .i64 0, .int .i64 0, .int .i64 0, .int .i64 0, .int .i64 0, .int .i64 0, .int .i64 0, .int .i64 0, .int .i64 0, .string ⟨#[]⟩]) := ⟨rfl, rfl⟩
attribute [local go_sem ↓] wp_load_view wp_eql_view
set_option maxRecDepth 100000 in
set_option maxHeartbeats 1000000 in
theorem server_none (k c u : Int) (b : ByteArray) (owner : Int) (w : World) : Calls Tryz.prog 3 #[.agg #[.int .i64 k, .int .i64 c, .int .u64 u, .string b], .int .i64 owner] w fun e w' => e = .returned (.bool true) ∧ Ch [] w w' := by
  go_enter Tryz.func3, Tryz.ntmps3
  go_wp2_with (first | (go_at_call 4; refine (none_Tick _).mono ?_; rintro e w' ⟨rfl, rfl⟩) | (go_at_call 5; refine (none_Open _).mono ?_; rintro e w' ⟨rfl, rfl⟩) | (go_at_call 6; refine (none_Recv _ _ _).mono ?_; rintro e w' ⟨rfl, rfl⟩) | (go_at_call 10; refine (none_Draw _ _).mono ?_; rintro e w' ⟨rfl, rfl⟩) | (go_at_call 11; refine (none_Reset _ _).mono ?_; rintro e w' ⟨rfl, rfl⟩) | (go_at_call 12; refine (none_Now _).mono ?_; rintro e w' ⟨rfl, rfl⟩) | (go_at_call 13; refine (none_Live _).mono ?_; rintro e w' ⟨rfl, rfl⟩) | (go_at_call 14; refine (none_Active _).mono ?_; rintro e w' ⟨rfl, rfl⟩) | (go_at_call 15; refine (none_Owner _ _).mono ?_; rintro e w' ⟨rfl, rfl⟩) | (go_at_call 8; refine (none_Deliver _ _).mono ?_; rintro e w' ⟨rfl, rfl⟩))
  refine (none_Serve _).mono ?_
  rintro e w1 ⟨rfl, hc1⟩
  have hx0 : Blk w1 w.heap.size #[.int .i64 k, .int .i64 c, .int .u64 u, .string b] 24 := hc1.blk (Blk.new _ _ _) (by simp)
  have ltx := hx0.lt
  have c1 := hx0.cell (i := 1) (v := .int .i64 c) rfl
  have c2 := hx0.cell (i := 2) (v := .int .u64 u) rfl
  go_wp2_with (first | (go_at_call 4; refine (none_Tick _).mono ?_; rintro e w' ⟨rfl, rfl⟩) | (go_at_call 5; refine (none_Open _).mono ?_; rintro e w' ⟨rfl, rfl⟩) | (go_at_call 6; refine (none_Recv _ _ _).mono ?_; rintro e w' ⟨rfl, rfl⟩) | (go_at_call 10; refine (none_Draw _ _).mono ?_; rintro e w' ⟨rfl, rfl⟩) | (go_at_call 11; refine (none_Reset _ _).mono ?_; rintro e w' ⟨rfl, rfl⟩) | (go_at_call 12; refine (none_Now _).mono ?_; rintro e w' ⟨rfl, rfl⟩) | (go_at_call 13; refine (none_Live _).mono ?_; rintro e w' ⟨rfl, rfl⟩) | (go_at_call 14; refine (none_Active _).mono ?_; rintro e w' ⟨rfl, rfl⟩) | (go_at_call 15; refine (none_Owner _ _).mono ?_; rintro e w' ⟨rfl, rfl⟩) | (go_at_call 8; refine (none_Deliver _ _).mono ?_; rintro e w' ⟨rfl, rfl⟩))
  refine (none_View _ _).mono ?_
  rintro e w2 ⟨rfl, hc2⟩
  have hx1 : Blk w2 w.heap.size #[.int .i64 k, .int .i64 c, .int .u64 u, .string b] 24 := hc2.blk (hx0.alloc _) (by simp)
  have hn2 : Blk w2 w1.heap.size noteZero 33 := hc2.blk (Blk.new _ _ _) (by simp)
  have ltn := hn2.lt
  have d1 := hx1.cell (i := 1) (v := .int .i64 c) rfl
  have d2 := hx1.cell (i := 2) (v := .int .u64 u) rfl
  have hw2 : Ch [] w w2 := ((((Ch.refl [] w).alloc _).trans hc1).alloc _).trans hc2
  clear c1 c2 hx0 ltx hc1 hc2
  have hb3 := Blk.new w2 #[.int .i64 0, .int .i64 0, .int .i64 0, .int .i64 0, .int .i64 0, .int .i64 0, .int .i64 0, .int .i64 0, .int .i64 0, .bool false, .int .i64 0, .int .i64 0, .int .i64 0, .int .i64 0, .int .i64 0, .int .i64 0, .int .i64 0, .int .i64 0, .int .i64 0, .int .i64 0, .string ⟨#[]⟩] 43
  go_wp2_with (first | (refine wpList_put 43 (.tmp 15) (.tmp 50) rfl rfl w2.heap.size viewZero rfl rfl 43 #[.int .i64 0, .int .i64 0, .int .i64 0, .int .i64 0, .int .i64 0, .int .i64 0, .int .i64 0, .int .i64 0, .int .i64 0, .bool false, .int .i64 0, .int .i64 0, .int .i64 0, .int .i64 0, .int .i64 0, .int .i64 0, .int .i64 0, .int .i64 0, .int .i64 0, .int .i64 0, .string ⟨#[]⟩] hb3 21 row_view rfl rfl one_view ?_; have hn3 := (hn2.alloc (.cells #[.int .i64 0, .int .i64 0, .int .i64 0, .int .i64 0, .int .i64 0, .int .i64 0, .int .i64 0, .int .i64 0, .int .i64 0, .bool false, .int .i64 0, .int .i64 0, .int .i64 0, .int .i64 0, .int .i64 0, .int .i64 0, .int .i64 0, .int .i64 0, .int .i64 0, .int .i64 0, .string ⟨#[]⟩] 43)).row_other (Nat.ne_of_lt ltn) viewZero; have hx3 := (hx1.alloc (.cells #[.int .i64 0, .int .i64 0, .int .i64 0, .int .i64 0, .int .i64 0, .int .i64 0, .int .i64 0, .int .i64 0, .int .i64 0, .bool false, .int .i64 0, .int .i64 0, .int .i64 0, .int .i64 0, .int .i64 0, .int .i64 0, .int .i64 0, .int .i64 0, .int .i64 0, .int .i64 0, .string ⟨#[]⟩] 43)).row_other (Nat.ne_of_lt hx1.lt) viewZero; have hb4 := hb3.row viewZero; have hw3 : Ch [] w _ := (hw2.alloc (.cells #[.int .i64 0, .int .i64 0, .int .i64 0, .int .i64 0, .int .i64 0, .int .i64 0, .int .i64 0, .int .i64 0, .int .i64 0, .bool false, .int .i64 0, .int .i64 0, .int .i64 0, .int .i64 0, .int .i64 0, .int .i64 0, .int .i64 0, .int .i64 0, .int .i64 0, .int .i64 0, .string ⟨#[]⟩] 43)).row (.inr hw2.size) viewZero; generalize (World.setRow (w2.alloc (.cells #[.int .i64 0, .int .i64 0, .int .i64 0, .int .i64 0, .int .i64 0, .int .i64 0, .int .i64 0, .int .i64 0, .int .i64 0, .bool false, .int .i64 0, .int .i64 0, .int .i64 0, .int .i64 0, .int .i64 0, .int .i64 0, .int .i64 0, .int .i64 0, .int .i64 0, .int .i64 0, .string ⟨#[]⟩] 43)) w2.heap.size viewZero) = W3 at hn3 hx3 hb4 hw3 ⊢; have e1 := hx3.cell (i := 1) (v := .int .i64 c) rfl; have e2 := hx3.cell (i := 2) (v := .int .u64 u) rfl; have n0 := hn3.cell (i := 0) (v := .int .i64 0) rfl; have n1 := hn3.cell (i := 1) (v := .int .i64 0) rfl; have n2 := hn3.cell (i := 2) (v := .int .i64 0) rfl; have n3 := hn3.cell (i := 3) (v := .string ⟨#[]⟩) rfl; have n4 := hn3.cell (i := 4) (v := .int .i64 0) rfl; have n5 := hn3.cell (i := 5) (v := .string ⟨#[]⟩) rfl; have hld : HoldsView (.pointer (some ⟨w2.heap.size, 0, none⟩)) W3 := ⟨_, rfl, hb4⟩; have hsm := same_view; clear hx1 hn2 hb3 d1 d2 hw2) | (go_at_call 4; refine (none_Tick _).mono ?_; rintro e w' ⟨rfl, rfl⟩) | (go_at_call 5; refine (none_Open _).mono ?_; rintro e w' ⟨rfl, rfl⟩) | (go_at_call 6; refine (none_Recv _ _ _).mono ?_; rintro e w' ⟨rfl, rfl⟩) | (go_at_call 10; refine (none_Draw _ _).mono ?_; rintro e w' ⟨rfl, rfl⟩) | (go_at_call 11; refine (none_Reset _ _).mono ?_; rintro e w' ⟨rfl, rfl⟩) | (go_at_call 12; refine (none_Now _).mono ?_; rintro e w' ⟨rfl, rfl⟩) | (go_at_call 13; refine (none_Live _).mono ?_; rintro e w' ⟨rfl, rfl⟩) | (go_at_call 14; refine (none_Active _).mono ?_; rintro e w' ⟨rfl, rfl⟩) | (go_at_call 15; refine (none_Owner _ _).mono ?_; rintro e w' ⟨rfl, rfl⟩) | (go_at_call 8; refine (none_Deliver _ _).mono ?_; rintro e w' ⟨rfl, rfl⟩))
  refine (awake42 _).mono ?_
  rintro e w4 ⟨rfl, hc4⟩
  go_wp2_with fail
  go_ret
  exact ⟨rfl, hw3.trans hc4⟩
end Go.Proofs.YtmimhgngbpancaaGreatDoor
