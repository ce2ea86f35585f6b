/- The closed facts of the row, joined. -/
import Derived.Test.YtmimhgngbpancaaGreatDoorFact42n
namespace Go.Proofs.YtmimhgngbpancaaGreatDoor
open Go Go.RowKit
set_option maxRecDepth 100000
theorem and2 {a b : Bool} (h : a = true) (k : b = true) : (a && b) = true := by rw [h, k]; rfl
theorem row_closed : joinedFacts Tryz.pinned.checked.prog 3 Tryz.f3 Rows.serverNoneSpec Rows.serverNoneRow = true := by
  unfold joinedFacts
  exact and2 (and2 (and2 (and2 (and2 (and2 (and2 (and2 (and2 (and2 (and2 (and2 (and2 (and2 (and2 (and2 (and2 (and2 (and2 (and2 (and2 (and2 (and2 (and2 (and2 (and2 (and2 (and2 (and2 (and2 (and2 (row_fact0) row_fact1) row_fact2) row_fact3) row_fact4) row_fact5) row_fact6) row_fact7) row_fact8) row_fact9) row_fact10) row_fact11) row_fact12) row_fact13) row_fact14) row_fact15) row_fact16) row_fact17) row_fact18) row_fact19) row_fact20) row_fact21) row_fact22) row_fact23) row_fact24) row_fact25) row_fact26) row_fact27) (by kernel_rfl)) row_fact29) row_fact30) row_fact31
end Go.Proofs.YtmimhgngbpancaaGreatDoor
