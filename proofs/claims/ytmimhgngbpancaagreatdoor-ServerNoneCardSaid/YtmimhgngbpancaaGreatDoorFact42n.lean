/- The closed facts of the row, one by one. -/
import Derived.Test.YtmimhgngbpancaaGreatDoorRows
import Derived.ProofKit
namespace Go.Proofs.YtmimhgngbpancaaGreatDoor
open Go Go.RowKit
theorem server_none_named : Tryz.pinned.checked.prog.funcNamed Rows.serverNoneRow.func = some 3 := by kernel_rfl
theorem row_fact0 : (Rows.serverNoneRow.wf (OpenSpec.ofChange Rows.serverNoneSpec)) = true := by kernel_rfl
theorem row_fact1 : (laidOutB Tryz.pinned.checked.prog) = true := by kernel_rfl
theorem row_fact2 : (mapsRowed Tryz.pinned.checked.prog) = true := by kernel_rfl
theorem row_fact3 : (Tryz.f3.params.all (Tryz.pinned.checked.prog.readableRec ·)) = true := by kernel_rfl
theorem row_fact4 : (namedTie Tryz.pinned.checked.prog Rows.serverNoneRow.named Rows.serverNoneSpec.vars) = true := by kernel_rfl
theorem row_fact5 : ((Rows.serverNoneRow.stops == [])) = true := by kernel_rfl
theorem row_fact6 : ((Tryz.pinned.checked.prog.stops == [])) = true := by kernel_rfl
theorem row_fact7 : ((Rows.serverNoneRow.knobs == [])) = true := by kernel_rfl
theorem row_fact8 : ((Tryz.pinned.checked.prog.stopKnobs == [])) = true := by kernel_rfl
theorem row_fact9 : ((Rows.serverNoneRow.inPlace == Tryz.pinned.checked.prog.inPlace 3)) = true := by kernel_rfl
theorem row_fact10 : ((Rows.serverNoneRow.unfollowed == Tryz.pinned.checked.prog.unfollowed 3)) = true := by kernel_rfl
theorem row_fact11 : ((Rows.serverNoneRow.recurses == Tryz.pinned.checked.prog.recurses 3)) = true := by kernel_rfl
theorem row_fact12 : ((Rows.serverNoneRow.named == Tryz.pinned.checked.prog.varsNamed 3)) = true := by kernel_rfl
theorem row_fact13 : ((Rows.serverNoneRow.maps == (Tryz.f3.params.toList ++ Rows.serverNoneSpec.plain.varTypes Tryz.pinned.checked.prog).any (Tryz.pinned.checked.prog.mapsRec ·))) = true := by kernel_rfl
theorem row_fact14 : ((Rows.serverNoneRow.ifaces == (Tryz.f3.params.toList ++ Rows.serverNoneSpec.plain.varTypes Tryz.pinned.checked.prog).any (Tryz.pinned.checked.prog.ifacesRec ·))) = true := by kernel_rfl
theorem row_fact15 : ((Rows.serverNoneRow.mapsOut == Tryz.pinned.checked.prog.mapsAmong Tryz.f3.resultTypes.toList)) = true := by kernel_rfl
theorem row_fact16 : ((Rows.serverNoneRow.loops == (Tryz.f3.params.toList ++ Rows.serverNoneSpec.plain.varTypes Tryz.pinned.checked.prog).any (Tryz.pinned.checked.prog.loopsFrom ·))) = true := by kernel_rfl
theorem row_fact17 : ((Rows.serverNoneRow.wideKeys == (Tryz.f3.params.toList ++ Rows.serverNoneSpec.plain.varTypes Tryz.pinned.checked.prog ++ Tryz.f3.resultTypes.toList).any (Tryz.pinned.checked.prog.wideKeysFrom ·))) = true := by kernel_rfl
theorem row_fact18 : (Rows.serverNoneSpec.vars.all (Tryz.pinned.checked.prog.varReadable ·)) = true := by kernel_rfl
theorem row_fact19 : (Tryz.f3.resultTypes.all (fun t => Tryz.pinned.checked.prog.readableRec t && decide (t < Tryz.pinned.checked.prog.types.size))) = true := by kernel_rfl
theorem row_fact20 : ((Rows.serverNoneRow.ifacesOut == Tryz.f3.resultTypes.toList.any (Tryz.pinned.checked.prog.ifacesRec ·))) = true := by kernel_rfl
theorem row_fact21 : ((Rows.serverNoneRow.loopsOut == Tryz.f3.resultTypes.toList.any (Tryz.pinned.checked.prog.loopsFrom ·))) = true := by kernel_rfl
theorem row_fact22 : ((Rows.serverNoneRow.plainKeys == Tryz.pinned.checked.prog.plainKeys)) = true := by kernel_rfl
theorem row_fact23 : (Rows.serverNoneRow.shortTexts.isNone) = true := by kernel_rfl
theorem row_fact24 : (Tryz.pinned.checked.prog.stopsHeard) = true := by kernel_rfl
theorem row_fact25 : (Tryz.pinned.checked.prog.mayEnter) = true := by kernel_rfl
theorem row_fact26 : ((Rows.serverNoneRow.lifted == Tryz.pinned.checked.prog.liftsFinal)) = true := by kernel_rfl
theorem row_fact27 : ((Tryz.pinned.checked.prog.make == some Rows.serverNoneRow.make)) = true := by kernel_rfl
theorem row_fact28 : ((Rows.serverNoneRow.kinds == (if Rows.serverNoneRow.domain.isEmpty then [] else Tryz.f3.params.toList.map fun t => match Tryz.pinned.checked.prog.underlying t with | some (.int k) => some k | _ => none))) = true := by kernel_rfl
theorem row_fact29 : ((Rows.serverNoneRow.pinned == Rows.serverNoneRow.pinnedBy)) = true := by kernel_rfl
theorem row_fact30 : ((Rows.serverNoneRow.veiled == (Tryz.f3.params.toList ++ Rows.serverNoneSpec.plain.varTypes Tryz.pinned.checked.prog ++ Tryz.f3.resultTypes.toList).any (Tryz.pinned.checked.prog.veiledRec ·))) = true := by kernel_rfl
theorem row_fact31 : (Rows.serverNoneRow.veiledFits Tryz.pinned.checked.prog Tryz.f3.params.toList (Tryz.f3.params.toList ++ Rows.serverNoneSpec.plain.varTypes Tryz.pinned.checked.prog ++ Tryz.f3.resultTypes.toList)) = true := by kernel_rfl
theorem server_none_inst : Tryz.f3.isInstance Tryz.pinned.checked.prog Rows.serverNoneRow.origin Rows.serverNoneRow.targs := of_decide_eq_true (by kernel_rfl)
theorem server_none_wrap : Tryz.f3.isWrapper Tryz.pinned.checked.prog Rows.serverNoneRow.wrapper Rows.serverNoneRow.mainSum := by unfold Func.isWrapper; first | (rw [if_pos (by decide +kernel)]; kernel_rfl) | (rw [if_neg (by decide +kernel)]; exact ⟨rfl, rfl⟩)
end Go.Proofs.YtmimhgngbpancaaGreatDoor
