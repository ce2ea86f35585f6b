/- ServerNone: a server that is not there does nothing: for every event and every owner the law returns true and changes nothing that it was given. No condition. -/
import Derived.Test.YtmimhgngbpancaaGreatDoorCards
import Derived.Test.YtmimhgngbpancaaGreatDoorTie
import Derived.SevenTiedAt
import Derived.Test.YtmimhgngbpancaaGreatDoorRow42n
namespace Go.Proofs.YtmimhgngbpancaaGreatDoor
open Go
theorem nobody_goes : Tryz.prog.funcs.any Func.goes = false := by kernel_rfl
theorem goes_no (P : Program) (h : P.funcs.any Func.goes = false) (c : OpenClaim) (hs : c.start = .entering) : false = c.goesBy P := by
  have h1 : ∀ g : FuncId, (P.funcs[g]?).any Func.goes = false := by
    intro g
    cases hg : P.funcs[g]? with
    | none => rfl
    | some fn =>
      have := Array.any_eq_false.1 h
      obtain ⟨hlt, he⟩ := Array.getElem?_eq_some_iff.1 hg
      have := this g hlt
      rw [he] at this
      simpa using this
  have h2 : ∀ f, P.goes f = false := by
    intro f
    unfold Program.goes
    rw [h, Bool.and_false, Bool.or_false]
    simp [h1]
  unfold OpenClaim.goesBy Program.goesAt
  rw [hs]
  unfold Program.goesFrom
  cases P.funcNamed c.func <;> simp [h2]
theorem card_wf : Rows.serverNoneRow.wfByText (OpenSpec.ofChange Rows.serverNoneSpec) = true := by kernel_rfl
theorem card_main : Tryz.pinned.checked.prog.mainIs = some (true, "343758dca3cc6b8f1f256044e187d6c80d27ed686c6d840b2eb864cff4fa6e6d".toList) := by kernel_rfl
theorem card_looks : true = Tryz.pinned.checked.prog.looks [] := by kernel_rfl
theorem server_none_card : Rows.ServerNoneCardSaid :=
  Claim7.holds_tied_plain_at .later [] [.data, .data, .data, .data, .pinned] true (true, "343758dca3cc6b8f1f256044e187d6c80d27ed686c6d840b2eb864cff4fa6e6d") true
    server_none_holds (fun _ h => by cases h) card_wf (fun _ h => by cases h) serverNone_row_tie rfl ⟨rfl, rfl⟩ card_main rfl
    (fun f fn hf hfn => by
      obtain rfl : f = 3 := Option.some.inj ((show Tryz.prog.funcNamed "concourse/concourselaw42.ServerNone" = some 3 by kernel_rfl).symm.trans hf) |>.symm
      obtain rfl : fn = Tryz.f3 := (Option.some.inj (Tryz.func3.symm.trans hfn)).symm
      exact ⟨card_looks, fun j t ht => by
        rw [Tryz.params3] at ht
        have hm : t ∈ [24, 3] := by simpa using Array.mem_of_getElem? ht
        have hall : ([24, 3].all fun u => !Tryz.prog.wantsStandIn u) = true := by kernel_rfl
        exact (show Tryz.prog.wantsStandIn t = false by simpa using List.all_eq_true.1 hall t hm)⟩)
    (goes_no _ nobody_goes _ rfl)
#print axioms server_none_card
end Go.Proofs.YtmimhgngbpancaaGreatDoor
