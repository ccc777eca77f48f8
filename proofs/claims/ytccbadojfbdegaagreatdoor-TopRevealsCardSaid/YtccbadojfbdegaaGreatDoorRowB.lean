/- The row of TopReveals, proved. -/
import Derived.Test.YtccbadojfbdegaaGreatDoorRowA
import Derived.Test.YtccbadojfbdegaaGreatDoorCell
/- The row of TopReveals, proved: its closed facts, one by one, and the contract. -/
namespace Go.Proofs.YtccbadojfbdegaaGreatDoor

theorem and2 {a b : Bool} (h : a = true) (k : b = true) : (a && b) = true := by rw [h, k]; rfl
set_option maxRecDepth 100000
theorem fact0 : (Rows.topRevealsRow.wf (OpenSpec.ofChange Rows.topRevealsSpec)) = true := by kernel_rfl
theorem fact1 : (laidOutB Tryz.prog) = true := laidOut
theorem fact2 : (mapsRowed Tryz.prog) = true := by kernel_rfl
theorem fact3 : (Tryz.f3.params.all (Tryz.prog.readableRec ·)) = true := by kernel_rfl
theorem fact4 : (namedTie Tryz.prog Rows.topRevealsRow.named Rows.topRevealsSpec.vars) = true := by kernel_rfl
theorem fact5 : ((Rows.topRevealsRow.stops == [])) = true := by kernel_rfl
theorem fact6 : ((Tryz.prog.stops == [])) = true := by kernel_rfl
theorem fact7 : ((Rows.topRevealsRow.knobs == [])) = true := by kernel_rfl
theorem fact8 : ((Tryz.prog.stopKnobs == [])) = true := by kernel_rfl
theorem fact9 : ((Rows.topRevealsRow.inPlace == Tryz.prog.inPlace 3)) = true := by rw [inPlace_eq]; exact beq_self_eq_true _
theorem fact10 : ((Rows.topRevealsRow.unfollowed == Tryz.prog.unfollowed 3)) = true := by rw [unfollowed_eq]; rfl
theorem fact11 : ((Rows.topRevealsRow.recurses == Tryz.prog.recurses 3)) = true := by rw [recurses_eq]; rfl
theorem fact12 : ((Rows.topRevealsRow.named == Tryz.prog.varsNamed 3)) = true := by rw [varsNamed_eq]; exact beq_self_eq_true _
theorem fact13 : ((Rows.topRevealsRow.maps == (Tryz.f3.params.toList ++ Rows.topRevealsSpec.plain.varTypes Tryz.prog).any (Tryz.prog.mapsRec ·))) = true := by kernel_rfl
theorem fact14 : ((Rows.topRevealsRow.ifaces == (Tryz.f3.params.toList ++ Rows.topRevealsSpec.plain.varTypes Tryz.prog).any (Tryz.prog.ifacesRec ·))) = true := by kernel_rfl
theorem fact15 : ((Rows.topRevealsRow.mapsOut == Tryz.prog.mapsAmong Tryz.f3.resultTypes.toList)) = true := by kernel_rfl
theorem fact16 : ((Rows.topRevealsRow.loops == (Tryz.f3.params.toList ++ Rows.topRevealsSpec.plain.varTypes Tryz.prog).any (Tryz.prog.loopsFrom ·))) = true := by kernel_rfl
theorem fact17 : ((Rows.topRevealsRow.wideKeys == (Tryz.f3.params.toList ++ Rows.topRevealsSpec.plain.varTypes Tryz.prog ++ Tryz.f3.resultTypes.toList).any (Tryz.prog.wideKeysFrom ·))) = true := by kernel_rfl
theorem fact18 : (Rows.topRevealsSpec.vars.all (Tryz.prog.varReadable ·)) = true := by kernel_rfl
theorem fact19 : (Tryz.f3.resultTypes.all (fun t => Tryz.prog.readableRec t && decide (t < Tryz.prog.types.size))) = true := by kernel_rfl
theorem fact20 : ((Rows.topRevealsRow.ifacesOut == Tryz.f3.resultTypes.toList.any (Tryz.prog.ifacesRec ·))) = true := by kernel_rfl
theorem fact21 : ((Rows.topRevealsRow.loopsOut == Tryz.f3.resultTypes.toList.any (Tryz.prog.loopsFrom ·))) = true := by kernel_rfl
theorem fact22 : ((Rows.topRevealsRow.plainKeys == Tryz.prog.plainKeys)) = true := by kernel_rfl
theorem fact23 : (Rows.topRevealsRow.shortTexts.isNone) = true := by kernel_rfl
theorem fact24 : (Tryz.prog.stopsHeard) = true := by kernel_rfl
theorem fact25 : (Tryz.prog.mayEnter) = true := by kernel_rfl
theorem fact26 : ((Rows.topRevealsRow.lifted == Tryz.prog.liftsFinal)) = true := by kernel_rfl
theorem fact27 : ((Tryz.prog.make == some Rows.topRevealsRow.make)) = true := by kernel_rfl
theorem fact28 : ((Rows.topRevealsRow.kinds == (if Rows.topRevealsRow.domain.isEmpty then [] else Tryz.f3.params.toList.map fun t => match Tryz.prog.underlying t with | some (.int k) => some k | _ => none))) = true := by kernel_rfl
theorem fact29 : ((Rows.topRevealsRow.pinned == Rows.topRevealsRow.pinnedBy)) = true := by kernel_rfl
theorem fact30 : ((Rows.topRevealsRow.veiled == (Tryz.f3.params.toList ++ Rows.topRevealsSpec.plain.varTypes Tryz.prog ++ Tryz.f3.resultTypes.toList).any (Tryz.prog.veiledRec ·))) = true := by kernel_rfl
theorem fact31 : (Rows.topRevealsRow.veiledFits Tryz.prog Tryz.f3.params.toList (Tryz.f3.params.toList ++ Rows.topRevealsSpec.plain.varTypes Tryz.prog ++ Tryz.f3.resultTypes.toList)) = true := by kernel_rfl
theorem facts : joinedFacts Tryz.prog 3 Tryz.f3 Rows.topRevealsSpec Rows.topRevealsRow = true := by
  unfold joinedFacts
  exact and2 (and2 (and2 (and2 (and2 (and2 (and2 (and2 (and2 (and2 (and2 (and2 (and2 (and2 (and2 (and2 (and2 (and2 (and2 (and2 (and2 (and2 (and2 (and2 (and2 (and2 (and2 (and2 (and2 (and2 (and2 fact0 fact1) fact2) fact3) fact4) fact5) fact6) fact7) fact8) fact9) fact10) fact11) fact12) fact13) fact14) fact15) fact16) fact17) fact18) fact19) fact20) fact21) fact22) fact23) fact24) fact25) fact26) fact27) fact28) fact29) fact30) fact31
theorem named3 : Tryz.prog.funcNamed "foyer/foyertop.TopReveals" = some 3 := by kernel_rfl
theorem notInstance : Tryz.f3.isInstance Tryz.prog Rows.topRevealsRow.origin Rows.topRevealsRow.targs := of_decide_eq_true (by kernel_rfl)
theorem notWrapper : Tryz.f3.isWrapper Tryz.prog Rows.topRevealsRow.wrapper Rows.topRevealsRow.mainSum := by
  unfold Func.isWrapper
  first | (rw [if_pos (by decide +kernel)]; kernel_rfl) | (rw [if_neg (by decide +kernel)]; exact ⟨rfl, rfl⟩)

/-- the row -/
theorem topReveals_holds : Rows.TopRevealsSaid :=
  OpenClaim.holds_of_wide 3 Tryz.f3 rfl rfl rfl rfl rfl rfl rfl ⟨rfl, rfl, rfl, rfl, rfl⟩ rfl rfl rfl rfl rfl named3 Tryz.func3 facts notInstance notWrapper
    (fun os started H enc _ => lifted os started H enc)
end Go.Proofs.YtccbadojfbdegaaGreatDoor
