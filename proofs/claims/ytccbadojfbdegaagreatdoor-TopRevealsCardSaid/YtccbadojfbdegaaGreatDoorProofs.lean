/- PROVED: for all three texts foyertop.TopReveals returns true, its texts read afterwards as before, and memory that was there is as it was; conditions: the listed package variables hold at the start what the text of the program lays in them (tied by the card). -/
import Derived.Test.YtccbadojfbdegaaGreatDoorCards
import Derived.Test.YtccbadojfbdegaaGreatDoorRowB
import Derived.Test.YtccbadojfbdegaaGreatDoorTied
/- TopReveals: the tied card. -/
namespace Go.Proofs.YtccbadojfbdegaaGreatDoor
open Go
set_option maxRecDepth 100000
theorem calm_0 : ((Tryz.prog.funcs.toList.drop 0).take 100).all (fun fn => !fn.goes) = true := by kernel_rfl
theorem calm_1 : ((Tryz.prog.funcs.toList.drop 100).take 100).all (fun fn => !fn.goes) = true := by kernel_rfl
theorem calm_2 : ((Tryz.prog.funcs.toList.drop 200).take 100).all (fun fn => !fn.goes) = true := by kernel_rfl
theorem calm_3 : ((Tryz.prog.funcs.toList.drop 300).take 100).all (fun fn => !fn.goes) = true := by kernel_rfl
theorem calm_4 : ((Tryz.prog.funcs.toList.drop 400).take 100).all (fun fn => !fn.goes) = true := by kernel_rfl
theorem calm_5 : ((Tryz.prog.funcs.toList.drop 500).take 100).all (fun fn => !fn.goes) = true := by kernel_rfl
theorem calm_6 : ((Tryz.prog.funcs.toList.drop 600).take 100).all (fun fn => !fn.goes) = true := by kernel_rfl
theorem calm_end : (Tryz.prog.funcs.toList.drop 700).all (fun fn => !fn.goes) = true := by kernel_rfl
theorem calm_all : Tryz.prog.funcs.toList.all (fun fn => !fn.goes) = true := by
  have h := all_chunk _ _ 0 100 calm_0 (all_chunk _ _ 100 100 calm_1 (all_chunk _ _ 200 100 calm_2 (all_chunk _ _ 300 100 calm_3 (all_chunk _ _ 400 100 calm_4 (all_chunk _ _ 500 100 calm_5 (all_chunk _ _ 600 100 calm_6 (calm_end)))))))
  rw [List.drop_zero] at h
  exact h
theorem calm_mem {fn : Func} (h : fn ∈ Tryz.prog.funcs.toList) : fn.goes = false := by
  have := List.all_eq_true.1 calm_all fn h
  simpa using this
theorem goes3 : Tryz.prog.goes 3 = false := by
  have h1 : ((Tryz.prog.closure 3).any fun g => (Tryz.prog.funcs[g]?).any Func.goes) = false := List.any_eq_false.2 fun g _ => by
    cases hg : Tryz.prog.funcs[g]? with
    | none => simp
    | some fn =>
      have := calm_mem (Array.mem_toList_iff.2 (Array.mem_of_getElem? hg))
      simp [this]
  have h2 : Tryz.prog.funcs.any Func.goes = false := by
    rw [← Array.any_toList]
    exact List.any_eq_false.2 fun fn h => by simp [calm_mem h]
  unfold Program.goes
  rw [h1, h2, Bool.and_false, Bool.or_false]
theorem card1 : Rows.topRevealsRow.wfByText (OpenSpec.ofChange Rows.topRevealsSpec) = true := by kernel_rfl
theorem card2 : Tryz.prog.mainIs = some (true, "ccde7f4837d8d56d7dfc5b572af7284141f8330f2ec11e66bba4ad6612caa58a".toList) := by kernel_rfl
theorem card3 : true = Tryz.prog.looks [] := by kernel_rfl
theorem card4 : ([9].all fun u => !Tryz.prog.wantsStandIn u) = true := by kernel_rfl
theorem goesAt_false {P : Program} {n : String} {f : FuncId} (hn : P.funcNamed n = some f) (hg : P.goes f = false) : P.goesAt .entering n = false := by
  unfold Program.goesAt Program.goesFrom
  rw [hn]
  show (P.goes f || false) = false
  rw [hg]
  rfl
theorem card5 : false = Rows.topRevealsRow.goesBy Tryz.prog := (goesAt_false named3 goes3).symm

/-- the card: whatever its three texts, the call returns true; the texts read as they did; memory that was there is as it was -/
theorem topReveals_card_holds : Rows.TopRevealsCardSaid :=
  Claim7.holds_tied_plain_at .later [] [.data, .data, .data, .data, .sentinel, .sentinel, .data, .pinned] true (true, "ccde7f4837d8d56d7dfc5b572af7284141f8330f2ec11e66bba4ad6612caa58a") true
    topReveals_holds (fun _ h => by cases h) card1 (fun _ h => by cases h) rowTied rfl ⟨rfl, rfl⟩ card2 rfl
    (fun f fn hf hfn => by
      obtain rfl : f = 3 := Option.some.inj (named3.symm.trans hf) |>.symm
      obtain rfl : fn = Tryz.f3 := (Option.some.inj (Tryz.func3.symm.trans hfn)).symm
      exact ⟨card3, fun j t ht => by
        rw [Tryz.params3] at ht
        have hm : t ∈ [9] := by
          have := Array.mem_of_getElem? ht
          simp at this
          simp [this]
        exact (show Tryz.prog.wantsStandIn t = false by simpa using List.all_eq_true.1 card4 t hm)⟩)
    card5
#print axioms topReveals_card_holds
end Go.Proofs.YtccbadojfbdegaaGreatDoor
