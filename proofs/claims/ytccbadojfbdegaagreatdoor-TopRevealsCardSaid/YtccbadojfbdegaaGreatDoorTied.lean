/- The tie of the listed variables to the text of the program. -/
import Derived.Test.YtccbadojfbdegaaGreatDoorRows
import Derived.LaidByTextLater
import Derived.SevenTiedAt
import Derived.LaidSub
import Derived.LaidOnce
/- The tie of the row's listed variables to the program's text: the closed facts one by one, so that each fits into the memory of one check. -/
namespace Go.Proofs.YtccbadojfbdegaaGreatDoor
open Go
set_option maxRecDepth 100000
def tied : List (String × DataW Unit) := [("math/bits.deBruijn32tab", Rows.laid_math_bits_deBruijn32tab), ("math/bits.deBruijn64tab", Rows.laid_math_bits_deBruijn64tab), ("internal/strconv.uint64pow10", Rows.laid_internal_strconv_uint64pow10), ("unicode/utf8.acceptRanges", Rows.laid_unicode_utf8_acceptRanges), ("strconv.ErrRange", Rows.laid_strconv_ErrRange), ("strconv.ErrSyntax", Rows.laid_strconv_ErrSyntax), ("foyer/digest.hex", Rows.laid_foyer_digest_hex)]
def tiedKinds : List LaidKind := [.data, .data, .data, .data, .sentinel, .sentinel, .data]
theorem tied1 : Tryz.prog.worded (varsWordLater true) = true := by kernel_rfl
theorem tied2 : Tryz.prog.worded (varsWordLater !true) = false := by kernel_rfl
theorem tied3 : Tryz.prog.worded rootWordLater = true := by kernel_rfl
theorem tied4 : tied.map (fun x => Tryz.prog.kindOfLater x.1) = tiedKinds.map some := by kernel_rfl
theorem tied5 : (Tryz.prog.funcNamed "gosem.cut.vars").isSome = true := by kernel_rfl
theorem tied6 : varsNamedLaterB Tryz.prog (varsId Tryz.prog) tied = true := by kernel_rfl
theorem tied7 : ∀ os tape, doorLeaves Tryz.prog 77 8 65 tied os tape = some (tied.filter fun x => x.2.handleName?.isNone, (funcsListed tied).map (·.2.funcsOut)) := fun _ _ => by kernel_rfl
theorem tiedAll : Tryz.prog.laidByTextLater tied tiedKinds true := Program.laidByTextLater_by_one 77 8 65 tied1 tied2 tied3 tied4 tied5 tied6 tied7
theorem pinnedFirst : Tryz.pinned.checked.prog.pinnedFits "unicode/utf8.first" = true := by kernel_rfl
theorem noUnsafe : Tryz.pinned.checked.prog.headLifts.contains "ownunsafe" = false := by kernel_rfl
theorem listFits : Tryz.pinned.checked.prog.listedFits Rows.topRevealsRow.laid = true := by
  unfold Program.listedFits
  rw [noUnsafe]
  kernel_rfl
theorem rowTied : Rows.topRevealsRow.laidByTextAt .later Tryz.pinned [.data, .data, .data, .data, .sentinel, .sentinel, .data, .pinned] true :=
  OpenClaim.laidByTextAt_pinned rfl rfl tiedAll rfl rfl rfl rfl (fun y hy _e => by
    simp only [Rows.topRevealsRow, List.zip_cons_cons, List.zip_nil_right, List.mem_cons, List.mem_nil_iff, or_false] at hy
    rcases hy with rfl | rfl | rfl | rfl | rfl | rfl | rfl | rfl
    · cases _e
    · cases _e
    · cases _e
    · cases _e
    · cases _e
    · cases _e
    · cases _e
    · exact ⟨pinnedFirst, by kernel_rfl⟩) listFits
end Go.Proofs.YtccbadojfbdegaaGreatDoor
