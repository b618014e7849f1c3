/- The law's own check of what must come, whatever the arguments are: it returns true. -/
import Derived.Test.YteapniipkpijkaaFieldRefs
namespace Go.Proofs.Yteapniipkpijkaa
open Go.RowKit

theorem fawake (w : World) : Calls Try.prog 19 #[] w fun e w' => e = .returned (.bool true) ∧ ∃ n, w' = w.drewN n := by
  have a1 : fPack 3 2 = 131075 := by decide
  have a2 : fPackE 3 2 = 0 := by decide
  have a3 : fPackE 65536 0 = 1 := by decide
  have a4 : fPackE 0 140737488355328 = 1 := by decide
  have a5 : fMark 131075 true = -9223372036854644733 := by decide
  have a6 : fIdx (-9223372036854644733) = 3 := by decide
  have a7 : fNum (-9223372036854644733) = 2 := by decide
  have a8 : fMarked (-9223372036854644733) = true := by decide
  have a9 : fMarked 131075 = false := by decide
  have a10 : fMark (-9223372036854644733) false = 131075 := by decide
  go_enter Try.func19, Try.ntmps19
  go_wp2_with fail
  refine (Pack_any _ _ _).mono ?_
  rintro e w' ⟨rfl, n1, rfl⟩
  go_wp2_with fail
  refine (Pack_any _ _ _).mono ?_
  rintro e w' ⟨rfl, n2, rfl⟩
  go_wp2_with fail
  refine (Pack_any _ _ _).mono ?_
  rintro e w' ⟨rfl, n3, rfl⟩
  go_wp2_with fail
  refine (Mark_any _ (by unfold I64; omega) _ _).mono ?_
  rintro e w' ⟨rfl, rfl⟩
  go_wp2_with fail
  refine (Index_any _ _).mono ?_
  rintro e w' ⟨rfl, n4, rfl⟩
  go_wp2_with fail
  refine (Number_any _ _).mono ?_
  rintro e w' ⟨rfl, n5, rfl⟩
  go_wp2_with fail
  refine (Marked_any _ (by unfold I64; omega) _).mono ?_
  rintro e w' ⟨rfl, n6, rfl⟩
  go_wp2_with fail
  refine (Marked_any _ (by unfold I64; omega) _).mono ?_
  rintro e w' ⟨rfl, n7, rfl⟩
  go_wp2_with fail
  refine (Mark_any _ (by unfold I64; omega) _ _).mono ?_
  rintro e w' ⟨rfl, rfl⟩
  go_wp2
  go_ret
  exact ⟨rfl, _, rfl⟩

end Go.Proofs.Yteapniipkpijkaa
