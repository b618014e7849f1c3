/- The walks of the three laws of field: each returns true, and writes nothing that was there. -/
import Derived.Test.YteapniipkpijkaaFieldAwake
import Derived.WalkSmall
namespace Go.Proofs.Yteapniipkpijkaa
open Go.RowKit

set_option maxHeartbeats 1000000 in
theorem fieldSays_walk (x p0 p1 : Int) (on : Bool) (w : World) (hx : I64 x) (_ : I64 p0) (_ : I64 p1) :
    Calls Try.prog 3 #[.int .i64 x, .agg #[.int .i64 p0, .int .i64 p1], .bool on] w fun e w' => e = .returned (.bool true) ∧ Below w.heap.size w w' := by
  go_enter Try.func3, Try.ntmps3
  go_wp2_with fail
  refine (Pack_any _ _ _).mono ?_
  rintro e w' ⟨rfl, n1, rfl⟩
  go_wp2_with fail
  refine (rPack_any _ _ _).mono ?_
  rintro e w' ⟨rfl, rfl⟩
  go_wp2_with fail
  refine (Index_any _ _).mono ?_
  rintro e w' ⟨rfl, n4, rfl⟩
  go_wp2_with fail
  refine (rIndex_any _ hx _).mono ?_
  rintro e w' ⟨rfl, rfl⟩
  go_wp2_with fail
  refine (Number_any _ _).mono ?_
  rintro e w' ⟨rfl, n5, rfl⟩
  go_wp2_with fail
  refine (rNumber_any _ hx _).mono ?_
  rintro e w' ⟨rfl, rfl⟩
  go_wp2_with fail
  refine (Marked_any _ hx _).mono ?_
  rintro e w' ⟨rfl, n6, rfl⟩
  go_wp2_with fail
  refine (rMarked_any _ _).mono ?_
  rintro e w' ⟨rfl, rfl⟩
  go_wp2_with fail
  refine (Mark_any _ hx _ _).mono ?_
  rintro e w' ⟨rfl, rfl⟩
  go_wp2_with fail
  refine (rMark_any _ hx _ _).mono ?_
  rintro e w' ⟨rfl, rfl⟩
  go_wp2_with fail
  refine (fawake _).mono ?_
  rintro e w' ⟨rfl, n, rfl⟩
  go_wp2
  go_ret

  exact ⟨rfl, below_drewN ((Below.refl _ _).alloc (Nat.le_refl _) _) _⟩

set_option maxHeartbeats 1000000 in
theorem fieldBack_walk (x : Int) (on : Bool) (w : World) (hx : I64 x) :
    Calls Try.prog 4 #[.int .i64 x, .bool on] w fun e w' => e = .returned (.bool true) ∧ Below w.heap.size w w' := by
  have x1 := hx.1
  have x2 := hx.2
  have hok : fPackOk (fIdx x) (fNum x) = true := by unfold fPackOk fIdx fNum; simp; omega
  have e1 : fPackE (fIdx x) (fNum x) = 0 := by unfold fPackE; rw [hok]; rfl
  have e0 : fPack (fIdx x) (fNum x) = x % 9223372036854775808 := by unfold fPack; rw [hok]; unfold fIdx fNum; simp; omega
  have hp : I64 (fPack (fIdx x) (fNum x)) := by rw [e0]; unfold I64; omega
  have hm : I64 (fMark x on) := by unfold I64 fMark; cases on <;> simp <;> omega
  have e2 : fMark (fPack (fIdx x) (fNum x)) (fMarked x) = x := by
    rw [e0]; unfold fMark fMarked
    by_cases h : x < 0 <;> simp [h] <;> omega
  have e3 : fMarked (fPack (fIdx x) (fNum x)) = false := by rw [e0]; unfold fMarked; simp; omega
  have e4 : fMarked (fMark x on) = on := by unfold fMarked fMark; cases on <;> simp <;> omega
  have e5 : fIdx (fMark x on) = fIdx x := by unfold fIdx fMark; cases on <;> simp <;> omega
  have e6 : fNum (fMark x on) = fNum x := by unfold fNum fMark; cases on <;> simp
  clear hok e0
  go_enter Try.func4, Try.ntmps4
  go_wp2_with fail
  refine (Index_any _ _).mono ?_
  rintro e w' ⟨rfl, n1, rfl⟩
  go_wp2_with fail
  refine (Number_any _ _).mono ?_
  rintro e w' ⟨rfl, n2, rfl⟩
  go_wp2_with fail
  refine (Pack_any _ _ _).mono ?_
  rintro e w' ⟨rfl, n3, rfl⟩
  go_wp2_with fail
  refine (Mark_any _ hx _ _).mono ?_
  rintro e w' ⟨rfl, rfl⟩
  go_wp2_with fail
  refine (Marked_any _ hx _).mono ?_
  rintro e w' ⟨rfl, n4, rfl⟩
  go_wp2_with fail
  refine (Mark_any _ hp _ _).mono ?_
  rintro e w' ⟨rfl, rfl⟩
  go_wp2_with fail
  refine (Marked_any _ hp _).mono ?_
  rintro e w' ⟨rfl, n5, rfl⟩
  go_wp2_with fail
  refine (Marked_any _ hm _).mono ?_
  rintro e w' ⟨rfl, n6, rfl⟩
  go_wp2_with fail
  refine (Index_any _ _).mono ?_
  rintro e w' ⟨rfl, n7, rfl⟩
  go_wp2_with fail
  refine (Index_any _ _).mono ?_
  rintro e w' ⟨rfl, n8, rfl⟩
  go_wp2_with fail
  refine (Number_any _ _).mono ?_
  rintro e w' ⟨rfl, n9, rfl⟩
  go_wp2_with fail
  refine (Number_any _ _).mono ?_
  rintro e w' ⟨rfl, n10, rfl⟩
  go_wp2_with fail
  refine (fawake _).mono ?_
  rintro e w' ⟨rfl, n11, rfl⟩
  go_wp2
  go_ret
  exact ⟨rfl, below_drewN (Below.refl _ _) _⟩

end Go.Proofs.Yteapniipkpijkaa
