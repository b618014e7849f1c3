/- The contract of arena's Load. -/
import Derived.Test.YtacogelejffbhaaArena
namespace Go.Proofs.Ytacogelejffbhaa
open Go.RowKit

theorem aLoad_any (w : World) (b i : Nat) (n : Int) (h : w.cell? ⟨b, i, none⟩ = some (.int .i64 n)) :
    Calls Try.prog 43 #[.pointer (some ⟨b, i, none⟩)] w fun e w' => e = .returned (.int .i64 n) ∧ w = w' := by
  have hl := run_call_load (P := Try.prog) Try.func59 (by kernel_rfl) (by kernel_rfl) (by kernel_rfl) .i64 (by kernel_rfl) h
  go_enter Try.func43, Try.ntmps43
  go_wp2
  go_ret
  exact ⟨rfl, rfl⟩

theorem Load_no {w : World} {ab wb : Nat} {A : AR} (h : ArAt w ab wb A) (i : Int) (hi : A.has i = false) :
    Calls Try.prog 56 #[.pointer (some ⟨ab, 0, none⟩), .int .i64 i] w fun e w' => e = .returned (.int .i64 0) ∧ w = w' := by
  have HW := Lib.hid (word_no h i hi)
  clear h hi
  go_enter Try.func56, Try.ntmps56
  go_wp2_with fail
  refine HW.out.mono ?_
  rintro e w' ⟨rfl, rfl⟩
  go_wp2
  go_ret
  exact ⟨rfl, rfl⟩

theorem Load_yes {w : World} {ab wb : Nat} {A : AR} (h : ArAt w ab wb A) (i : Int) (hi : A.has i = true) :
    Calls Try.prog 56 #[.pointer (some ⟨ab, 0, none⟩), .int .i64 i] w fun e w' => e = .returned (.int .i64 (A.get i)) ∧ ArAt w' ab wb (A.note 1 i false) ∧ Frm [ab, wb] w w' := by
  have HW := Lib.hid (word_yes h i hi)
  have HN := Lib.hid (note_any h 1 i false)
  have hg : (A.note 1 i false).get i = A.get i := rfl
  have HC := Lib.hid hg
  have HI := Lib.hid (show (A.note 1 i false).has i = true from hi)
  clear h hi hg
  go_enter Try.func56, Try.ntmps56
  go_wp2_with fail
  refine HW.out.mono ?_
  rintro e w' ⟨rfl, rfl⟩
  go_wp2_with fail
  refine HN.out.mono ?_
  rintro e w1 ⟨rfl, hA, hF⟩
  have HA := Lib.hid hA
  have HF := Lib.hid hF
  clear hA hF
  go_wp2_with fail
  refine (aLoad_any _ _ _ _ (ar_cell HA.out i HI.out)).mono ?_
  rintro e w' ⟨rfl, rfl⟩
  go_wp2
  go_ret
  exact ⟨ret_int HC.out, HA.out, HF.out.mono (by simp)⟩

theorem Load_any {w : World} {ab wb : Nat} {A : AR} (h : ArAt w ab wb A) (i : Int) :
    Calls Try.prog 56 #[.pointer (some ⟨ab, 0, none⟩), .int .i64 i] w fun e w' => e = .returned (.int .i64 (A.get i)) ∧ ArAt w' ab wb (A.load i) ∧ Frm [ab, wb] w w' := by
  cases hi : A.has i with
  | true => exact (Load_yes h i hi).mono fun e w' ⟨h1, h2, h3⟩ => ⟨h1, by unfold AR.load; rw [hi]; exact h2, h3⟩
  | false =>
    exact (Load_no h i hi).mono fun e w' ⟨h1, h2⟩ => by
      subst h2
      exact ⟨by rw [h1]; unfold AR.get; rw [hi]; rfl, by unfold AR.load; rw [hi]; exact h, Frm.refl _ _⟩

end Go.Proofs.Ytacogelejffbhaa
