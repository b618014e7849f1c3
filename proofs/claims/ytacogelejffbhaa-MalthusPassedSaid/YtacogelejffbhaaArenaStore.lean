/- The contract of arena's Store. -/
import Derived.Test.YtacogelejffbhaaArena
namespace Go.Proofs.Ytacogelejffbhaa
open Go.RowKit

theorem aStore_any (w : World) (b i : Nat) (n v : Int) (h : w.cell? ⟨b, i, none⟩ = some (.int .i64 n)) (hz : w.frozen? ⟨b, i, none⟩ = false) :
    Calls Try.prog 72 #[.pointer (some ⟨b, i, none⟩), .int .i64 v] w fun e w' => e = .returned (.tuple #[]) ∧ w' = w.setCell ⟨b, i, none⟩ (.int .i64 v) := by
  have hl := run_call_store (P := Try.prog) Try.func82 (by kernel_rfl) (by kernel_rfl) (by kernel_rfl) (by kernel_rfl) (k := .i64) (y := v) h hz
  go_enter Try.func72, Try.ntmps72
  go_wp2
  go_end0
  exact ⟨rfl, rfl⟩

theorem Store_no {w : World} {ab wb : Nat} {A : AR} (h : ArAt w ab wb A) (i v : Int) (hi : A.has i = false) :
    Calls Try.prog 54 #[.pointer (some ⟨ab, 0, none⟩), .int .i64 i, .int .i64 v] w fun e w' => e = .returned (.tuple #[]) ∧ w = w' := by
  have HW := Lib.hid (word_no h i hi)
  clear h hi
  go_enter Try.func54, Try.ntmps54
  go_wp2_with fail
  refine HW.out.mono ?_
  rintro e w' ⟨rfl, rfl⟩
  go_wp2
  go_end0
  exact ⟨rfl, rfl⟩

theorem Store_yes {w : World} {ab wb : Nat} {A : AR} (h : ArAt w ab wb A) (i v : Int) (hi : A.has i = true) :
    Calls Try.prog 54 #[.pointer (some ⟨ab, 0, none⟩), .int .i64 i, .int .i64 v] w fun e w' => e = .returned (.tuple #[]) ∧ ArAt w' ab wb ((A.note 2 i true).put i v) ∧ Frm [ab, wb] w w' := by
  have HW := Lib.hid (word_yes h i hi)
  have HN := Lib.hid (note_any h 2 i true)
  have HI := Lib.hid (show (A.note 2 i true).has i = true from hi)
  clear h hi
  go_enter Try.func54, Try.ntmps54
  go_wp2_with fail
  refine HW.out.mono ?_
  rintro e w' ⟨rfl, rfl⟩
  go_wp2_with fail
  refine HN.out.mono ?_
  rintro e w1 ⟨rfl, hA, hF⟩
  have HA := Lib.hid hA
  have HF := Lib.hid hF
  clear hA hF
  go_wp2_with fail
  refine (aStore_any _ _ _ _ _ (ar_cell HA.out i HI.out) (HA.out.row.frozen _)).mono ?_
  rintro e w2 ⟨rfl, rfl⟩
  go_wp2
  go_end0
  exact ⟨rfl, HA.out.put i _, (HF.out.mono (by simp)).set _ _ (.inl (by simp))⟩

theorem Store_any {w : World} {ab wb : Nat} {A : AR} (h : ArAt w ab wb A) (i v : Int) :
    Calls Try.prog 54 #[.pointer (some ⟨ab, 0, none⟩), .int .i64 i, .int .i64 v] w fun e w' => e = .returned (.tuple #[]) ∧ ArAt w' ab wb (A.store i v) ∧ Frm [ab, wb] w w' := by
  cases hi : A.has i with
  | true => exact (Store_yes h i v hi).mono fun e w' ⟨h1, h2, h3⟩ => ⟨h1, by unfold AR.store; rw [hi]; exact h2, h3⟩
  | false =>
    exact (Store_no h i v hi).mono fun e w' ⟨h1, h2⟩ => by
      subst h2
      exact ⟨h1, by unfold AR.store; rw [hi]; exact h, Frm.refl _ _⟩

end Go.Proofs.Ytacogelejffbhaa
