/- The contract of arena's Add. -/
import Derived.Test.YtacogelejffbhaaArena
namespace Go.Proofs.Ytacogelejffbhaa
open Go.RowKit

theorem aAdd_any (w : World) (b i : Nat) (n d : Int) (h : w.cell? ⟨b, i, none⟩ = some (.int .i64 n)) (hz : w.frozen? ⟨b, i, none⟩ = false) :
    Calls Try.prog 80 #[.pointer (some ⟨b, i, none⟩), .int .i64 d] w fun e w' => e = .returned (.int .i64 (wrap64 (n + d))) ∧ w' = w.setCell ⟨b, i, none⟩ (.int .i64 (wrap64 (n + d))) := by
  have hl := run_call_add (P := Try.prog) Try.func87 (by kernel_rfl) (by kernel_rfl) (by kernel_rfl) .i64 (by kernel_rfl) (y := d) (s := wrap64 (n + d)) h hz (by simp [go_sem, IntWalk.i64_left])
  go_enter Try.func80, Try.ntmps80
  go_wp2
  go_ret
  exact ⟨rfl, rfl⟩

theorem Add_no {w : World} {ab wb : Nat} {A : AR} (h : ArAt w ab wb A) (i d : Int) (hi : A.has i = false) :
    Calls Try.prog 67 #[.pointer (some ⟨ab, 0, none⟩), .int .i64 i, .int .i64 d] w fun e w' => e = .returned (.int .i64 0) ∧ w = w' := by
  have HW := Lib.hid (word_no h i hi)
  clear h hi
  go_enter Try.func67, Try.ntmps67
  go_wp2_with fail
  refine HW.out.mono ?_
  rintro e w' ⟨rfl, rfl⟩
  go_wp2
  go_ret
  exact ⟨rfl, rfl⟩

theorem Add_yes {w : World} {ab wb : Nat} {A : AR} (h : ArAt w ab wb A) (i d : Int) (hi : A.has i = true) :
    Calls Try.prog 67 #[.pointer (some ⟨ab, 0, none⟩), .int .i64 i, .int .i64 d] w fun e w' => e = .returned (.int .i64 (wrap64 (A.get i + d))) ∧ ArAt w' ab wb ((A.note 5 i true).put i (wrap64 (A.get i + d))) ∧ Frm [ab, wb] w w' := by
  have HW := Lib.hid (word_yes h i hi)
  have HN := Lib.hid (note_any h 5 i true)
  have hg : (A.note 5 i true).get i = A.get i := rfl
  have HC := Lib.hid hg
  have HI := Lib.hid (show (A.note 5 i true).has i = true from hi)
  clear h hi hg
  go_enter Try.func67, Try.ntmps67
  go_wp2_with fail
  refine HW.out.mono ?_
  rintro e w' ⟨rfl, rfl⟩
  go_wp2_with fail
  refine HN.out.mono ?_
  rintro e w1 ⟨rfl, hA, hF⟩
  have HA := Lib.hid hA
  have HF := Lib.hid hF
  clear hA hF
  go_wp2_with fail
  refine (aAdd_any _ _ _ _ _ (ar_cell HA.out i HI.out) (HA.out.row.frozen _)).mono ?_
  rintro e w2 ⟨rfl, rfl⟩
  go_wp2
  go_ret
  exact ⟨ret_int (by rw [HC.out]), by rw [HC.out]; exact HA.out.put i _, (HF.out.mono (by simp)).set _ _ (.inl (by simp))⟩

theorem Add_any {w : World} {ab wb : Nat} {A : AR} (h : ArAt w ab wb A) (i d : Int) :
    Calls Try.prog 67 #[.pointer (some ⟨ab, 0, none⟩), .int .i64 i, .int .i64 d] w fun e w' => e = .returned (.int .i64 (A.addRes i d)) ∧ ArAt w' ab wb (A.add i d) ∧ Frm [ab, wb] w w' := by
  cases hi : A.has i with
  | true => exact (Add_yes h i d hi).mono fun e w' ⟨h1, h2, h3⟩ => ⟨by rw [h1]; unfold AR.addRes; rw [hi]; rfl, by unfold AR.add; rw [hi]; exact h2, h3⟩
  | false =>
    exact (Add_no h i d hi).mono fun e w' ⟨h1, h2⟩ => by
      subst h2
      exact ⟨by rw [h1]; unfold AR.addRes; rw [hi]; rfl, by unfold AR.add; rw [hi]; exact h, Frm.refl _ _⟩

end Go.Proofs.Ytacogelejffbhaa
