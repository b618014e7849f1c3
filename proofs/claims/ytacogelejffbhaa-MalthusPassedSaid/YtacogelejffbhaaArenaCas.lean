/- The contract of arena's Cas. -/
import Derived.Test.YtacogelejffbhaaArena
namespace Go.Proofs.Ytacogelejffbhaa
open Go.RowKit

theorem aCas_hit (w : World) (b i : Nat) (n v : Int) (h : w.cell? ⟨b, i, none⟩ = some (.int .i64 n)) (hz : w.frozen? ⟨b, i, none⟩ = false) :
    Calls Try.prog 81 #[.pointer (some ⟨b, i, none⟩), .int .i64 n, .int .i64 v] w fun e w' => e = .returned (.bool true) ∧ w' = w.setCell ⟨b, i, none⟩ (.int .i64 v) := by
  have hl := run_call_cas_hit (P := Try.prog) Try.func88 (by kernel_rfl) (by kernel_rfl) (by kernel_rfl) .i64 (by kernel_rfl) (y := v) h hz
  go_enter Try.func81, Try.ntmps81
  go_wp2
  go_ret
  exact ⟨rfl, rfl⟩
theorem aCas_miss (w : World) (b i : Nat) (n o v : Int) (h : w.cell? ⟨b, i, none⟩ = some (.int .i64 n)) (hz : w.frozen? ⟨b, i, none⟩ = false) (hne : ¬ n = o) :
    Calls Try.prog 81 #[.pointer (some ⟨b, i, none⟩), .int .i64 o, .int .i64 v] w fun e w' => e = .returned (.bool false) ∧ w = w' := by
  have hl := run_call_cas_miss (P := Try.prog) Try.func88 (by kernel_rfl) (by kernel_rfl) (by kernel_rfl) .i64 (by kernel_rfl) (o := o) (y := v) h hz hne
  clear hne
  go_enter Try.func81, Try.ntmps81
  go_wp2
  go_ret
  exact ⟨rfl, rfl⟩


theorem Cas_no {w : World} {ab wb : Nat} {A : AR} (h : ArAt w ab wb A) (i o v : Int) (hi : A.has i = false) :
    Calls Try.prog 69 #[.pointer (some ⟨ab, 0, none⟩), .int .i64 i, .int .i64 o, .int .i64 v] w fun e w' => e = .returned (.bool false) ∧ w = w' := by
  have HW := Lib.hid (word_no h i hi)
  clear h hi
  go_enter Try.func69, Try.ntmps69
  go_wp2_with fail
  refine HW.out.mono ?_
  rintro e w' ⟨rfl, rfl⟩
  go_wp2
  go_ret
  exact ⟨rfl, rfl⟩

theorem Cas_hit {w : World} {ab wb : Nat} {A : AR} (h : ArAt w ab wb A) (i v : Int) (hi : A.has i = true) :
    Calls Try.prog 69 #[.pointer (some ⟨ab, 0, none⟩), .int .i64 i, .int .i64 (A.get i), .int .i64 v] w fun e w' => e = .returned (.bool true) ∧ ArAt w' ab wb ((A.note 4 i true).put i v) ∧ Frm [ab, wb] w w' := by
  have HW := Lib.hid (word_yes h i hi)
  have HC := Lib.hid (aCas_hit w wb (i.toNat - 1) (A.get i) v (ar_cell h i hi) (h.row.frozen _))
  have HN := Lib.hid (note_any (h.put i v) 4 i true)
  clear h hi
  go_enter Try.func69, Try.ntmps69
  go_wp2_with fail
  refine HW.out.mono ?_
  rintro e w' ⟨rfl, rfl⟩
  go_wp2_with fail
  refine HC.out.mono ?_
  rintro e w' ⟨rfl, rfl⟩
  go_wp2_with fail
  refine HN.out.mono ?_
  rintro e w1 ⟨rfl, hA, hF⟩
  have HA := Lib.hid hA
  have HF := Lib.hid hF
  clear hA hF
  go_wp2
  go_ret
  exact ⟨rfl, HA.out, ((Frm.refl [ab, wb] w).set _ _ (.inl (by simp))).trans (HF.out.mono (by simp))⟩
theorem Cas_miss {w : World} {ab wb : Nat} {A : AR} (h : ArAt w ab wb A) (i o v : Int) (hi : A.has i = true) (hne : ¬ A.get i = o) :
    Calls Try.prog 69 #[.pointer (some ⟨ab, 0, none⟩), .int .i64 i, .int .i64 o, .int .i64 v] w fun e w' => e = .returned (.bool false) ∧ ArAt w' ab wb (A.note 4 i false) ∧ Frm [ab, wb] w w' := by
  have HW := Lib.hid (word_yes h i hi)
  have HC := Lib.hid (aCas_miss w wb (i.toNat - 1) (A.get i) o v (ar_cell h i hi) (h.row.frozen _) hne)
  have HN := Lib.hid (note_any h 4 i false)
  clear h hi hne
  go_enter Try.func69, Try.ntmps69
  go_wp2_with fail
  refine HW.out.mono ?_
  rintro e w' ⟨rfl, rfl⟩
  go_wp2_with fail
  refine HC.out.mono ?_
  rintro e w' ⟨rfl, rfl⟩
  go_wp2_with fail
  refine HN.out.mono ?_
  rintro e w1 ⟨rfl, hA, hF⟩
  have HA := Lib.hid hA
  have HF := Lib.hid hF
  clear hA hF
  go_wp2
  go_ret
  exact ⟨rfl, HA.out, HF.out.mono (by simp)⟩

theorem Cas_any {w : World} {ab wb : Nat} {A : AR} (h : ArAt w ab wb A) (i o v : Int) :
    Calls Try.prog 69 #[.pointer (some ⟨ab, 0, none⟩), .int .i64 i, .int .i64 o, .int .i64 v] w fun e w' => e = .returned (.bool (A.casOk i o)) ∧ ArAt w' ab wb (A.cas i o v) ∧ Frm [ab, wb] w w' := by
  cases hi : A.has i with
  | true =>
    by_cases he : A.get i = o
    · subst he
      exact (Cas_hit h i v hi).mono fun e w' ⟨h1, h2, h3⟩ => ⟨by rw [h1]; unfold AR.casOk; rw [hi]; simp, by unfold AR.cas; rw [hi, if_pos rfl, if_pos rfl]; exact h2, h3⟩
    · exact (Cas_miss h i o v hi he).mono fun e w' ⟨h1, h2, h3⟩ => ⟨by rw [h1]; unfold AR.casOk; rw [hi]; simp [he], by unfold AR.cas; rw [hi, if_pos rfl, if_neg he]; exact h2, h3⟩
  | false =>
    exact (Cas_no h i o v hi).mono fun e w' ⟨h1, h2⟩ => by
      subst h2
      exact ⟨by rw [h1]; unfold AR.casOk; rw [hi]; rfl, by unfold AR.cas; rw [hi]; exact h, Frm.refl _ _⟩

end Go.Proofs.Ytacogelejffbhaa
