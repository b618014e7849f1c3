/- The contracts of package field and of its reference: each function computes plain arithmetic of its word, and writes nothing. -/
import Derived.Test.YtakhhbemnodahaaProg
import Derived.Test.YtakhhbemnodahaaFrame
import Derived.Test.YtakhhbemnodahaaFieldBits
import Derived.WalkKit
import Derived.WalkSpells
import Derived.Deep.QuietTactic
import Derived.BigQuiet
namespace Go.Proofs.Ytakhhbemnodahaa
open Go.RowKit


/-- the three parts of a word -/
def fIdx (x : Int) : Int := x % 65536
def fNum (x : Int) : Int := x % 9223372036854775808 / 65536
def fMrk (x : Int) : Int := if x < 0 then 1 else 0
/-- a word with another part -/
def fSet0 (x v : Int) : Int := x - x % 65536 + v % 65536
def fSet1 (x v : Int) : Int := x / 9223372036854775808 * 9223372036854775808 + v % 140737488355328 * 65536 + x % 65536
def fSet2 (x v : Int) : Int := x % 9223372036854775808 - v % 2 * 9223372036854775808
def fFits0 (v : Int) : Bool := decide (0 ≤ v ∧ v < 65536)
def fFits1 (v : Int) : Bool := decide (0 ≤ v ∧ v < 140737488355328)


theorem low0 (w : World) : Calls Try.prog 84 #[.int .i64 0] w fun e w' => e = .returned (.tuple #[.int .i64 0, .int .i64 16]) ∧ w = w' := by
  go_enter Try.func84, Try.ntmps84
  go_wp2
  go_ret2
  exact ⟨rfl, rfl⟩
theorem low1 (w : World) : Calls Try.prog 84 #[.int .i64 1] w fun e w' => e = .returned (.tuple #[.int .i64 16, .int .i64 47]) ∧ w = w' := by
  go_enter Try.func84, Try.ntmps84
  go_wp2
  go_ret2
  exact ⟨rfl, rfl⟩
theorem low2 (w : World) : Calls Try.prog 84 #[.int .i64 2] w fun e w' => e = .returned (.tuple #[.int .i64 63, .int .i64 1]) ∧ w = w' := by
  go_enter Try.func84, Try.ntmps84
  go_wp2
  go_ret2
  exact ⟨rfl, rfl⟩

theorem get0 (x : Int) (w : World) : Calls Try.prog 82 #[.int .i64 x, .int .i64 0] w fun e w' => e = .returned (.int .i64 (fIdx x)) ∧ ∃ n, w' = w.drewN n := by
  go_enter Try.func82, Try.ntmps82
  go_wp2_with (go_at_call 84; refine (low0 _).mono ?_; rintro e w' ⟨rfl, rfl⟩)
  go_quiet (fail)
  go_wp2
  go_ret
  exact ⟨ret_int (Fld.get_index x), _, rfl⟩
theorem get1 (x : Int) (w : World) : Calls Try.prog 82 #[.int .i64 x, .int .i64 1] w fun e w' => e = .returned (.int .i64 (fNum x)) ∧ ∃ n, w' = w.drewN n := by
  go_enter Try.func82, Try.ntmps82
  go_wp2_with (go_at_call 84; refine (low1 _).mono ?_; rintro e w' ⟨rfl, rfl⟩)
  go_quiet (fail)
  go_wp2
  go_ret
  exact ⟨ret_int (Fld.get_number x), _, rfl⟩
theorem get2 (x : Int) (hx : I64 x) (w : World) : Calls Try.prog 82 #[.int .i64 x, .int .i64 2] w fun e w' => e = .returned (.int .i64 (fMrk x)) ∧ ∃ n, w' = w.drewN n := by
  go_enter Try.func82, Try.ntmps82
  go_wp2_with (go_at_call 84; refine (low2 _).mono ?_; rintro e w' ⟨rfl, rfl⟩)
  go_quiet (fail)
  go_wp2
  go_ret
  exact ⟨ret_int (Fld.get_mark x hx.1 hx.2), _, rfl⟩

theorem set0 (x v : Int) (hx : I64 x) (w : World) : Calls Try.prog 78 #[.int .i64 x, .int .i64 0, .int .i64 v] w fun e w' => e = .returned (.int .i64 (fSet0 x v)) ∧ w = w' := by
  go_enter Try.func78, Try.ntmps78
  go_wp2_with (go_at_call 84; refine (low0 _).mono ?_; rintro e w' ⟨rfl, rfl⟩)
  go_ret
  exact ⟨ret_int (Fld.set_index x v hx.1 hx.2), rfl⟩
theorem set1 (x v : Int) (hx : I64 x) (w : World) : Calls Try.prog 78 #[.int .i64 x, .int .i64 1, .int .i64 v] w fun e w' => e = .returned (.int .i64 (fSet1 x v)) ∧ w = w' := by
  go_enter Try.func78, Try.ntmps78
  go_wp2_with (go_at_call 84; refine (low1 _).mono ?_; rintro e w' ⟨rfl, rfl⟩)
  go_ret
  exact ⟨ret_int (Fld.set_number x v hx.1 hx.2), rfl⟩
theorem set2 (x v : Int) (hx : I64 x) (w : World) : Calls Try.prog 78 #[.int .i64 x, .int .i64 2, .int .i64 v] w fun e w' => e = .returned (.int .i64 (fSet2 x v)) ∧ w = w' := by
  go_enter Try.func78, Try.ntmps78
  go_wp2_with (go_at_call 84; refine (low2 _).mono ?_; rintro e w' ⟨rfl, rfl⟩)
  go_ret
  exact ⟨ret_int (Fld.set_mark x v hx.1 hx.2), rfl⟩

theorem fits0 (v : Int) (w : World) : Calls Try.prog 77 #[.int .i64 0, .int .i64 v] w fun e w' => e = .returned (.bool (fFits0 v)) ∧ ∃ n, w' = w.drewN n := by
  go_enter Try.func77, Try.ntmps77
  go_wp2_with fail
  refine (set0 _ _ (by unfold I64; omega) _).mono ?_
  rintro e w' ⟨rfl, rfl⟩
  go_wp2_with fail
  refine (get0 _ _).mono ?_
  rintro e w' ⟨rfl, n, rfl⟩
  go_wp2
  go_ret
  refine ⟨ret_bool ?_, _, rfl⟩
  unfold fFits0 fIdx fSet0; rw [Bool.eq_iff_iff]; simp; omega
theorem fits1 (v : Int) (w : World) : Calls Try.prog 77 #[.int .i64 1, .int .i64 v] w fun e w' => e = .returned (.bool (fFits1 v)) ∧ ∃ n, w' = w.drewN n := by
  go_enter Try.func77, Try.ntmps77
  go_wp2_with fail
  refine (set1 _ _ (by unfold I64; omega) _).mono ?_
  rintro e w' ⟨rfl, rfl⟩
  go_wp2_with fail
  refine (get1 _ _).mono ?_
  rintro e w' ⟨rfl, n, rfl⟩
  go_wp2
  go_ret
  refine ⟨ret_bool ?_, _, rfl⟩
  unfold fFits1 fNum fSet1; rw [Bool.eq_iff_iff]; simp; omega

theorem Index_any (x : Int) (w : World) : Calls Try.prog 65 #[.int .i64 x] w fun e w' => e = .returned (.int .i64 (fIdx x)) ∧ ∃ n, w' = w.drewN n := by
  go_enter Try.func65, Try.ntmps65
  go_wp2_with fail
  refine (get0 _ _).mono ?_
  rintro e w' ⟨rfl, n, rfl⟩
  go_wp2
  go_ret
  exact ⟨rfl, _, rfl⟩
theorem Number_any (x : Int) (w : World) : Calls Try.prog 68 #[.int .i64 x] w fun e w' => e = .returned (.int .i64 (fNum x)) ∧ ∃ n, w' = w.drewN n := by
  go_enter Try.func68, Try.ntmps68
  go_wp2_with fail
  refine (get1 _ _).mono ?_
  rintro e w' ⟨rfl, n, rfl⟩
  go_wp2
  go_ret
  exact ⟨rfl, _, rfl⟩
def fMarked (x : Int) : Bool := decide (x < 0)
theorem Marked_any (x : Int) (hx : I64 x) (w : World) : Calls Try.prog 66 #[.int .i64 x] w fun e w' => e = .returned (.bool (fMarked x)) ∧ ∃ n, w' = w.drewN n := by
  go_enter Try.func66, Try.ntmps66
  go_wp2_with fail
  refine (get2 _ hx _).mono ?_
  rintro e w' ⟨rfl, n, rfl⟩
  go_wp2
  go_ret
  refine ⟨ret_bool ?_, _, rfl⟩
  unfold fMarked fMrk; rw [Bool.eq_iff_iff]; simp
def fPackOk (i n : Int) : Bool := decide (0 ≤ i ∧ i < 65536 ∧ 0 ≤ n ∧ n < 140737488355328)
def fPack (i n : Int) : Int := if fPackOk i n then n * 65536 + i else 0
def fPackE (i n : Int) : Int := if fPackOk i n then 0 else 1
theorem Pack_any (i n : Int) (w : World) : Calls Try.prog 61 #[.int .i64 i, .int .i64 n] w fun e w' => e = .returned (.tuple #[.int .i64 (fPack i n), .int .i64 (fPackE i n)]) ∧ ∃ n, w' = w.drewN n := by
  by_cases h1 : 0 ≤ i ∧ i < 65536
  · have f1 : fFits0 i = true := by unfold fFits0; simpa using h1
    by_cases h2 : 0 ≤ n ∧ n < 140737488355328
    · have f2 : fFits1 n = true := by unfold fFits1; simpa using h2
      go_enter Try.func61, Try.ntmps61
      go_wp2_with fail
      refine (fits0 _ _).mono ?_
      rintro e w' ⟨rfl, k, rfl⟩
      go_wp2_with fail
      refine (fits1 _ _).mono ?_
      rintro e w' ⟨rfl, k', rfl⟩
      go_wp2_with fail
      refine (set0 _ _ (by unfold I64; omega) _).mono ?_
      rintro e w' ⟨rfl, rfl⟩
      go_wp2_with fail
      refine (set1 _ _ (by unfold I64 fSet0; omega) _).mono ?_
      rintro e w' ⟨rfl, rfl⟩
      go_wp2
      go_ret2
      have hok : fPackOk i n = true := by unfold fPackOk; simp; omega
      refine ⟨ret_pair ?_ ?_, _, rfl⟩
      · unfold fPack fSet1 fSet0; rw [hok]; simp; omega
      · unfold fPackE; rw [hok]; rfl
    · have f2 : fFits1 n = false := by unfold fFits1; simpa using h2
      go_enter Try.func61, Try.ntmps61
      go_wp2_with fail
      refine (fits0 _ _).mono ?_
      rintro e w' ⟨rfl, k, rfl⟩
      go_wp2_with fail
      refine (fits1 _ _).mono ?_
      rintro e w' ⟨rfl, k', rfl⟩
      go_wp2
      go_ret2
      have hok : fPackOk i n = false := by unfold fPackOk; simp; omega
      refine ⟨ret_pair ?_ ?_, _, rfl⟩
      · unfold fPack; rw [hok]; rfl
      · unfold fPackE; rw [hok]; rfl
  · have f1 : fFits0 i = false := by unfold fFits0; simpa using h1
    go_enter Try.func61, Try.ntmps61
    go_wp2_with fail
    refine (fits0 _ _).mono ?_
    rintro e w' ⟨rfl, k, rfl⟩
    go_wp2
    go_ret2
    have hok : fPackOk i n = false := by unfold fPackOk; simp; omega
    refine ⟨ret_pair ?_ ?_, _, rfl⟩
    · unfold fPack; rw [hok]; rfl
    · unfold fPackE; rw [hok]; rfl

end Go.Proofs.Ytakhhbemnodahaa
