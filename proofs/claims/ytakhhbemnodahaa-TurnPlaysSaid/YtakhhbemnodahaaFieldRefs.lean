/- The contracts of the reference of package field: the same plain arithmetic. -/
import Derived.Test.YtakhhbemnodahaaFieldWalks
namespace Go.Proofs.Ytakhhbemnodahaa
open Go.RowKit

def fPlain (x : Int) : Int := x % 9223372036854775808
theorem plain_any (x : Int) (hx : I64 x) (w : World) : Calls Try.prog 83 #[.int .i64 x] w fun e w' => e = .returned (.int .i64 (fPlain x)) ∧ w = w' := by
  have h1 := hx.1
  have h2 := hx.2
  by_cases h : x < 0
  · go_enter Try.func83, Try.ntmps83
    go_wp2
    go_ret
    exact ⟨ret_int (by unfold fPlain; omega), rfl⟩
  · go_enter Try.func83, Try.ntmps83
    go_wp2
    go_ret
    exact ⟨ret_int (by unfold fPlain; omega), rfl⟩
theorem fPlain_bd (x : Int) : 0 ≤ fPlain x ∧ fPlain x ≤ 9223372036854775807 := by unfold fPlain; omega
theorem rIndex_any (x : Int) (hx : I64 x) (w : World) : Calls Try.prog 69 #[.int .i64 x] w fun e w' => e = .returned (.int .i64 (fIdx x)) ∧ w = w' := by
  have h1 := (fPlain_bd x).1
  have h2 := (fPlain_bd x).2
  go_enter Try.func69, Try.ntmps69
  go_wp2_with fail
  refine (plain_any _ hx _).mono ?_
  rintro e w' ⟨rfl, rfl⟩
  go_wp2
  go_ret
  exact ⟨ret_int (by unfold fPlain fIdx; omega), rfl⟩
theorem rNumber_any (x : Int) (hx : I64 x) (w : World) : Calls Try.prog 71 #[.int .i64 x] w fun e w' => e = .returned (.int .i64 (fNum x)) ∧ w = w' := by
  have h1 := (fPlain_bd x).1
  have h2 := (fPlain_bd x).2
  go_enter Try.func71, Try.ntmps71
  go_wp2_with fail
  refine (plain_any _ hx _).mono ?_
  rintro e w' ⟨rfl, rfl⟩
  go_wp2
  go_ret
  exact ⟨ret_int (by unfold fPlain fNum; omega), rfl⟩
theorem rMarked_any (x : Int) (w : World) : Calls Try.prog 70 #[.int .i64 x] w fun e w' => e = .returned (.bool (fMarked x)) ∧ w = w' := by
  go_enter Try.func70, Try.ntmps70
  go_wp2
  go_ret
  exact ⟨rfl, rfl⟩
theorem rPack_any (i n : Int) (w : World) : Calls Try.prog 62 #[.int .i64 i, .int .i64 n] w fun e w' => e = .returned (.tuple #[.int .i64 (fPack i n), .int .i64 (fPackE i n)]) ∧ w = w' := by
  by_cases h : 0 ≤ i ∧ i < 65536 ∧ 0 ≤ n ∧ n < 140737488355328
  · have hok : fPackOk i n = true := by unfold fPackOk; simpa using h
    obtain ⟨h1, h2, h3, h4⟩ := h
    have d1 : decide (i < 0) = false := by simp; omega
    have d2 : decide (65535 < i) = false := by simp; omega
    have d3 : decide (n < 0) = false := by simp; omega
    have d4 : decide (140737488355327 < n) = false := by simp; omega
    go_enter Try.func62, Try.ntmps62
    go_wp2
    go_ret2
    exact ⟨ret_pair (by unfold fPack; rw [hok]; rfl) (by unfold fPackE; rw [hok]; rfl), rfl⟩
  · have hok : fPackOk i n = false := by unfold fPackOk; simpa using h
    have hr1 : fPack i n = 0 := by unfold fPack; rw [hok]; rfl
    have hr2 : fPackE i n = 1 := by unfold fPackE; rw [hok]; rfl
    rw [hr1, hr2]
    clear hr1 hr2 hok
    by_cases h1 : i < 0
    · have d1 : decide (i < 0) = true := by simp; omega
      go_enter Try.func62, Try.ntmps62
      go_wp2
      go_ret2
      exact ⟨rfl, rfl⟩
    · have d1 : decide (i < 0) = false := by simp; omega
      by_cases h2 : 65535 < i
      · have d2 : decide (65535 < i) = true := by simp; omega
        go_enter Try.func62, Try.ntmps62
        go_wp2
        go_ret2
        exact ⟨rfl, rfl⟩
      · have d2 : decide (65535 < i) = false := by simp; omega
        by_cases h3 : n < 0
        · have d3 : decide (n < 0) = true := by simp; omega
          go_enter Try.func62, Try.ntmps62
          go_wp2
          go_ret2
          exact ⟨rfl, rfl⟩
        · have d3 : decide (n < 0) = false := by simp; omega
          have h4 : 140737488355327 < n := by omega
          have d4 : decide (140737488355327 < n) = true := by simp; omega
          go_enter Try.func62, Try.ntmps62
          go_wp2
          go_ret2
          exact ⟨rfl, rfl⟩

end Go.Proofs.Ytakhhbemnodahaa
