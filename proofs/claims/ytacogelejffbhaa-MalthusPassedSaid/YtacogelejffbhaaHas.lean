/- The contract of the reference's Has: whether a number is among others. -/
import Derived.Test.YtacogelejffbhaaOwn
import Derived.Lib.Hide
import Derived.WalkSpells
import Derived.BigQuiet
namespace Go.Proofs.Ytacogelejffbhaa
open Go.RowKit

theorem Has_any (w : World) {b1 : Nat} {v : Value} {xs : List Int} (hx : RowAt w b1 v xs) (n : Int) :
    Calls Try.prog 12 #[v, .int .i64 n] w fun e w' => e = .returned (.bool (decide (n ∈ xs))) ∧ w = w' := by
  obtain ⟨a, cap, rfl, h1, hcx⟩ := hx
  unfold maxLen at h1
  have HX := Lib.hid hcx
  clear hcx
  generalize hq : decide (n ∈ xs) = q
  have HQ := Lib.hid hq
  clear hq
  go_enter Try.func12, Try.ntmps12
  go_wp2_with fail
  go_loopw [5] (fun i wr => ∃ k : Nat, i = .int .i64 k ∧ k ≤ xs.length ∧ (∀ j, j < k → xs[j]? ≠ some n) ∧ w = wr) (fun i _ => xs.length - (intOf i).toNat)
  case atStart => exact ⟨0, rfl, Nat.zero_le _, fun j hj => absurd hj (Nat.not_lt_zero _), rfl⟩
  case round =>
    obtain ⟨k, rfl, hk, hj, rfl⟩ := hrel
    have HJ := Lib.hid hj
    clear hj
    by_cases hlt : k < xs.length
    · obtain ⟨b, off, _, rfl, hc⟩ := HX.out (by omega)
      have c1 : w.cell? ⟨b, off + k, none⟩ = some (.int .i64 (xs[k]?.getD 0)) := hc k hlt
      have l1 : (k : Int) < xs.length := by omega
      have ex : xs[k]? = some (xs[k]?.getD 0) := by simp [hlt]
      have EX := Lib.hid ex
      clear hc ex
      generalize xs[k]?.getD 0 = x at *
      by_cases hxy : x = n
      · have d1 : (x == n) = true := by simpa using hxy
        have HXY := Lib.hid hxy
        clear hxy
        go_wp2
        go_ret
        refine ⟨ret_bool ?_, rfl⟩
        rw [← HQ.out]
        symm
        apply decide_eq_true
        have := EX.out
        rw [HXY.out] at this
        exact List.mem_of_getElem? this
      · have d1 : (x == n) = false := by simpa using hxy
        have HXY := Lib.hid hxy
        clear hxy
        go_wp2
        go_roundw
        case rel =>
          refine ⟨k + 1, by go_num, by omega, fun j hj => ?_, by trivial⟩
          by_cases e : j = k
          · rw [e, EX.out]; intro h; exact HXY.out (by simpa using h)
          · exact HJ.out j (by omega)
        case measure => simp [intOf]; omega
    · have hke : k = xs.length := by omega
      have HK := Lib.hid hke
      clear hke
      go_wp2
      go_ret
      refine ⟨ret_bool ?_, rfl⟩
      rw [← HQ.out]
      symm
      apply decide_eq_false
      intro h
      obtain ⟨j, hj⟩ := List.getElem?_of_mem h
      have hlt2 : j < xs.length := (List.getElem?_eq_some_iff.1 hj).1
      exact HJ.out j (by have := HK.out; omega) hj

end Go.Proofs.Ytacogelejffbhaa
