/- The contracts of the reference's Same: are numbers the same? -/
import Derived.Test.YtacogelejffbhaaOwn
import Derived.WalkSpells
import Derived.Deep.QuietTactic
import Derived.BigQuiet
import Derived.Lib.Hide
namespace Go.Proofs.Ytacogelejffbhaa
open Go.RowKit

theorem Same_len (w : World) {b1 b2 : Nat} {v u : Value} {xs ys : List Int} (hx : RowAt w b1 v xs) (hy : RowAt w b2 u ys) (hne : xs.length ≠ ys.length) :
    Calls Try.prog 24 #[v, u] w fun e w' => e = .returned (.bool false) ∧ ∃ n, w' = w.drewN n := by
  obtain ⟨a, cap, rfl, h1, -⟩ := hx
  obtain ⟨a', cap', rfl, h2, -⟩ := hy
  have d1 : ((xs.length : Int) == (ys.length : Int)) = false := by simp; omega
  have d2 : ((xs.length : Int) != (ys.length : Int)) = true := by simp; omega
  clear h1 h2 hne
  go_enter Try.func24, Try.ntmps24
  go_wp2
  go_ret
  exact ⟨rfl, 0, rfl⟩

set_option maxHeartbeats 1000000 in
theorem Same_loop (w : World) {b1 b2 : Nat} {v u : Value} {xs ys : List Int} (hx : RowAt w b1 v xs) (hy : RowAt w b2 u ys) (he : ys.length = xs.length) :
    Calls Try.prog 24 #[v, u] w fun e w' => e = .returned (.bool (decide (xs = ys))) ∧ ∃ n, w' = w.drewN n := by
  obtain ⟨a, cap, rfl, h1, hcx⟩ := hx
  obtain ⟨a', cap', rfl, h2, hcy⟩ := hy
  rw [he]
  unfold maxLen at h1
  have HX := Lib.hid hcx
  have HY := Lib.hid hcy
  have HE := Lib.hid he
  clear hcx hcy h2 he
  generalize hq : decide (xs = ys) = q
  have HQ := Lib.hid hq
  clear hq
  go_enter Try.func24, Try.ntmps24
  go_wp2_with fail
  go_loopw [5] (fun i wr => ∃ k n : Nat, i = .int .i64 k ∧ k ≤ xs.length ∧ (∀ j, j < k → xs[j]? = ys[j]?) ∧ wr = w.drewN n) (fun i _ => xs.length - (intOf i).toNat)
  case atStart => exact ⟨0, 0, rfl, Nat.zero_le _, fun j hj => absurd hj (Nat.not_lt_zero _), rfl⟩
  case round =>
    obtain ⟨k, n, rfl, hk, hj, hW⟩ := hrel
    have HJ := Lib.hid hj
    clear hj
    by_cases hlt : k < xs.length
    · obtain ⟨b, off, _, rfl, hc⟩ := HX.out (by omega)
      obtain ⟨b', off', _, rfl, hc'⟩ := HY.out (by rw [HE.out]; omega)
      have c1 : wr.cell? ⟨b, off + k, none⟩ = some (.int .i64 (xs[k]?.getD 0)) := by subst hW; exact hc k hlt
      have c2 : wr.cell? ⟨b', off' + k, none⟩ = some (.int .i64 (ys[k]?.getD 0)) := by subst hW; exact hc' k (by rw [HE.out]; exact hlt)
      have HW := Lib.hid hW
      have l1 : (k : Int) < xs.length := by omega
      have ex : xs[k]? = some (xs[k]?.getD 0) := by simp [hlt]
      have hky : k < ys.length := by rw [HE.out]; exact hlt
      have ey : ys[k]? = some (ys[k]?.getD 0) := by simp [hky]
      have EX := Lib.hid ex
      have EY := Lib.hid ey
      clear hW hc hc' ex ey hky
      generalize xs[k]?.getD 0 = x at *
      generalize ys[k]?.getD 0 = y at *
      by_cases hxy : x = y
      · have d1 : (x == y) = true := by simpa using hxy
        have d2 : (x != y) = false := by simpa using hxy
        have HXY := Lib.hid hxy
        clear hxy
        go_wp2_with fail
        go_quiet (fail)
        go_wp2
        go_roundw
        case rel =>
          refine ⟨k + 1, n + nq, by go_num, by omega, fun j hj => ?_, by rw [HW.out, World.drewN_drewN]⟩
          by_cases e : j = k
          · rw [e, EX.out, EY.out, HXY.out]
          · exact HJ.out j (by omega)
        case measure => simp [intOf]; omega
      · have d1 : (x == y) = false := by simpa using hxy
        have d2 : (x != y) = true := by simpa using hxy
        have HXY := Lib.hid hxy
        clear hxy
        go_wp2_with fail
        go_quiet (fail)
        go_wp2
        go_ret
        refine ⟨ret_bool ?_, n + nq, by rw [HW.out, World.drewN_drewN]⟩
        rw [← HQ.out]
        symm
        apply decide_eq_false
        intro h
        rw [h, EY.out] at EX
        exact HXY.out (by have := EX.out; simpa using this.symm)
    · have hke : k = xs.length := by omega
      have HK := Lib.hid hke
      have HW := Lib.hid hW
      clear hW hke
      go_wp2
      go_ret
      refine ⟨ret_bool ?_, n, HW.out⟩
      rw [← HQ.out]
      symm
      apply decide_eq_true
      apply List.ext_getElem?
      intro j
      by_cases e : j < k
      · exact HJ.out j e
      · rw [List.getElem?_eq_none (by have := HK.out; omega), List.getElem?_eq_none (by have := HE.out; have := HK.out; omega)]

/-- are numbers the same? -/
theorem Same_any (w : World) {b1 b2 : Nat} {v u : Value} {xs ys : List Int} (hx : RowAt w b1 v xs) (hy : RowAt w b2 u ys) :
    Calls Try.prog 24 #[v, u] w fun e w' => e = .returned (.bool (decide (xs = ys))) ∧ ∃ n, w' = w.drewN n := by
  by_cases h : ys.length = xs.length
  · exact Same_loop w hx hy h
  · have hd : decide (xs = ys) = false := decide_eq_false (fun e => h (by rw [e]))
    rw [hd]
    exact Same_len w hx hy (fun e => h e.symm)

end Go.Proofs.Ytacogelejffbhaa
