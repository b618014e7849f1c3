/- The contract of the reference's Has: whether a number is among others. -/
import Derived.Lib.Hide
import Derived.WalkSpells
import Derived.BigQuiet
import Derived.Test.YteijjhahgabalaaGreatQ07
import Derived.Test.YteijjhahgabalaaGreatQ02
namespace Go.Proofs.YteijjhahgabalaaGreat
open Go.RowKit

theorem Has_any (w : World) {b1 : Nat} {v : Value} {xs : List Int} (hx : RowAt w b1 v xs) (n : Int) :
    Calls Tryz.prog 48 #[v, .int .i64 n] w fun e w' => e = .returned (.bool (decide (n ∈ xs))) ∧ w = w' := by
  obtain ⟨a, cap, rfl, h1, hcx⟩ := hx
  unfold maxLen at h1
  have HX := Lib.hid hcx
  clear hcx
  generalize hq : decide (n ∈ xs) = q
  have HQ := Lib.hid hq
  clear hq
  go_enter Tryz.func48, Tryz.ntmps48
  go_wp2_with fail
  go_loopw [5] (fun i wr => ∃ k : Nat, i = .int .i64 k ∧ k ≤ xs.length ∧ (∀ j, j < k → xs[j]? ≠ some n) ∧ w = wr) (fun i _ => xs.length - (intOf i).toNat)
  case atStart => exact ⟨0, rfl, Nat.zero_le _, fun j hj => absurd hj (Nat.not_lt_zero _), rfl⟩
  case round =>
    obtain ⟨k, rfl, hk, hj, rfl⟩ := hrel
    have HJ := Lib.hid hj
    clear hj
    by_cases hlt : k < xs.length
    · obtain ⟨b, off, _, rfl, hc⟩ := HX.out (by omega)
      have c1 : w.cell? ⟨b, off + k, none⟩ = some (.int .i64 (xs[k]?.getD 0)) := hc k hlt
      have l1 : (k : Int) < xs.length := by omega
      have ex : xs[k]? = some (xs[k]?.getD 0) := by simp [hlt]
      have EX := Lib.hid ex
      clear hc ex
      generalize xs[k]?.getD 0 = x at *
      by_cases hxy : x = n
      · have d1 : (x == n) = true := by simpa using hxy
        have HXY := Lib.hid hxy
        clear hxy
        go_wp2
        go_ret
        refine ⟨ret_bool ?_, rfl⟩
        rw [← HQ.out]
        symm
        apply decide_eq_true
        have := EX.out
        rw [HXY.out] at this
        exact List.mem_of_getElem? this
      · have d1 : (x == n) = false := by simpa using hxy
        have HXY := Lib.hid hxy
        clear hxy
        go_wp2
        go_roundw
        case rel =>
          refine ⟨k + 1, by go_num, by omega, fun j hj => ?_, by trivial⟩
          by_cases e : j = k
          · rw [e, EX.out]; intro h; exact HXY.out (by simpa using h)
          · exact HJ.out j (by omega)
        case measure => simp [intOf]; omega
    · have hke : k = xs.length := by omega
      have HK := Lib.hid hke
      clear hke
      go_wp2
      go_ret
      refine ⟨ret_bool ?_, rfl⟩
      rw [← HQ.out]
      symm
      apply decide_eq_false
      intro h
      obtain ⟨j, hj⟩ := List.getElem?_of_mem h
      have hlt2 : j < xs.length := (List.getElem?_eq_some_iff.1 hj).1
      exact HJ.out j (by have := HK.out; omega) hj

end Go.Proofs.YteijjhahgabalaaGreat

/- Topologies: what may be, and the contracts of the document's answer. -/
namespace Go.Proofs.YteijjhahgabalaaGreat
open Go.RowKit

/-- a place without others below it -/
def tLeaf (P : List Int) (v : Int) : Bool := decide (0 ≤ v) && decide (v < P.length) && !decide (v ∈ P)
/-- how many places there are up to the root, at most k -/
def tDeep (P : List Int) : Nat → Int → Nat
  | 0, _ => 0
  | k + 1, v => if 0 ≤ v ∧ v < P.length then 1 + tDeep P k (P[v.toNat]?.getD 0) else 0
def tSize (P T : List Int) : Prop := 1 ≤ P.length ∧ P.length ≤ 32 ∧ 1 ≤ T.length ∧ T.length ≤ 32
def tTree (P : List Int) : Prop := P[0]?.getD 0 = -1 ∧ ∀ v : Nat, 1 ≤ v → v < P.length → 0 ≤ P[v]?.getD 0 ∧ P[v]?.getD 0 < v
def tEven (P : List Int) : Prop := ∀ v w : Nat, v < P.length → w < P.length → tLeaf P v = true → tLeaf P w = true → tDeep P P.length v = tDeep P P.length w ∧ tDeep P P.length v ≤ 5
/-- may the topology be? -/
structure TOk (P T : List Int) : Prop where
  size : tSize P T
  tree : tTree P
  even : tEven P
  ends : ∀ t ∈ T, tLeaf P t = true
theorem tDeep_le (P : List Int) : ∀ (k : Nat) (v : Int), tDeep P k v ≤ k
  | 0, _ => Nat.le_refl _
  | k + 1, v => by
    unfold tDeep
    split
    · have := tDeep_le P k (P[v.toNat]?.getD 0); omega
    · omega

theorem leaf_any (w : World) {b1 : Nat} {v : Value} {P : List Int} (hx : RowAt w b1 v P) (i : Int) :
    Calls Tryz.prog 29 #[v, .int .i64 i] w fun e w' => e = .returned (.bool (tLeaf P i)) ∧ w = w' := by
  have HH := Lib.hid (Has_any w hx i)
  obtain ⟨a, cap, rfl, h1, hcx⟩ := hx
  unfold maxLen at h1
  clear hcx
  by_cases h0 : 0 ≤ i
  · by_cases h2 : i < P.length
    · have e : tLeaf P i = !decide (i ∈ P) := by unfold tLeaf; simp [h0, h2]
      rw [e]
      have d1 : decide (0 ≤ i) = true := by simpa using h0
      have d2 : decide (i < (P.length : Int)) = true := by simpa using h2
      clear e
      generalize decide (i ∈ P) = q at *
      go_enter Tryz.func29, Tryz.ntmps29
      go_wp2_with fail
      refine HH.out.mono ?_
      rintro e w' ⟨rfl, rfl⟩
      go_wp2
      go_ret
      exact ⟨rfl, rfl⟩
    · have e : tLeaf P i = false := by unfold tLeaf; simp [h2]
      rw [e]
      have d1 : decide (0 ≤ i) = true := by simpa using h0
      have d2 : decide (i < (P.length : Int)) = false := by simpa using h2
      clear e
      go_enter Tryz.func29, Tryz.ntmps29
      go_wp2
      go_ret
      exact ⟨rfl, rfl⟩
  · have e : tLeaf P i = false := by unfold tLeaf; simp [h0]
    rw [e]
    have d1 : decide (0 ≤ i) = false := by simpa using h0
    clear e
    go_enter Tryz.func29, Tryz.ntmps29
    go_wp2
    go_ret
    exact ⟨rfl, rfl⟩

theorem deep_any (w : World) {b1 : Nat} {v : Value} {P : List Int} (hx : RowAt w b1 v P) (hs : P.length ≤ 100) (i : Int) :
    Calls Tryz.prog 40 #[v, .int .i64 i] w fun e w' => e = .returned (.int .i64 (tDeep P P.length i)) ∧ w = w' := by
  obtain ⟨a, cap, rfl, h1, hcx⟩ := hx
  have HX := Lib.hid hcx
  clear hcx h1
  generalize hD : tDeep P P.length i = D
  have HD := Lib.hid hD
  clear hD
  go_enter Tryz.func40, Tryz.ntmps40
  go_wp2_with fail
  go_loopw [5, 6, 1] (fun nv kv iv wx => ∃ (k m : Nat) (x : Int), nv = .int .i64 m ∧ kv = .int .i64 k ∧ iv = .int .i64 x ∧ k ≤ P.length ∧ m ≤ k ∧ m + tDeep P (P.length - k) x = D ∧ w = wx) (fun _ kv _ _ => P.length - (intOf kv).toNat)
  case atStart => exact ⟨0, 0, i, rfl, rfl, rfl, by omega, by omega, by have := HD.out; simpa using this, rfl⟩
  case round =>
    obtain ⟨k, m, x, rfl, rfl, rfl, hk, hm, hd, rfl⟩ := hrel
    have HE := Lib.hid hd
    clear hd
    by_cases hlt : k < P.length
    · have d0 : decide ((k : Int) < P.length) = true := by simpa using hlt
      by_cases h0 : 0 ≤ x
      · have d1 : decide (0 ≤ x) = true := by simpa using h0
        by_cases h2 : x < P.length
        · have d2 : decide (x < (P.length : Int)) = true := by simpa using h2
          obtain ⟨j, rfl⟩ : ∃ j : Nat, x = j := ⟨x.toNat, by omega⟩
          have hj : j < P.length := by omega
          obtain ⟨b, off, _, rfl, hc⟩ := HX.out (by omega)
          have c1 := hc j hj
          have l1 : (j : Int) < P.length := h2
          have e1 : m + 1 + tDeep P (P.length - (k + 1)) (P[j]?.getD 0) = D := by
            have h3 := HE.out
            rw [show P.length - k = (P.length - (k + 1)) + 1 by omega] at h3
            unfold tDeep at h3
            rw [if_pos ⟨h0, h2⟩] at h3
            simp only [Int.toNat_natCast] at h3
            omega
          have HE2 := Lib.hid e1
          clear hc e1
          generalize P[j]?.getD 0 = y at *
          go_wp2_with fail
          go_roundw
          case rel => exact ⟨k + 1, m + 1, y, by go_num, by go_num, rfl, by omega, by omega, HE2.out, by trivial⟩
          case measure => simp [intOf]; omega
        · have d2 : decide (x < (P.length : Int)) = false := by simpa using h2
          have e1 : m = D := by
            have h3 := HE.out
            rw [show P.length - k = (P.length - (k + 1)) + 1 by omega] at h3
            unfold tDeep at h3
            rw [if_neg (by omega)] at h3
            omega
          have HM := Lib.hid e1
          clear e1
          go_wp2
          go_ret
          exact ⟨ret_int (by rw [HM.out]), rfl⟩
      · have d1 : decide (0 ≤ x) = false := by simpa using h0
        have e1 : m = D := by
          have h3 := HE.out
          rw [show P.length - k = (P.length - (k + 1)) + 1 by omega] at h3
          unfold tDeep at h3
          rw [if_neg (by omega)] at h3
          omega
        have HM := Lib.hid e1
        clear e1
        go_wp2
        go_ret
        exact ⟨ret_int (by rw [HM.out]), rfl⟩
    · have d0 : decide ((k : Int) < P.length) = false := by simpa using hlt
      have e1 : m = D := by
        have h3 := HE.out
        rw [show P.length - k = 0 by omega] at h3
        exact h3
      have HM := Lib.hid e1
      clear e1
      go_wp2
      go_ret
      exact ⟨ret_int (by rw [HM.out]), rfl⟩
end Go.Proofs.YteijjhahgabalaaGreat
