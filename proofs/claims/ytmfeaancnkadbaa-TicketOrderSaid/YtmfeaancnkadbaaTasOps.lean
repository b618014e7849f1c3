/- The contracts of tas: Ask, Leave, Step. -/
import Derived.Test.YtmfeaancnkadbaaTas
namespace Go.Proofs.Ytmfeaancnkadbaa
open Go.RowKit

def tAskOk (n : Nat) (S : Nat → Nat → Int) (i : Int) : Bool := sHas n i && decide (S i.toNat 0 = 0)
def tAsk (n : Nat) (S : Nat → Nat → Int) (i : Int) : Nat → Nat → Int := if tAskOk n S i then spPut (spPut S i.toNat 0 1) i.toNat 1 1 else S
def tLeaveOk (n : Nat) (S : Nat → Nat → Int) (i : Int) : Bool := sHas n i && decide (S i.toNat 0 = 10)
def tLeave (n : Nat) (S : Nat → Nat → Int) (i : Int) : Nat → Nat → Int := if tLeaveOk n S i then spPut S i.toNat 0 11 else S
/-- the wait when it has become longer -/
def tLonger (most a : Int) : Int := if wrap64 (2 * a) ≤ most then wrap64 (2 * a) else most

section
variable {w : World} {lb ab wb sb word n : Nat} {most : Int} {S : Nat → Nat → Int} {A : AR}

theorem LkAt.pc (h : LkAt w lb ab sb word n most S) {j : Nat} (hj : j < n) (t : Nat) (ht : t < 4) : w.cell? ⟨sb, 4 * j + t, none⟩ = some (.int .i64 (S j t)) := h.row.cell (spC_get n S hj ht)
theorem LkAt.pc0 (h : LkAt w lb ab sb word n most S) {j : Nat} (hj : j < n) : w.cell? ⟨sb, 4 * j, none⟩ = some (.int .i64 (S j 0)) := h.row.cell (spC_get n S (t := 0) hj (by omega))
theorem LkAt.put0 (h : LkAt w lb ab sb word n most S) (i : Nat) (v : Int) : LkAt (w.setCell ⟨sb, 4 * i, none⟩ (.int .i64 v)) lb ab sb word n most (spPut S i 0 v) := h.put i (t := 0) (by omega) v

theorem lAsk_any (h : LkAt w lb ab sb word n most S) (i : Int) : Calls Try.prog 10 #[.pointer (some ⟨lb, 0, none⟩), .int .i64 i] w fun e w' => e = .returned (.bool (tAskOk n S i)) ∧ LkAt w' lb ab sb word n most (tAsk n S i) ∧ Frm [sb] w w' := by
  have H := Lib.hid h
  cases hi : sHas n i with
  | false =>
    have hr : tAskOk n S i = false := by unfold tAskOk; rw [hi]; rfl
    have hr2 : tAsk n S i = S := by unfold tAsk; rw [hr]; rfl
    rw [hr, hr2]
    have HS := Lib.hid (lspot_no h hi)
    clear h hr hr2 hi
    go_enter Try.func10, Try.ntmps10
    go_wp2_with fail
    refine HS.out.mono ?_
    rintro e w' ⟨rfl, rfl⟩
    go_wp2
    go_ret
    exact ⟨rfl, H.out, Frm.refl _ _⟩
  | true =>
    have hi' : 0 ≤ i ∧ i < (n : Int) := by unfold sHas at hi; simpa using hi
    obtain ⟨j, rfl⟩ := Int.eq_ofNat_of_zero_le hi'.1
    have hj : j < n := by omega
    have HS := Lib.hid (lspot_yes h hj)
    have c0 := h.pc0 hj
    have c1 := h.pc hj 1 (by omega)
    have hfz := h.row.frozen
    cases hq : decide (S j 0 = 0) with
    | false =>
      have hr : tAskOk n S j = false := by unfold tAskOk; rw [hi]; simpa using hq
      have hr2 : tAsk n S j = S := by unfold tAsk; rw [hr]; rfl
      rw [hr, hr2]
      have d1 : (S j 0 != 0) = true := by simpa using hq
      generalize S j 0 = pc at *
      clear h hr hr2 hi hi' hq c1 hfz
      go_enter Try.func10, Try.ntmps10
      go_wp2_with fail
      refine HS.out.mono ?_
      rintro e w' ⟨rfl, rfl⟩
      go_wp2
      go_ret
      exact ⟨rfl, H.out, Frm.refl _ _⟩
    | true =>
      have hr : tAskOk n S j = true := by unfold tAskOk; rw [hi]; simpa using hq
      have hr2 : tAsk n S j = spPut (spPut S j 0 1) j 1 1 := by unfold tAsk; rw [hr]; rfl
      rw [hr, hr2]
      have d1 : (S j 0 != 0) = false := by simpa using hq
      have HP := Lib.hid ((h.put0 j 1).put j (t := 1) (by omega) 1)
      generalize S j 0 = pc at *
      generalize S j 1 = a at *
      clear h hr hr2 hi hi' hq
      go_enter Try.func10, Try.ntmps10
      go_wp2_with fail
      refine HS.out.mono ?_
      rintro e w' ⟨rfl, rfl⟩
      go_wp2
      go_ret
      exact ⟨rfl, HP.out, ((Frm.refl [sb] w).set ⟨sb, 4 * j, none⟩ _ (.inl (by simp))).set ⟨sb, 4 * j + 1, none⟩ _ (.inl (by simp))⟩

theorem lLeave_any (h : LkAt w lb ab sb word n most S) (i : Int) : Calls Try.prog 12 #[.pointer (some ⟨lb, 0, none⟩), .int .i64 i] w fun e w' => e = .returned (.bool (tLeaveOk n S i)) ∧ LkAt w' lb ab sb word n most (tLeave n S i) ∧ Frm [sb] w w' := by
  have H := Lib.hid h
  cases hi : sHas n i with
  | false =>
    have hr : tLeaveOk n S i = false := by unfold tLeaveOk; rw [hi]; rfl
    have hr2 : tLeave n S i = S := by unfold tLeave; rw [hr]; rfl
    rw [hr, hr2]
    have HS := Lib.hid (lspot_no h hi)
    clear h hr hr2 hi
    go_enter Try.func12, Try.ntmps12
    go_wp2_with fail
    refine HS.out.mono ?_
    rintro e w' ⟨rfl, rfl⟩
    go_wp2
    go_ret
    exact ⟨rfl, H.out, Frm.refl _ _⟩
  | true =>
    have hi' : 0 ≤ i ∧ i < (n : Int) := by unfold sHas at hi; simpa using hi
    obtain ⟨j, rfl⟩ := Int.eq_ofNat_of_zero_le hi'.1
    have hj : j < n := by omega
    have HS := Lib.hid (lspot_yes h hj)
    have c0 := h.pc0 hj
    have hfz := h.row.frozen
    cases hq : decide (S j 0 = 10) with
    | false =>
      have hr : tLeaveOk n S j = false := by unfold tLeaveOk; rw [hi]; simpa using hq
      have hr2 : tLeave n S j = S := by unfold tLeave; rw [hr]; rfl
      rw [hr, hr2]
      have d1 : (S j 0 != 10) = true := by simpa using hq
      generalize S j 0 = pc at *
      clear h hr hr2 hi hi' hq hfz
      go_enter Try.func12, Try.ntmps12
      go_wp2_with fail
      refine HS.out.mono ?_
      rintro e w' ⟨rfl, rfl⟩
      go_wp2
      go_ret
      exact ⟨rfl, H.out, Frm.refl _ _⟩
    | true =>
      have hr : tLeaveOk n S j = true := by unfold tLeaveOk; rw [hi]; simpa using hq
      have hr2 : tLeave n S j = spPut S j 0 11 := by unfold tLeave; rw [hr]; rfl
      rw [hr, hr2]
      have d1 : (S j 0 != 10) = false := by simpa using hq
      have HP := Lib.hid (h.put0 j 11)
      generalize S j 0 = pc at *
      clear h hr hr2 hi hi' hq
      go_enter Try.func12, Try.ntmps12
      go_wp2_with fail
      refine HS.out.mono ?_
      rintro e w' ⟨rfl, rfl⟩
      go_wp2
      go_ret
      exact ⟨rfl, HP.out, (Frm.refl [sb] w).set ⟨sb, 4 * j, none⟩ _ (.inl (by simp))⟩

/-- a step at rest or while it holds: nothing -/
theorem lStep_idle (h : LkAt w lb ab sb word n most S) (i : Int) (hq : sHas n i = false ∨ (S i.toNat 0 ≠ 1 ∧ S i.toNat 0 ≠ 2 ∧ S i.toNat 0 ≠ 11)) : Calls Try.prog 11 #[.pointer (some ⟨lb, 0, none⟩), .int .i64 i] w fun e w' => e = .returned (.bool false) ∧ w = w' := by
  cases hi : sHas n i with
  | false =>
    have HS := Lib.hid (lspot_no h hi)
    clear h hq hi
    go_enter Try.func11, Try.ntmps11
    go_wp2_with fail
    refine HS.out.mono ?_
    rintro e w' ⟨rfl, rfl⟩
    go_wp2
    go_ret
    exact ⟨rfl, rfl⟩
  | true =>
    have hi' : 0 ≤ i ∧ i < (n : Int) := by unfold sHas at hi; simpa using hi
    obtain ⟨j, rfl⟩ := Int.eq_ofNat_of_zero_le hi'.1
    have hj : j < n := by omega
    have HS := Lib.hid (lspot_yes h hj)
    have c0 := h.pc0 hj
    rw [hi] at hq
    rw [show ((j : Int).toNat) = j from by omega] at hq
    obtain ⟨q1, q2, q3⟩ := hq.resolve_left (by simp)
    generalize S j 0 = pc at *
    have d1 : (pc == 1) = false := by simpa using q1
    have d2 : (pc == 2) = false := by simpa using q2
    have d3 : (pc == 11) = false := by simpa using q3
    clear h hq hi hi' q1 q2 q3
    go_enter Try.func11, Try.ntmps11
    go_wp2_with fail
    refine HS.out.mono ?_
    rintro e w' ⟨rfl, rfl⟩
    go_wp2
    go_ret
    exact ⟨rfl, rfl⟩

theorem lStep_wait (h : LkAt w lb ab sb word n most S) {j : Nat} (hj : j < n) (hq : S j 0 = 2) : Calls Try.prog 11 #[.pointer (some ⟨lb, 0, none⟩), .int .i64 j] w fun e w' => e = .returned (.bool false) ∧
    LkAt w' lb ab sb word n most (if wrap64 (S j 2 - 1) = 0 then spPut (spPut S j 2 (wrap64 (S j 2 - 1))) j 0 1 else spPut S j 2 (wrap64 (S j 2 - 1))) ∧ Frm [sb] w w' := by
  have HS := Lib.hid (lspot_yes h hj)
  have c0 := h.pc0 hj
  rw [hq] at c0
  have c2 := h.pc hj 2 (by omega)
  have hfz := h.row.frozen
  have hP := h.put j (t := 2) (by omega) (wrap64 (S j 2 - 1))
  have hP0 := hP.put0 j 1
  have k0 := hP.pc0 hj
  have k2 := hP.pc hj 2 (by omega)
  have hfz2 := hP.row.frozen
  have e0 : spPut S j 2 (wrap64 (S j 2 - 1)) j 0 = 2 := by unfold spPut; simpa using hq
  have e2 : spPut S j 2 (wrap64 (S j 2 - 1)) j 2 = wrap64 (S j 2 - 1) := by unfold spPut; simp
  rw [e0] at k0
  rw [e2] at k2
  have HP := Lib.hid hP
  have HP0 := Lib.hid hP0
  have HQ := Lib.hid hq
  have hf : Frm [sb] w (w.setCell ⟨sb, 4 * j + 2, none⟩ (.int .i64 (wrap64 (S j 2 - 1)))) := (Frm.refl [sb] w).set ⟨sb, 4 * j + 2, none⟩ _ (.inl (by simp))
  have HF := Lib.hid hf
  clear h hq hP hP0 e0 e2 hf
  by_cases hz : wrap64 (S j 2 - 1) = 0
  · rw [if_pos hz]
    have d1 : (wrap64 (S j 2 - 1) == 0) = true := by simpa using hz
    clear hz
    generalize S j 2 = b at *
    go_enter Try.func11, Try.ntmps11
    go_wp2_with fail
    refine HS.out.mono ?_
    rintro e w' ⟨rfl, rfl⟩
    go_wp2
    go_ret
    exact ⟨rfl, HP0.out, HF.out.set ⟨sb, 4 * j, none⟩ _ (.inl (by simp))⟩
  · rw [if_neg hz]
    have d1 : (wrap64 (S j 2 - 1) == 0) = false := by simpa using hz
    clear hz
    generalize S j 2 = b at *
    go_enter Try.func11, Try.ntmps11
    go_wp2_with fail
    refine HS.out.mono ?_
    rintro e w' ⟨rfl, rfl⟩
    go_wp2
    go_ret
    exact ⟨rfl, HP.out, HF.out⟩
end

end Go.Proofs.Ytmfeaancnkadbaa
