/- The contracts of the bench document's answer: a step of any kind, Put, Take. -/
import Derived.Test.YtacogelejffbhaaRefBench
namespace Go.Proofs.Ytacogelejffbhaa
open Go.RowKit

section
variable {w : World} {yb rb first things : Nat} {A : AR} {v : Value} {B : BK}
set_option maxRecDepth 100000 in
theorem rstep0 {x n got : Int} (h : RbAt w yb rb first things ⟨0, x, n, got⟩) : Calls Try.prog 21 #[.pointer (some ⟨yb, 0, none⟩)] w fun e w' => e = .returned (.bool false) ∧ w = w' := by
  have c3 := h.box.cell (i := 3) rfl
  clear h
  go_enter Try.func21, Try.ntmps21
  go_wp2
  go_ret
  exact ⟨rfl, rfl⟩
theorem rbStep_any (h : RbAt w yb rb first things B) (hA : RfAt w rb v A) (hne : yb ∉ (rb :: vb v)) : Calls Try.prog 21 #[.pointer (some ⟨yb, 0, none⟩)] w fun e w' => e = .returned (.bool (bStepR first A B)) ∧
    RbAt w' yb rb first things (bStepB first A B) ∧ RfAt w' rb v (bStepA first A B) ∧ Frm (yb :: rb :: vb v) w w' := by
  obtain ⟨st, x, n, got⟩ := B
  have hst := h.st
  simp only at hst
  unfold bStepR bStepB bStepA
  simp only
  rcases (show st = 0 ∨ st = 1 ∨ st = 2 ∨ st = 3 ∨ st = 4 ∨ st = 5 ∨ st = 6 ∨ st = 7 ∨ st = 8 by omega) with rfl | rfl | rfl | rfl | rfl | rfl | rfl | rfl | rfl
  · exact (rstep0 h).mono fun e w' ⟨h1, h2⟩ => by subst h2; exact ⟨by rw [h1]; exact ret_bool (by simp), by simpa using h, by simpa using hA, Frm.refl _ _⟩
  · exact (rstep1 h hA hne).mono fun e w' ⟨h1, h2, h3, h4⟩ => ⟨by rw [h1]; exact ret_bool (by simp), by simpa using h2, by simpa using h3, h4⟩
  · exact (rstep2 h hA hne).mono fun e w' ⟨h1, h2, h3, h4⟩ => ⟨by rw [h1]; exact ret_bool (by simp), by simpa using h2, by simpa using h3, h4⟩
  · by_cases hn : n = 0
    · exact (rstep3b h hA hne hn).mono fun e w' ⟨h1, h2, h3, h4⟩ => ⟨by rw [h1]; exact ret_bool (by simp), by simpa using h2, by simpa [hn] using h3, h4⟩
    · exact (rstep3a h hA hne hn).mono fun e w' ⟨h1, h2, h3, h4⟩ => ⟨by rw [h1]; exact ret_bool (by simp), by simpa using h2, by simpa [hn] using h3, h4⟩
  · exact (rstep4 h hA hne).mono fun e w' ⟨h1, h2, h3, h4⟩ => ⟨by rw [h1]; exact ret_bool (by simp), by simpa using h2, by simpa using h3, h4⟩
  · by_cases hg : A.get first = 0
    · exact (rstep5a h hA hne hg).mono fun e w' ⟨h1, h2, h3, h4⟩ => ⟨by rw [h1]; exact ret_bool (by simp [hg]), by simpa [hg] using h2, by simpa using h3, h4⟩
    · exact (rstep5b h hA hne hg).mono fun e w' ⟨h1, h2, h3, h4⟩ => ⟨by rw [h1]; exact ret_bool (by simp [hg]), by simpa [hg] using h2, by simpa using h3, h4⟩
  · exact (rstep6 h hA hne).mono fun e w' ⟨h1, h2, h3, h4⟩ => ⟨by rw [h1]; exact ret_bool (by simp), by simpa using h2, by simpa using h3, h4⟩
  · by_cases hn : n = 0
    · exact (rstep7b h hA hne hn).mono fun e w' ⟨h1, h2, h3, h4⟩ => ⟨by rw [h1]; exact ret_bool (by simp [hn]), by simpa [hn] using h2, by simpa using h3, h4⟩
    · exact (rstep7a h hA hne hn).mono fun e w' ⟨h1, h2, h3, h4⟩ => ⟨by rw [h1]; exact ret_bool (by simp [hn]), by simpa [hn] using h2, by simpa using h3, h4⟩
  · exact (rstep8 h hA hne).mono fun e w' ⟨h1, h2, h3, h4⟩ => ⟨by rw [h1]; exact ret_bool (by simp), by simpa using h2, by simpa using h3, h4⟩
theorem rbPut_any (h : RbAt w yb rb first things B) (x : Int) : Calls Try.prog 22 #[.pointer (some ⟨yb, 0, none⟩), .int .i64 x] w fun e w' => e = .returned (.bool (bPutOk things B x)) ∧ RbAt w' yb rb first things (bPutB things B x) ∧ Frm [yb] w w' := by
  obtain ⟨st, z, n, got⟩ := B
  have H := Lib.hid h
  have c2 := h.box.cell (i := 2) rfl
  have c3 := h.box.cell (i := 3) rfl
  have c4 := h.box.cell (i := 4) rfl
  have hz := h.box.frozen
  simp only at c3
  unfold bPutB bPutOk
  simp only
  by_cases h0 : st = 0
  · by_cases h1 : x < 1
    · have hno : ¬ (st = 0 ∧ 1 ≤ x ∧ x ≤ (things : Int)) := by omega
      rw [decide_eq_false hno]
      have d0 : (st != 0) = false := by simpa using h0
      have d1 : decide (x < 1) = true := by simpa using h1
      clear hno h h0 h1
      go_enter Try.func22, Try.ntmps22
      go_wp2
      go_ret
      exact ⟨rfl, H.out, Frm.refl _ _⟩
    · by_cases h2 : (things : Int) < x
      · have hno : ¬ (st = 0 ∧ 1 ≤ x ∧ x ≤ (things : Int)) := by omega
        rw [decide_eq_false hno]
        have d0 : (st != 0) = false := by simpa using h0
        have d1 : decide (x < 1) = false := by simpa using h1
        have d2 : decide ((things : Int) < x) = true := by simpa using h2
        clear hno h h0 h1 h2
        go_enter Try.func22, Try.ntmps22
        go_wp2
        go_ret
        exact ⟨rfl, H.out, Frm.refl _ _⟩
      · have hyes : st = 0 ∧ 1 ≤ x ∧ x ≤ (things : Int) := by omega
        rw [decide_eq_true hyes]
        have d0 : (st != 0) = false := by simpa using h0
        have d1 : decide (x < 1) = false := by simpa using h1
        have d2 : decide ((things : Int) < x) = false := by simpa using h2
        have hk := h.set3 1 (by omega)
        have k4 := hk.box.cell (i := 4) rfl
        have kz := hk.box.frozen
        have HP := Lib.hid (hk.set4 x)
        clear hyes h h0 h1 h2 hk
        go_enter Try.func22, Try.ntmps22
        go_wp2
        go_ret
        exact ⟨rfl, HP.out, ((Frm.refl [yb] w).set ⟨yb, 3, none⟩ _ (.inl (by simp))).set ⟨yb, 4, none⟩ _ (.inl (by simp))⟩
  · have hno : ¬ (st = 0 ∧ 1 ≤ x ∧ x ≤ (things : Int)) := by omega
    rw [decide_eq_false hno]
    have d0 : (st != 0) = true := by simpa using h0
    clear hno h h0
    go_enter Try.func22, Try.ntmps22
    go_wp2
    go_ret
    exact ⟨rfl, H.out, Frm.refl _ _⟩
/-- the document's Take leaves x as it was -/
def rbTakeB (B : BK) : BK := if bTakeOk B then ⟨5, B.x, B.n, B.got⟩ else B
theorem rbTake_any (h : RbAt w yb rb first things B) : Calls Try.prog 23 #[.pointer (some ⟨yb, 0, none⟩)] w fun e w' => e = .returned (.bool (bTakeOk B)) ∧ RbAt w' yb rb first things (rbTakeB B) ∧ Frm [yb] w w' := by
  obtain ⟨st, z, n, got⟩ := B
  have H := Lib.hid h
  have c3 := h.box.cell (i := 3) rfl
  have hz := h.box.frozen
  simp only at c3
  unfold rbTakeB bTakeOk
  simp only
  by_cases h0 : st = 0
  · rw [decide_eq_true h0]
    have d0 : (st != 0) = false := by simpa using h0
    have HP := Lib.hid (h.set3 5 (by omega))
    clear h h0
    go_enter Try.func23, Try.ntmps23
    go_wp2
    go_ret
    exact ⟨rfl, HP.out, (Frm.refl [yb] w).set ⟨yb, 3, none⟩ _ (.inl (by simp))⟩
  · rw [decide_eq_false h0]
    have d0 : (st != 0) = true := by simpa using h0
    clear h h0
    go_enter Try.func23, Try.ntmps23
    go_wp2
    go_ret
    exact ⟨rfl, H.out, Frm.refl _ _⟩
end
end Go.Proofs.Ytacogelejffbhaa
