/- The contracts of package bench: a step of any kind, Put, Take, New; and of a bench that is none. -/
import Derived.Test.YtacogelejffbhaaBench
namespace Go.Proofs.Ytacogelejffbhaa
open Go.RowKit

def bStepR (first : Nat) (A : AR) (B : BK) : Bool := decide (B.step = 4) || decide (B.step = 8) || (decide (B.step = 5) && decide (A.get first = 0)) || (decide (B.step = 7) && decide (¬ B.n = 0))
def bStepB (first : Nat) (A : AR) (B : BK) : BK :=
  if B.step = 1 then ⟨2, B.x, B.n, B.got⟩ else if B.step = 2 then ⟨3, B.x, A.get (first + 1), B.got⟩ else if B.step = 3 then ⟨4, B.x, B.n, B.got⟩ else if B.step = 4 then ⟨0, B.x, B.n, B.got⟩
  else if B.step = 5 then (if A.get first = 0 then ⟨0, 0, B.n, 0⟩ else ⟨6, A.get first, B.n, B.got⟩) else if B.step = 6 then ⟨7, B.x, A.get (bLink first B.x), B.got⟩
  else if B.step = 7 then (if B.n = 0 then ⟨8, B.x, B.n, B.got⟩ else ⟨0, B.x, B.n, B.x⟩) else if B.step = 8 then ⟨0, B.x, B.n, B.x⟩ else B
def bStepA (first : Nat) (A : AR) (B : BK) : AR :=
  if B.step = 1 then A.store (bLink first B.x) 0 else if B.step = 2 then A.load (first + 1) else if B.step = 3 then (if B.n = 0 then A.store first B.x else A.store (bLink first B.n) B.x) else if B.step = 4 then A.store (first + 1) B.x
  else if B.step = 5 then A.load first else if B.step = 6 then A.load (bLink first B.x) else if B.step = 7 then A.store first B.n else if B.step = 8 then A.store (first + 1) 0 else A

section
variable {w : World} {bb ab wb first things : Nat} {A A' : AR} {B B' : BK} {R : Bool}
theorem step_put (h : BnAt w bb ab first things B) (hs : B.step = 1 ∨ B.step = 2 ∨ B.step = 3 ∨ B.step = 4)
    (hp : Calls Try.prog 37 #[.pointer (some ⟨bb, 0, none⟩)] w fun e w' => e = .returned (.bool R) ∧ BnAt w' bb ab first things B' ∧ ArAt w' ab wb A' ∧ Frm [bb, ab, wb] w w') :
    Calls Try.prog 17 #[.pointer (some ⟨bb, 0, none⟩)] w fun e w' => e = .returned (.bool R) ∧ BnAt w' bb ab first things B' ∧ ArAt w' ab wb A' ∧ Frm [bb, ab, wb] w w' := by
  have c3 := h.box.cell (i := 3) rfl
  have HB := Lib.hid (Busy_any h)
  have HP := Lib.hid hp
  clear h hp
  obtain ⟨st, x, n, got⟩ := B
  simp only at hs c3 HB
  rcases hs with rfl | rfl | rfl | rfl
  all_goals
    go_enter Try.func17, Try.ntmps17
    go_wp2_with fail
    refine HB.out.mono ?_
    rintro e w' ⟨rfl, rfl⟩
    go_wp2_with fail
    refine HP.out.mono ?_
    rintro e w' ⟨rfl, hB, hA, hF⟩
    have HR := Lib.hid (And.intro hB (And.intro hA hF))
    clear hB hA hF
    go_wp2
    go_ret
    exact ⟨rfl, HR.out.1, HR.out.2.1, HR.out.2.2⟩
theorem step_take (h : BnAt w bb ab first things B) (hs : B.step = 5 ∨ B.step = 6 ∨ B.step = 7 ∨ B.step = 8)
    (hp : Calls Try.prog 38 #[.pointer (some ⟨bb, 0, none⟩)] w fun e w' => e = .returned (.bool R) ∧ BnAt w' bb ab first things B' ∧ ArAt w' ab wb A' ∧ Frm [bb, ab, wb] w w') :
    Calls Try.prog 17 #[.pointer (some ⟨bb, 0, none⟩)] w fun e w' => e = .returned (.bool R) ∧ BnAt w' bb ab first things B' ∧ ArAt w' ab wb A' ∧ Frm [bb, ab, wb] w w' := by
  have c3 := h.box.cell (i := 3) rfl
  have HB := Lib.hid (Busy_any h)
  have HP := Lib.hid hp
  clear h hp
  obtain ⟨st, x, n, got⟩ := B
  simp only at hs c3 HB
  rcases hs with rfl | rfl | rfl | rfl
  all_goals
    go_enter Try.func17, Try.ntmps17
    go_wp2_with fail
    refine HB.out.mono ?_
    rintro e w' ⟨rfl, rfl⟩
    go_wp2_with fail
    refine HP.out.mono ?_
    rintro e w' ⟨rfl, hB, hA, hF⟩
    have HR := Lib.hid (And.intro hB (And.intro hA hF))
    clear hB hA hF
    go_wp2
    go_ret
    exact ⟨rfl, HR.out.1, HR.out.2.1, HR.out.2.2⟩
theorem step_idle {bb : Nat} {w : World} (c3 : w.cell? ⟨bb, 3, none⟩ = some (.int .i64 0)) : Calls Try.prog 17 #[.pointer (some ⟨bb, 0, none⟩)] w fun e w' => e = .returned (.bool false) ∧ w = w' := by
  have HB : Hid (Calls Try.prog 18 #[.pointer (some ⟨bb, 0, none⟩)] w fun e w' => e = .returned (.bool false) ∧ w = w') := Lib.hid (by
    go_enter Try.func18, Try.ntmps18
    go_wp2
    go_ret
    exact ⟨rfl, rfl⟩)
  clear c3
  go_enter Try.func17, Try.ntmps17
  go_wp2_with fail
  refine HB.out.mono ?_
  rintro e w' ⟨rfl, rfl⟩
  go_wp2
  go_ret
  exact ⟨rfl, rfl⟩
theorem bStep_any (h : BnAt w bb ab first things B) (hA : ArAt w ab wb A) (hne : bb ≠ ab ∧ bb ≠ wb) : Calls Try.prog 17 #[.pointer (some ⟨bb, 0, none⟩)] w fun e w' => e = .returned (.bool (bStepR first A B)) ∧
    BnAt w' bb ab first things (bStepB first A B) ∧ ArAt w' ab wb (bStepA first A B) ∧ Frm [bb, ab, wb] w w' := by
  obtain ⟨st, x, n, got⟩ := B
  have hst := h.st
  simp only at hst
  unfold bStepR bStepB bStepA
  simp only
  rcases (show st = 0 ∨ st = 1 ∨ st = 2 ∨ st = 3 ∨ st = 4 ∨ st = 5 ∨ st = 6 ∨ st = 7 ∨ st = 8 by omega) with rfl | rfl | rfl | rfl | rfl | rfl | rfl | rfl | rfl
  · exact (step_idle (h.box.cell (i := 3) rfl)).mono fun e w' ⟨h1, h2⟩ => by subst h2; exact ⟨by rw [h1]; exact ret_bool (by simp), by simpa using h, by simpa using hA, Frm.refl _ _⟩
  · exact (step_put h (.inl rfl) (bput1 h hA hne)).mono fun e w' ⟨h1, h2, h3, h4⟩ => ⟨by rw [h1]; exact ret_bool (by simp), by simpa using h2, by simpa using h3, h4⟩
  · exact (step_put h (.inr (.inl rfl)) (bput2 h hA hne)).mono fun e w' ⟨h1, h2, h3, h4⟩ => ⟨by rw [h1]; exact ret_bool (by simp), by simpa using h2, by simpa using h3, h4⟩
  · by_cases hn : n = 0
    · exact (step_put h (.inr (.inr (.inl rfl))) (bput3b h hA hne hn)).mono fun e w' ⟨h1, h2, h3, h4⟩ => ⟨by rw [h1]; exact ret_bool (by simp), by simpa using h2, by simpa [hn] using h3, h4⟩
    · exact (step_put h (.inr (.inr (.inl rfl))) (bput3a h hA hne hn)).mono fun e w' ⟨h1, h2, h3, h4⟩ => ⟨by rw [h1]; exact ret_bool (by simp), by simpa using h2, by simpa [hn] using h3, h4⟩
  · exact (step_put h (.inr (.inr (.inr rfl))) (bput4 h hA hne)).mono fun e w' ⟨h1, h2, h3, h4⟩ => ⟨by rw [h1]; exact ret_bool (by simp), by simpa using h2, by simpa using h3, h4⟩
  · by_cases hg : A.get first = 0
    · exact (step_take h (.inl rfl) (btake5a h hA hne hg)).mono fun e w' ⟨h1, h2, h3, h4⟩ => ⟨by rw [h1]; exact ret_bool (by simp [hg]), by simpa [hg] using h2, by simpa using h3, h4⟩
    · exact (step_take h (.inl rfl) (btake5b h hA hne hg)).mono fun e w' ⟨h1, h2, h3, h4⟩ => ⟨by rw [h1]; exact ret_bool (by simp [hg]), by simpa [hg] using h2, by simpa using h3, h4⟩
  · exact (step_take h (.inr (.inl rfl)) (btake6 h hA hne)).mono fun e w' ⟨h1, h2, h3, h4⟩ => ⟨by rw [h1]; exact ret_bool (by simp), by simpa using h2, by simpa using h3, h4⟩
  · by_cases hn : n = 0
    · exact (step_take h (.inr (.inr (.inl rfl))) (btake7b h hA hne hn)).mono fun e w' ⟨h1, h2, h3, h4⟩ => ⟨by rw [h1]; exact ret_bool (by simp [hn]), by simpa [hn] using h2, by simpa using h3, h4⟩
    · exact (step_take h (.inr (.inr (.inl rfl))) (btake7a h hA hne hn)).mono fun e w' ⟨h1, h2, h3, h4⟩ => ⟨by rw [h1]; exact ret_bool (by simp [hn]), by simpa [hn] using h2, by simpa using h3, h4⟩
  · exact (step_take h (.inr (.inr (.inr rfl))) (btake8 h hA hne)).mono fun e w' ⟨h1, h2, h3, h4⟩ => ⟨by rw [h1]; exact ret_bool (by simp), by simpa using h2, by simpa using h3, h4⟩

/-- begin refuses -/
theorem begin_no {bb things : Nat} {w : World} {st y x : Int} (c2 : w.cell? ⟨bb, 2, none⟩ = some (.int .i64 things)) (c3 : w.cell? ⟨bb, 3, none⟩ = some (.int .i64 st)) (hno : ¬ (st = 0 ∧ 1 ≤ x ∧ x ≤ things)) :
    Calls Try.prog 36 #[.pointer (some ⟨bb, 0, none⟩), .int .i64 y, .int .i64 x] w fun e w' => e = .returned (.bool false) ∧ w = w' := by
  have HB : Hid (Calls Try.prog 18 #[.pointer (some ⟨bb, 0, none⟩)] w fun e w' => e = .returned (.bool (st != 0)) ∧ w = w') := Lib.hid (by
    clear hno
    go_enter Try.func18, Try.ntmps18
    go_wp2
    go_ret
    exact ⟨rfl, rfl⟩)
  by_cases h0 : st = 0
  · have e0 : (st != 0) = false := by simp [h0]
    by_cases h1 : x < 1
    · have d1 : decide (x < 1) = true := by simpa using h1
      rw [e0] at HB
      clear hno c3 h0 e0
      go_enter Try.func36, Try.ntmps36
      go_wp2_with fail
      refine HB.out.mono ?_
      rintro e w' ⟨rfl, rfl⟩
      go_wp2
      go_ret
      exact ⟨rfl, rfl⟩
    · have d1 : decide (x < 1) = false := by simpa using h1
      have d2 : decide ((things : Int) < x) = true := by simp; omega
      rw [e0] at HB
      clear hno c3 h0 e0
      go_enter Try.func36, Try.ntmps36
      go_wp2_with fail
      refine HB.out.mono ?_
      rintro e w' ⟨rfl, rfl⟩
      go_wp2
      go_ret
      exact ⟨rfl, rfl⟩
  · have e0 : (st != 0) = true := by simpa using h0
    rw [e0] at HB
    clear hno c3 h0 e0
    go_enter Try.func36, Try.ntmps36
    go_wp2_with fail
    refine HB.out.mono ?_
    rintro e w' ⟨rfl, rfl⟩
    go_wp2
    go_ret
    exact ⟨rfl, rfl⟩
theorem begin_yes {x n got y z : Int} (h : BnAt w bb ab first things ⟨0, x, n, got⟩) (hz1 : 1 ≤ z) (hz2 : z ≤ things) (hy : 0 ≤ y ∧ y ≤ 8) :
    Calls Try.prog 36 #[.pointer (some ⟨bb, 0, none⟩), .int .i64 y, .int .i64 z] w fun e w' => e = .returned (.bool true) ∧ BnAt w' bb ab first things ⟨y, z, n, got⟩ ∧ Frm [bb] w w' := by
  have HB := Lib.hid (Busy_any h)
  have c2 := h.box.cell (i := 2) rfl
  have c3 := h.box.cell (i := 3) rfl
  have c4 := h.box.cell (i := 4) rfl
  have hz := h.box.frozen
  have d1 : decide (z < 1) = false := by simp; omega
  have d2 : decide ((things : Int) < z) = false := by simp; omega
  have H := Lib.hid ((h.set3 y hy).set4 z)
  have H43 := Lib.hid ((h.set4 z).set3 y hy)
  have hk := (h.set3 y hy)
  have k4 := hk.box.cell (i := 4) rfl
  have kz := hk.box.frozen
  clear h hk
  go_enter Try.func36, Try.ntmps36
  go_wp2_with fail
  refine HB.out.mono ?_
  rintro e w' ⟨rfl, rfl⟩
  go_wp2
  go_ret
  exact ⟨rfl, H.out, ((Frm.refl [bb] w).set ⟨bb, 3, none⟩ _ (.inl (by simp))).set ⟨bb, 4, none⟩ _ (.inl (by simp))⟩
end
end Go.Proofs.Ytacogelejffbhaa
