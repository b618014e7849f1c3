/- The contracts of the tas document's answer: Ask, Leave, Step, and what the law does with it. -/
import Derived.Test.YtmfeaancnkadbaaRefTas
namespace Go.Proofs.Ytmfeaancnkadbaa
open Go.RowKit

section
variable {w : World} {yb rb g word n cap : Nat} {most : Int} {S : Nat → Nat → Int} {A : AR} {v : Value}

theorem rAsk_any (h : RkAt w yb rb g word n cap most S) (i : Int) : Calls Try.prog 37 #[.pointer (some ⟨yb, 0, none⟩), .int .i64 i] w fun e w' => e = .returned (.bool (tAskOk n S i)) ∧ RkAt w' yb rb g word n cap most (tAsk n S i) ∧ Frm [g] w w' := by
  have H := Lib.hid h
  have c3 := h.box.cell (i := 3) rfl
  cases hi : sHas n i with
  | false =>
    have hr : tAskOk n S i = false := by unfold tAskOk; rw [hi]; rfl
    have hr2 : tAsk n S i = S := by unfold tAsk; rw [hr]; rfl
    rw [hr, hr2]
    by_cases hneg : i < 0
    · have d1 : decide (i < 0) = true := by simpa using hneg
      clear h hr hr2 hi
      go_enter Try.func37, Try.ntmps37
      go_wp2
      go_ret
      exact ⟨rfl, H.out, Frm.refl _ _⟩
    · have d1 : decide (i < 0) = false := by simpa using hneg
      have d2 : decide ((n : Int) ≤ i) = true := by unfold sHas at hi; simp at hi; simp; omega
      clear h hr hr2 hi
      go_enter Try.func37, Try.ntmps37
      go_wp2
      go_ret
      exact ⟨rfl, H.out, Frm.refl _ _⟩
  | true =>
    have hi' : 0 ≤ i ∧ i < (n : Int) := by unfold sHas at hi; simpa using hi
    obtain ⟨j, rfl⟩ := Int.eq_ofNat_of_zero_le hi'.1
    have hj : j < n := by omega
    have d1 : decide ((j : Int) < 0) = false := by simp
    have d2 : decide ((n : Int) ≤ j) = false := by simp; omega
    have d3 : decide (n ≤ j) = false := by simp; omega
    have l1 : (j : Int) < n := by omega
    have c0 := h.pc0 hj
    have c1 := h.pc hj 1 (by omega)
    rw [Nat.mul_comm 4 j] at c0 c1
    have hfz := h.row.frozen
    have hne := h.ne
    have hn := h.n32
    cases hq : decide (S j 0 = 0) with
    | false =>
      have hr : tAskOk n S j = false := by unfold tAskOk; rw [hi]; simpa using hq
      have hr2 : tAsk n S j = S := by unfold tAsk; rw [hr]; rfl
      rw [hr, hr2]
      have e1 : (S j 0 != 0) = true := by simpa using hq
      generalize S j 0 = pc at *
      clear h hr hr2 hi hi' hq c1 hfz
      go_enter Try.func37, Try.ntmps37
      go_wp2
      go_ret
      exact ⟨rfl, H.out, Frm.refl _ _⟩
    | true =>
      have hr : tAskOk n S j = true := by unfold tAskOk; rw [hi]; simpa using hq
      have hr2 : tAsk n S j = spPut (spPut S j 0 1) j 1 1 := by unfold tAsk; rw [hr]; rfl
      rw [hr, hr2]
      have e1 : (S j 0 != 0) = false := by simpa using hq
      have hP := (h.put0 j 1).put j (t := 1) (by omega) 1
      rw [Nat.mul_comm 4 j] at hP
      have HP := Lib.hid hP
      generalize S j 0 = pc at *
      generalize S j 1 = a at *
      clear h hr hr2 hi hi' hq hP
      go_enter Try.func37, Try.ntmps37
      go_wp2
      go_ret
      exact ⟨rfl, HP.out, ((Frm.refl [g] w).set ⟨g, j * 4, none⟩ _ (.inl (by simp))).set ⟨g, j * 4 + 1, none⟩ _ (.inl (by simp))⟩

theorem rLeave_any (h : RkAt w yb rb g word n cap most S) (i : Int) : Calls Try.prog 38 #[.pointer (some ⟨yb, 0, none⟩), .int .i64 i] w fun e w' => e = .returned (.bool (tLeaveOk n S i)) ∧ RkAt w' yb rb g word n cap most (tLeave n S i) ∧ Frm [g] w w' := by
  have H := Lib.hid h
  have c3 := h.box.cell (i := 3) rfl
  cases hi : sHas n i with
  | false =>
    have hr : tLeaveOk n S i = false := by unfold tLeaveOk; rw [hi]; rfl
    have hr2 : tLeave n S i = S := by unfold tLeave; rw [hr]; rfl
    rw [hr, hr2]
    by_cases hneg : i < 0
    · have d1 : decide (i < 0) = true := by simpa using hneg
      clear h hr hr2 hi
      go_enter Try.func38, Try.ntmps38
      go_wp2
      go_ret
      exact ⟨rfl, H.out, Frm.refl _ _⟩
    · have d1 : decide (i < 0) = false := by simpa using hneg
      have d2 : decide ((n : Int) ≤ i) = true := by unfold sHas at hi; simp at hi; simp; omega
      clear h hr hr2 hi
      go_enter Try.func38, Try.ntmps38
      go_wp2
      go_ret
      exact ⟨rfl, H.out, Frm.refl _ _⟩
  | true =>
    have hi' : 0 ≤ i ∧ i < (n : Int) := by unfold sHas at hi; simpa using hi
    obtain ⟨j, rfl⟩ := Int.eq_ofNat_of_zero_le hi'.1
    have hj : j < n := by omega
    have d1 : decide ((j : Int) < 0) = false := by simp
    have d2 : decide ((n : Int) ≤ j) = false := by simp; omega
    have d3 : decide (n ≤ j) = false := by simp; omega
    have l1 : (j : Int) < n := by omega
    have c0 := h.pc0 hj
    have c1 := h.pc hj 1 (by omega)
    rw [Nat.mul_comm 4 j] at c0 c1
    have hfz := h.row.frozen
    have hne := h.ne
    have hn := h.n32
    cases hq : decide (S j 0 = 10) with
    | false =>
      have hr : tLeaveOk n S j = false := by unfold tLeaveOk; rw [hi]; simpa using hq
      have hr2 : tLeave n S j = S := by unfold tLeave; rw [hr]; rfl
      rw [hr, hr2]
      have e1 : (S j 0 != 10) = true := by simpa using hq
      generalize S j 0 = pc at *
      clear h hr hr2 hi hi' hq c1 hfz
      go_enter Try.func38, Try.ntmps38
      go_wp2
      go_ret
      exact ⟨rfl, H.out, Frm.refl _ _⟩
    | true =>
      have hr : tLeaveOk n S j = true := by unfold tLeaveOk; rw [hi]; simpa using hq
      have hr2 : tLeave n S j = spPut S j 0 11 := by unfold tLeave; rw [hr]; rfl
      rw [hr, hr2]
      have e1 : (S j 0 != 10) = false := by simpa using hq
      have hP := h.put0 j 11
      rw [Nat.mul_comm 4 j] at hP
      have HP := Lib.hid hP
      generalize S j 0 = pc at *
      generalize S j 1 = a at *
      clear h hr hr2 hi hi' hq hP
      go_enter Try.func38, Try.ntmps38
      go_wp2
      go_ret
      exact ⟨rfl, HP.out, (Frm.refl [g] w).set ⟨g, j * 4, none⟩ _ (.inl (by simp))⟩
end

theorem spPut_same (S : Nat → Nat → Int) (i t : Nat) (a b : Int) : spPut (spPut S i t a) i t b = spPut S i t b := by
  funext i' t'; unfold spPut; by_cases h : i' = i ∧ t' = t <;> simp [h]
theorem spPut_swap (S : Nat → Nat → Int) (i : Nat) {t u : Nat} (h : t ≠ u) (a b : Int) : spPut (spPut S i t a) i u b = spPut (spPut S i u b) i t a := by
  funext i' t'; unfold spPut
  by_cases h1 : i' = i ∧ t' = t
  · have h2 : ¬ (i' = i ∧ t' = u) := by omega
    simp [h1]; intro e; omega
  · simp [h1]
theorem put_at (S : Nat → Nat → Int) (i t : Nat) (a : Int) : spPut S i t a i t = a := by unfold spPut; simp
theorem put_field (S : Nat → Nat → Int) (i : Nat) {t u : Nat} (h : u ≠ t) (a : Int) : spPut S i t a i u = S i u := by unfold spPut; simp [h]

section
variable {w : World} {yb rb g word n cap : Nat} {most : Int} {S : Nat → Nat → Int} {A : AR} {v : Value}
theorem rStep_idle (h : RkAt w yb rb g word n cap most S) (i : Int) (hq : sHas n i = false ∨ (S i.toNat 0 ≠ 1 ∧ S i.toNat 0 ≠ 2 ∧ S i.toNat 0 ≠ 11)) : Calls Try.prog 36 #[.pointer (some ⟨yb, 0, none⟩), .int .i64 i] w fun e w' => e = .returned (.bool false) ∧ w = w' := by
  have c3 := h.box.cell (i := 3) rfl
  cases hi : sHas n i with
  | false =>
    by_cases hneg : i < 0
    · have d1 : decide (i < 0) = true := by simpa using hneg
      clear h hq hi
      go_enter Try.func36, Try.ntmps36
      go_wp2
      go_ret
      exact ⟨rfl, rfl⟩
    · have d1 : decide (i < 0) = false := by simpa using hneg
      have d2 : decide ((n : Int) ≤ i) = true := by unfold sHas at hi; simp at hi; simp; omega
      clear h hq hi
      go_enter Try.func36, Try.ntmps36
      go_wp2
      go_ret
      exact ⟨rfl, rfl⟩
  | true =>
    have hi' : 0 ≤ i ∧ i < (n : Int) := by unfold sHas at hi; simpa using hi
    obtain ⟨j, rfl⟩ := Int.eq_ofNat_of_zero_le hi'.1
    have hj : j < n := by omega
    have d1 : decide ((j : Int) < 0) = false := by simp
    have d2 : decide ((n : Int) ≤ j) = false := by simp; omega
    have d3 : decide (n ≤ j) = false := by simp; omega
    have l1 : (j : Int) < n := by omega
    have c0 := h.pc0 hj
    rw [Nat.mul_comm 4 j] at c0
    have hn := h.n32
    rw [hi] at hq
    rw [show ((j : Int).toNat) = j from by omega] at hq
    obtain ⟨q1, q2, q3⟩ := hq.resolve_left (by simp)
    generalize S j 0 = pc at *
    have e1 : (pc == 1) = false := by simpa using q1
    have e2 : (pc == 2) = false := by simpa using q2
    have e3 : (pc == 11) = false := by simpa using q3
    clear h hq hi q1 q2 q3 hi'
    go_enter Try.func36, Try.ntmps36
    go_wp2
    go_ret
    exact ⟨rfl, rfl⟩


theorem rStep_wait0 (h : RkAt w yb rb g word n cap most S) {j : Nat} (hj : j < n) (hq : S j 0 = 2) (hz : wrap64 (S j 2 - 1) = 0) : Calls Try.prog 36 #[.pointer (some ⟨yb, 0, none⟩), .int .i64 j] w fun e w' => e = .returned (.bool false) ∧
    RkAt w' yb rb g word n cap most (spPut (spPut S j 2 (wrap64 (S j 2 - 1))) j 0 1) ∧ Frm [g] w w' := by
  have d1 : decide ((j : Int) < 0) = false := by simp
  have d2 : decide ((n : Int) ≤ j) = false := by simp; omega
  have d3 : decide (n ≤ j) = false := by simp; omega
  have l1 : (j : Int) < n := by omega
  have hn := h.n32
  have z1 : (wrap64 (S j 2 - 1) == 0) = true := by simpa using hz
  have c3 := h.box.cell (i := 3) rfl
  have c2 := h.box.cell (i := 2) rfl
  have k0 := h.pc0 hj
  have k1 := h.pc hj 1 (by omega)
  have k2 := h.pc hj 2 (by omega)
  rw [Nat.mul_comm 4 j] at k0 k1 k2
  have hfz := h.row.frozen
  rw [hq] at k0
  have HP := Lib.hid (fun nq => (h.frm (Z := []) ((Frm.refl _ w).drew nq) (by simp) (by simp)).put j (t := 2) (by omega) (wrap64 (S j 2 - 1)))
  have HF := Lib.hid (fun nq => ((Frm.refl [g] w).drew nq).set ⟨g, 4 * j + 2, none⟩ (.int .i64 (wrap64 (S j 2 - 1))) (.inl (by simp)))
  have HQ := Lib.hid hq
  clear h hq hz
  generalize hb : S j 2 = b at *
  have HB := Lib.hid hb
  clear hb
  generalize hc : wrap64 (b - 1) = c at *
  have HC := Lib.hid hc
  go_enter Try.func36, Try.ntmps36
  go_wp2_with fail
  refine wp_region_quiet_tail 16 (by kernel_rfl) (by kernel_rfl) ?_
  simp only [List.take_succ_cons, List.take_zero, List.drop_succ_cons, List.drop_zero]
  repeat (go_big_quiet_step (fail))
  refine wpQuiet_nil ?_
  rintro _ ⟨nq, rfl⟩
  go_wp2_with fail
  have hP := HP.out nq
  have hF := HF.out nq
  rw [Nat.mul_comm 4 j] at hP hF
  clear c3 c2 k0 k1 k2 hfz
  generalize (w.drewN nq).setCell ⟨g, j * 4 + 2, none⟩ (.int .i64 c) = W1 at *
  have c3 := hP.box.cell (i := 3) rfl
  have c2 := hP.box.cell (i := 2) rfl
  have k0 := hP.pc0 hj
  have k1 := hP.pc hj 1 (by omega)
  have k2 := hP.pc hj 2 (by omega)
  rw [Nat.mul_comm 4 j] at k0 k1 k2
  have hfz := hP.row.frozen
  rw [put_at] at k2
  rw [put_field _ _ (by omega), HQ.out] at k0
  have HP1 := Lib.hid hP
  have HF1 := Lib.hid hF
  clear hP hF
  have hP2 := HP1.out.put0 j 1
  rw [Nat.mul_comm 4 j] at hP2
  have HP2 := Lib.hid hP2
  clear hP2
  go_wp2
  go_ret
  exact ⟨rfl, HP2.out, HF1.out.set ⟨g, j * 4, none⟩ _ (.inl (by simp))⟩

theorem rStep_wait1 (h : RkAt w yb rb g word n cap most S) {j : Nat} (hj : j < n) (hq : S j 0 = 2) (hz : ¬ wrap64 (S j 2 - 1) = 0) : Calls Try.prog 36 #[.pointer (some ⟨yb, 0, none⟩), .int .i64 j] w fun e w' => e = .returned (.bool false) ∧
    RkAt w' yb rb g word n cap most (spPut S j 2 (wrap64 (S j 2 - 1))) ∧ Frm [g] w w' := by
  have d1 : decide ((j : Int) < 0) = false := by simp
  have d2 : decide ((n : Int) ≤ j) = false := by simp; omega
  have d3 : decide (n ≤ j) = false := by simp; omega
  have l1 : (j : Int) < n := by omega
  have hn := h.n32
  have z1 : (wrap64 (S j 2 - 1) == 0) = false := by simpa using hz
  have c3 := h.box.cell (i := 3) rfl
  have c2 := h.box.cell (i := 2) rfl
  have k0 := h.pc0 hj
  have k1 := h.pc hj 1 (by omega)
  have k2 := h.pc hj 2 (by omega)
  rw [Nat.mul_comm 4 j] at k0 k1 k2
  have hfz := h.row.frozen
  rw [hq] at k0
  have HP := Lib.hid (fun nq => (h.frm (Z := []) ((Frm.refl _ w).drew nq) (by simp) (by simp)).put j (t := 2) (by omega) (wrap64 (S j 2 - 1)))
  have HF := Lib.hid (fun nq => ((Frm.refl [g] w).drew nq).set ⟨g, 4 * j + 2, none⟩ (.int .i64 (wrap64 (S j 2 - 1))) (.inl (by simp)))
  have HQ := Lib.hid hq
  clear h hq hz
  generalize hb : S j 2 = b at *
  have HB := Lib.hid hb
  clear hb
  generalize hc : wrap64 (b - 1) = c at *
  have HC := Lib.hid hc
  go_enter Try.func36, Try.ntmps36
  go_wp2_with fail
  refine wp_region_quiet_tail 16 (by kernel_rfl) (by kernel_rfl) ?_
  simp only [List.take_succ_cons, List.take_zero, List.drop_succ_cons, List.drop_zero]
  repeat (go_big_quiet_step (fail))
  refine wpQuiet_nil ?_
  rintro _ ⟨nq, rfl⟩
  go_wp2_with fail
  have hP := HP.out nq
  have hF := HF.out nq
  rw [Nat.mul_comm 4 j] at hP hF
  clear c3 c2 k0 k1 k2 hfz
  generalize (w.drewN nq).setCell ⟨g, j * 4 + 2, none⟩ (.int .i64 c) = W1 at *
  have c3 := hP.box.cell (i := 3) rfl
  have c2 := hP.box.cell (i := 2) rfl
  have k0 := hP.pc0 hj
  have k1 := hP.pc hj 1 (by omega)
  have k2 := hP.pc hj 2 (by omega)
  rw [Nat.mul_comm 4 j] at k0 k1 k2
  have hfz := hP.row.frozen
  rw [put_at] at k2
  rw [put_field _ _ (by omega), HQ.out] at k0
  have HP1 := Lib.hid hP
  have HF1 := Lib.hid hF
  clear hP hF
  go_wp2
  go_ret
  exact ⟨rfl, HP1.out, HF1.out⟩

theorem rStep_wait (h : RkAt w yb rb g word n cap most S) {j : Nat} (hj : j < n) (hq : S j 0 = 2) : Calls Try.prog 36 #[.pointer (some ⟨yb, 0, none⟩), .int .i64 j] w fun e w' => e = .returned (.bool false) ∧
    RkAt w' yb rb g word n cap most (if wrap64 (S j 2 - 1) = 0 then spPut (spPut S j 2 (wrap64 (S j 2 - 1))) j 0 1 else spPut S j 2 (wrap64 (S j 2 - 1))) ∧ Frm [g] w w' := by
  by_cases hz : wrap64 (S j 2 - 1) = 0
  · rw [if_pos hz]; exact rStep_wait0 h hj hq hz
  · rw [if_neg hz]; exact rStep_wait1 h hj hq hz

theorem rStep_free (h : RkAt w yb rb g word n cap most S) (hR : RfAt w rb v A) (hy : yb ∉ rb :: vb v) (hg : g ∉ rb :: vb v) {j : Nat} (hj : j < n) (hq : S j 0 = 11) : Calls Try.prog 36 #[.pointer (some ⟨yb, 0, none⟩), .int .i64 j] w fun e w' => e = .returned (.bool true) ∧
    RkAt w' yb rb g word n cap most (spPut S j 0 0) ∧ RfAt w' rb v (A.store word 0) ∧ Frm (g :: rb :: vb v) w w' := by
  have d1 : decide ((j : Int) < 0) = false := by simp
  have d2 : decide ((n : Int) ≤ j) = false := by simp; omega
  have d3 : decide (n ≤ j) = false := by simp; omega
  have l1 : (j : Int) < n := by omega
  have hn := h.n32
  have cA := h.box.cell (i := 0) rfl
  have cW := h.box.cell (i := 1) rfl
  have c3 := h.box.cell (i := 3) rfl
  have c2 := h.box.cell (i := 2) rfl
  have k0 := h.pc0 hj
  have k1 := h.pc hj 1 (by omega)
  have k2 := h.pc hj 2 (by omega)
  rw [Nat.mul_comm 4 j] at k0 k1 k2
  have hfz := h.row.frozen
  rw [hq] at k0
  have HST := Lib.hid (fun nq => rStore_any (hR.frm (S := []) ((Frm.refl _ w).drew nq) (by simp)) word 0)
  have HK := Lib.hid h
  clear h hq hR
  go_enter Try.func36, Try.ntmps36
  go_wp2_with fail
  refine wp_region_quiet_tail 8 (by kernel_rfl) (by kernel_rfl) ?_
  simp only [List.take_succ_cons, List.take_zero, List.drop_succ_cons, List.drop_zero]
  repeat (go_big_quiet_step (fail))
  refine wpQuiet_nil ?_
  rintro _ ⟨nq, rfl⟩
  go_wp2_with fail
  refine (HST.out nq).mono ?_
  rintro e w1 ⟨rfl, hR1, hF1⟩
  have hF := ((Frm.refl (rb :: vb v) w).drew nq).trans hF1
  have hK := HK.out.frm hF hy hg
  clear cA cW c3 c2 k0 k1 k2 hfz
  have c3 := hK.box.cell (i := 3) rfl
  have c2 := hK.box.cell (i := 2) rfl
  have k0 := hK.pc0 hj
  have k1 := hK.pc hj 1 (by omega)
  have k2 := hK.pc hj 2 (by omega)
  rw [Nat.mul_comm 4 j] at k0 k1 k2
  have hfz := hK.row.frozen
  have hP := hK.put0 j 0
  have hR2 := hR1.frm' ((Frm.refl [g] w1).set ⟨g, 4 * j, none⟩ (.int .i64 0) (.inl (by simp))) (by simp; intro e; exact hg (by simp [e])) (fun k hk => by simp; intro e; exact hg (by simp [vb, hk, e]))
  rw [Nat.mul_comm 4 j] at hP hR2
  have HP := Lib.hid hP
  have HR2 := Lib.hid hR2
  have HF := Lib.hid (hF.mono (S' := g :: rb :: vb v) (fun k hk => List.mem_cons_of_mem _ hk))
  clear hP hF hR1 hF1 hK hR2
  go_wp2
  go_ret
  exact ⟨rfl, HP.out, HR2.out, HF.out.set ⟨g, j * 4, none⟩ _ (.inl (by simp))⟩


theorem rStep_hit (h : RkAt w yb rb g word n cap most S) (hR : RfAt w rb v A) (hy : yb ∉ rb :: vb v) (hg : g ∉ rb :: vb v) {j : Nat} (hj : j < n) (hq : S j 0 = 1) (hok : A.casOk word 0 = true) : Calls Try.prog 36 #[.pointer (some ⟨yb, 0, none⟩), .int .i64 j] w fun e w' => e = .returned (.bool true) ∧
    RkAt w' yb rb g word n cap most (spPut S j 0 10) ∧ RfAt w' rb v (A.cas word 0 (j + 1)) ∧ Frm (g :: rb :: vb v) w w' := by
  have d1 : decide ((j : Int) < 0) = false := by simp
  have d2 : decide ((n : Int) ≤ j) = false := by simp; omega
  have d3 : decide (n ≤ j) = false := by simp; omega
  have l1 : (j : Int) < n := by omega
  have hn := h.n32
  have cA := h.box.cell (i := 0) rfl
  have cW := h.box.cell (i := 1) rfl
  have c3 := h.box.cell (i := 3) rfl
  have c2 := h.box.cell (i := 2) rfl
  have k0 := h.pc0 hj
  have k1 := h.pc hj 1 (by omega)
  have k2 := h.pc hj 2 (by omega)
  rw [Nat.mul_comm 4 j] at k0 k1 k2
  have hfz := h.row.frozen
  rw [hq] at k0
  have hcs := fun nq => rCas_any (hR.frm (S := []) ((Frm.refl _ w).drew nq) (by simp)) word 0 ((j : Int) + 1)
  rw [hok] at hcs
  have HCS := Lib.hid hcs
  have HK := Lib.hid h
  have HQ := Lib.hid hq
  have hfar : ∀ (W1 W2 : World), RfAt W1 rb v (A.cas word 0 (j + 1)) → Frm [g] W1 W2 → RfAt W2 rb v (A.cas word 0 (j + 1)) := fun W1 W2 h1 h2 => h1.frm' h2 (by simp; intro e; exact hg (by simp [e])) (fun k hk => by simp; intro e; exact hg (by simp [vb, hk, e]))
  have HFAR := Lib.hid hfar
  clear h hq hR hfar hcs hok
  go_enter Try.func36, Try.ntmps36
  go_wp2_with fail
  refine wp_region_quiet_tail 10 (by kernel_rfl) (by kernel_rfl) ?_
  simp only [List.take_succ_cons, List.take_zero, List.drop_succ_cons, List.drop_zero]
  repeat (go_big_quiet_step (fail))
  refine wpQuiet_nil ?_
  rintro _ ⟨nq, rfl⟩
  go_wp2_with fail
  refine (HCS.out nq).mono ?_
  rintro e w1 ⟨rfl, hR1, hF1⟩
  have hF := ((Frm.refl (rb :: vb v) w).drew nq).trans hF1
  have hK := HK.out.frm hF hy hg
  have HF := Lib.hid (hF.mono (S' := g :: rb :: vb v) (fun k hk => List.mem_cons_of_mem _ hk))
  have HR1 := Lib.hid hR1
  clear cA cW c3 c2 k0 k1 k2 hfz hF hF1 hR1
  have c3 := hK.box.cell (i := 3) rfl
  have c2 := hK.box.cell (i := 2) rfl
  have k0 := hK.pc0 hj
  have k1 := hK.pc hj 1 (by omega)
  have k2 := hK.pc hj 2 (by omega)
  rw [Nat.mul_comm 4 j] at k0 k1 k2
  have hfz := hK.row.frozen
  have hP := hK.put0 j 10
  rw [Nat.mul_comm 4 j] at hP
  have HP := Lib.hid hP
  have hG := (Frm.refl [g] w1).set ⟨g, j * 4, none⟩ (.int .i64 10) (.inl (by simp))
  have HG := Lib.hid hG
  clear hP hK hG
  go_wp2
  go_ret
  exact ⟨rfl, HP.out, HFAR.out _ _ HR1.out HG.out, HF.out.set ⟨g, j * 4, none⟩ _ (.inl (by simp))⟩

theorem rStep_miss1 (h : RkAt w yb rb g word n cap most S) (hR : RfAt w rb v A) (hy : yb ∉ rb :: vb v) (hg : g ∉ rb :: vb v) {j : Nat} (hj : j < n) (hq : S j 0 = 1) (hok : A.casOk word 0 = false) (hlong : wrap64 (2 * S j 1) ≤ most) : Calls Try.prog 36 #[.pointer (some ⟨yb, 0, none⟩), .int .i64 j] w fun e w' => e = .returned (.bool false) ∧
    RkAt w' yb rb g word n cap most (spPut (spPut (spPut S j 0 2) j 2 (S j 1)) j 1 (wrap64 (2 * S j 1))) ∧ RfAt w' rb v (A.cas word 0 (j + 1)) ∧ Frm (g :: rb :: vb v) w w' := by
  have d1 : decide ((j : Int) < 0) = false := by simp
  have d2 : decide ((n : Int) ≤ j) = false := by simp; omega
  have d3 : decide (n ≤ j) = false := by simp; omega
  have l1 : (j : Int) < n := by omega
  have hn := h.n32
  have cA := h.box.cell (i := 0) rfl
  have cW := h.box.cell (i := 1) rfl
  have c3 := h.box.cell (i := 3) rfl
  have c2 := h.box.cell (i := 2) rfl
  have k0 := h.pc0 hj
  have k1 := h.pc hj 1 (by omega)
  have k2 := h.pc hj 2 (by omega)
  rw [Nat.mul_comm 4 j] at k0 k1 k2
  have hfz := h.row.frozen
  rw [hq] at k0
  have hcs := fun nq => rCas_any (hR.frm (S := []) ((Frm.refl _ w).drew nq) (by simp)) word 0 ((j : Int) + 1)
  rw [hok] at hcs
  have HCS := Lib.hid hcs
  have HK := Lib.hid h
  have HQ := Lib.hid hq
  have hfar : ∀ (W1 W2 : World), RfAt W1 rb v (A.cas word 0 (j + 1)) → Frm [g] W1 W2 → RfAt W2 rb v (A.cas word 0 (j + 1)) := fun W1 W2 h1 h2 => h1.frm' h2 (by simp; intro e; exact hg (by simp [e])) (fun k hk => by simp; intro e; exact hg (by simp [vb, hk, e]))
  have HFAR := Lib.hid hfar
  clear h hq hR hfar hcs hok
  go_enter Try.func36, Try.ntmps36
  go_wp2_with fail
  refine wp_region_quiet_tail 10 (by kernel_rfl) (by kernel_rfl) ?_
  simp only [List.take_succ_cons, List.take_zero, List.drop_succ_cons, List.drop_zero]
  repeat (go_big_quiet_step (fail))
  refine wpQuiet_nil ?_
  rintro _ ⟨nq, rfl⟩
  go_wp2_with fail
  refine (HCS.out nq).mono ?_
  rintro e w1 ⟨rfl, hR1, hF1⟩
  have hF := ((Frm.refl (rb :: vb v) w).drew nq).trans hF1
  have hK := HK.out.frm hF hy hg
  have HF := Lib.hid (hF.mono (S' := g :: rb :: vb v) (fun k hk => List.mem_cons_of_mem _ hk))
  have HR1 := Lib.hid hR1
  clear cA cW c3 c2 k0 k1 k2 hfz hF hF1 hR1
  have c3 := hK.box.cell (i := 3) rfl
  have c2 := hK.box.cell (i := 2) rfl
  have k0 := hK.pc0 hj
  have k1 := hK.pc hj 1 (by omega)
  have k2 := hK.pc hj 2 (by omega)
  rw [Nat.mul_comm 4 j] at k0 k1 k2
  have hfz := hK.row.frozen
  have HK1 := Lib.hid hK
  clear hK
  generalize ha : S j 1 = a at *
  have HA := Lib.hid ha
  clear ha
  go_wp2_with fail
  refine wp_region_quiet_tail 15 (by kernel_rfl) (by kernel_rfl) ?_
  simp only [List.take_succ_cons, List.take_zero, List.drop_succ_cons, List.drop_zero]
  repeat (go_big_quiet_step (fail))
  refine wpQuiet_nil ?_
  rintro _ ⟨n2, rfl⟩
  go_wp2_with fail
  have hG := ((Frm.refl [g] w1).drew n2).set ⟨g, 4 * j + 2, none⟩ (.int .i64 a) (.inl (by simp))
  have hK := (HK1.out.frm (Z := []) ((Frm.refl _ w1).drew n2) (by simp) (by simp)).put j (t := 2) (by omega) a
  rw [Nat.mul_comm 4 j] at hK hG
  clear c3 c2 k0 k1 k2 hfz
  generalize (w1.drewN n2).setCell ⟨g, j * 4 + 2, none⟩ (.int .i64 a) = w2 at *
  have c3 := hK.box.cell (i := 3) rfl
  have c2 := hK.box.cell (i := 2) rfl
  have k0 := hK.pc0 hj
  have k1 := hK.pc hj 1 (by omega)
  have k2 := hK.pc hj 2 (by omega)
  rw [Nat.mul_comm 4 j] at k0 k1 k2
  have hfz := hK.row.frozen
  rw [put_field _ _ (by omega), HA.out] at k1
  have HK2 := Lib.hid hK
  have HG2 := Lib.hid hG
  clear hG hK
  go_wp2_with fail
  refine wp_region_quiet_tail 16 (by kernel_rfl) (by kernel_rfl) ?_
  simp only [List.take_succ_cons, List.take_zero, List.drop_succ_cons, List.drop_zero]
  repeat (go_big_quiet_step (fail))
  refine wpQuiet_nil ?_
  rintro _ ⟨n3, rfl⟩
  go_wp2_with fail
  have hG := (HG2.out.drew n3).set ⟨g, 4 * j + 1, none⟩ (.int .i64 (wrap64 (2 * a))) (.inl (by simp))
  have hK := (HK2.out.frm (Z := []) ((Frm.refl _ w2).drew n3) (by simp) (by simp)).put j (t := 1) (by omega) (wrap64 (2 * a))
  rw [Nat.mul_comm 4 j] at hK hG
  clear c3 c2 k0 k1 k2 hfz
  generalize (w2.drewN n3).setCell ⟨g, j * 4 + 1, none⟩ (.int .i64 (wrap64 (2 * a))) = w3 at *
  have c3 := hK.box.cell (i := 3) rfl
  have c2 := hK.box.cell (i := 2) rfl
  have k0 := hK.pc0 hj
  have k1 := hK.pc hj 1 (by omega)
  have k2 := hK.pc hj 2 (by omega)
  rw [Nat.mul_comm 4 j] at k0 k1 k2
  have hfz := hK.row.frozen
  rw [put_at] at k1
  have HK3 := Lib.hid hK
  have HG3 := Lib.hid hG
  clear hG hK
  have e1 : decide (most < wrap64 (2 * a)) = false := by simp; omega
  clear hlong
  go_wp2_with fail
  go_quiet (fail)
  have hG := (HG3.out.drew nq).set ⟨g, 4 * j, none⟩ (.int .i64 2) (.inl (by simp))
  have hK := (HK3.out.frm (Z := []) ((Frm.refl _ w3).drew nq) (by simp) (by simp)).put0 j 2
  rw [Nat.mul_comm 4 j] at hK hG
  have HK4 := Lib.hid hK
  have HG4 := Lib.hid hG
  clear hK hG
  go_wp2
  go_ret
  refine ⟨rfl, ?_, HFAR.out _ _ HR1.out HG4.out, HF.out.trans (HG4.out.mono (by simp))⟩
  rw [spPut_swap S j (t := 0) (u := 2) (by omega), spPut_swap _ j (t := 0) (u := 1) (by omega)]
  first | exact HK4.out | (rw [HA.out]; exact HK4.out)

theorem rStep_miss2 (h : RkAt w yb rb g word n cap most S) (hR : RfAt w rb v A) (hy : yb ∉ rb :: vb v) (hg : g ∉ rb :: vb v) {j : Nat} (hj : j < n) (hq : S j 0 = 1) (hok : A.casOk word 0 = false) (hlong : ¬ wrap64 (2 * S j 1) ≤ most) : Calls Try.prog 36 #[.pointer (some ⟨yb, 0, none⟩), .int .i64 j] w fun e w' => e = .returned (.bool false) ∧
    RkAt w' yb rb g word n cap most (spPut (spPut (spPut S j 0 2) j 2 (S j 1)) j 1 most) ∧ RfAt w' rb v (A.cas word 0 (j + 1)) ∧ Frm (g :: rb :: vb v) w w' := by
  have d1 : decide ((j : Int) < 0) = false := by simp
  have d2 : decide ((n : Int) ≤ j) = false := by simp; omega
  have d3 : decide (n ≤ j) = false := by simp; omega
  have l1 : (j : Int) < n := by omega
  have hn := h.n32
  have cA := h.box.cell (i := 0) rfl
  have cW := h.box.cell (i := 1) rfl
  have c3 := h.box.cell (i := 3) rfl
  have c2 := h.box.cell (i := 2) rfl
  have k0 := h.pc0 hj
  have k1 := h.pc hj 1 (by omega)
  have k2 := h.pc hj 2 (by omega)
  rw [Nat.mul_comm 4 j] at k0 k1 k2
  have hfz := h.row.frozen
  rw [hq] at k0
  have hcs := fun nq => rCas_any (hR.frm (S := []) ((Frm.refl _ w).drew nq) (by simp)) word 0 ((j : Int) + 1)
  rw [hok] at hcs
  have HCS := Lib.hid hcs
  have HK := Lib.hid h
  have HQ := Lib.hid hq
  have hfar : ∀ (W1 W2 : World), RfAt W1 rb v (A.cas word 0 (j + 1)) → Frm [g] W1 W2 → RfAt W2 rb v (A.cas word 0 (j + 1)) := fun W1 W2 h1 h2 => h1.frm' h2 (by simp; intro e; exact hg (by simp [e])) (fun k hk => by simp; intro e; exact hg (by simp [vb, hk, e]))
  have HFAR := Lib.hid hfar
  clear h hq hR hfar hcs hok
  go_enter Try.func36, Try.ntmps36
  go_wp2_with fail
  refine wp_region_quiet_tail 10 (by kernel_rfl) (by kernel_rfl) ?_
  simp only [List.take_succ_cons, List.take_zero, List.drop_succ_cons, List.drop_zero]
  repeat (go_big_quiet_step (fail))
  refine wpQuiet_nil ?_
  rintro _ ⟨nq, rfl⟩
  go_wp2_with fail
  refine (HCS.out nq).mono ?_
  rintro e w1 ⟨rfl, hR1, hF1⟩
  have hF := ((Frm.refl (rb :: vb v) w).drew nq).trans hF1
  have hK := HK.out.frm hF hy hg
  have HF := Lib.hid (hF.mono (S' := g :: rb :: vb v) (fun k hk => List.mem_cons_of_mem _ hk))
  have HR1 := Lib.hid hR1
  clear cA cW c3 c2 k0 k1 k2 hfz hF hF1 hR1
  have c3 := hK.box.cell (i := 3) rfl
  have c2 := hK.box.cell (i := 2) rfl
  have k0 := hK.pc0 hj
  have k1 := hK.pc hj 1 (by omega)
  have k2 := hK.pc hj 2 (by omega)
  rw [Nat.mul_comm 4 j] at k0 k1 k2
  have hfz := hK.row.frozen
  have HK1 := Lib.hid hK
  clear hK
  generalize ha : S j 1 = a at *
  have HA := Lib.hid ha
  clear ha
  go_wp2_with fail
  refine wp_region_quiet_tail 15 (by kernel_rfl) (by kernel_rfl) ?_
  simp only [List.take_succ_cons, List.take_zero, List.drop_succ_cons, List.drop_zero]
  repeat (go_big_quiet_step (fail))
  refine wpQuiet_nil ?_
  rintro _ ⟨n2, rfl⟩
  go_wp2_with fail
  have hG := ((Frm.refl [g] w1).drew n2).set ⟨g, 4 * j + 2, none⟩ (.int .i64 a) (.inl (by simp))
  have hK := (HK1.out.frm (Z := []) ((Frm.refl _ w1).drew n2) (by simp) (by simp)).put j (t := 2) (by omega) a
  rw [Nat.mul_comm 4 j] at hK hG
  clear c3 c2 k0 k1 k2 hfz
  generalize (w1.drewN n2).setCell ⟨g, j * 4 + 2, none⟩ (.int .i64 a) = w2 at *
  have c3 := hK.box.cell (i := 3) rfl
  have c2 := hK.box.cell (i := 2) rfl
  have k0 := hK.pc0 hj
  have k1 := hK.pc hj 1 (by omega)
  have k2 := hK.pc hj 2 (by omega)
  rw [Nat.mul_comm 4 j] at k0 k1 k2
  have hfz := hK.row.frozen
  rw [put_field _ _ (by omega), HA.out] at k1
  have HK2 := Lib.hid hK
  have HG2 := Lib.hid hG
  clear hG hK
  go_wp2_with fail
  refine wp_region_quiet_tail 16 (by kernel_rfl) (by kernel_rfl) ?_
  simp only [List.take_succ_cons, List.take_zero, List.drop_succ_cons, List.drop_zero]
  repeat (go_big_quiet_step (fail))
  refine wpQuiet_nil ?_
  rintro _ ⟨n3, rfl⟩
  go_wp2_with fail
  have hG := (HG2.out.drew n3).set ⟨g, 4 * j + 1, none⟩ (.int .i64 (wrap64 (2 * a))) (.inl (by simp))
  have hK := (HK2.out.frm (Z := []) ((Frm.refl _ w2).drew n3) (by simp) (by simp)).put j (t := 1) (by omega) (wrap64 (2 * a))
  rw [Nat.mul_comm 4 j] at hK hG
  clear c3 c2 k0 k1 k2 hfz
  generalize (w2.drewN n3).setCell ⟨g, j * 4 + 1, none⟩ (.int .i64 (wrap64 (2 * a))) = w3 at *
  have c3 := hK.box.cell (i := 3) rfl
  have c2 := hK.box.cell (i := 2) rfl
  have k0 := hK.pc0 hj
  have k1 := hK.pc hj 1 (by omega)
  have k2 := hK.pc hj 2 (by omega)
  rw [Nat.mul_comm 4 j] at k0 k1 k2
  have hfz := hK.row.frozen
  rw [put_at] at k1
  have HK3 := Lib.hid hK
  have HG3 := Lib.hid hG
  clear hG hK
  have e1 : decide (most < wrap64 (2 * a)) = true := by simp; omega
  clear hlong
  go_wp2_with fail
  go_quiet (fail)
  go_wp2_with fail
  refine wp_region_quiet_tail 11 (by kernel_rfl) (by kernel_rfl) ?_
  simp only [List.take_succ_cons, List.take_zero, List.drop_succ_cons, List.drop_zero]
  repeat (go_big_quiet_step (fail))
  refine wpQuiet_nil ?_
  rintro _ ⟨n4, rfl⟩
  go_wp2_with fail
  have hG := (HG3.out.drew (nq + n4)).set ⟨g, 4 * j + 1, none⟩ (.int .i64 most) (.inl (by simp))
  have hK := (HK3.out.frm (Z := []) ((Frm.refl _ w3).drew (nq + n4)) (by simp) (by simp)).put j (t := 1) (by omega) most
  rw [Nat.mul_comm 4 j] at hK hG
  rw [spPut_same] at hK
  clear c3 c2 k0 k1 k2 hfz
  generalize (w3.drewN (nq + n4)).setCell ⟨g, j * 4 + 1, none⟩ (.int .i64 most) = w4 at *
  have c3 := hK.box.cell (i := 3) rfl
  have c2 := hK.box.cell (i := 2) rfl
  have k0 := hK.pc0 hj
  have k1 := hK.pc hj 1 (by omega)
  have k2 := hK.pc hj 2 (by omega)
  rw [Nat.mul_comm 4 j] at k0 k1 k2
  have hfz := hK.row.frozen
  have hG5 := hG.set ⟨g, 4 * j, none⟩ (.int .i64 2) (.inl (by simp))
  have hK5 := hK.put0 j 2
  rw [Nat.mul_comm 4 j] at hK5 hG5
  have HK4 := Lib.hid hK5
  have HG4 := Lib.hid hG5
  clear hK hG hK5 hG5
  go_wp2
  go_ret
  refine ⟨rfl, ?_, HFAR.out _ _ HR1.out HG4.out, HF.out.trans (HG4.out.mono (by simp))⟩
  rw [spPut_swap S j (t := 0) (u := 2) (by omega), spPut_swap _ j (t := 0) (u := 1) (by omega)]
  first | exact HK4.out | (rw [HA.out]; exact HK4.out)

theorem rStep_any (h : RkAt w yb rb g word n cap most S) (hR : RfAt w rb v A) (hy : yb ∉ rb :: vb v) (hg : g ∉ rb :: vb v) (i : Int) : Calls Try.prog 36 #[.pointer (some ⟨yb, 0, none⟩), .int .i64 i] w fun e w' => e = .returned (.bool (tStepR n word S A i)) ∧
    RkAt w' yb rb g word n cap most (tStepS n word most S A i) ∧ RfAt w' rb v (tStepA n word S A i) ∧ Frm (g :: rb :: vb v) w w' := by
  cases hi : sHas n i with
  | false =>
    refine (rStep_idle h i (.inl hi)).mono fun e w' ⟨g1, g2⟩ => ?_
    subst g1 g2
    exact ⟨by unfold tStepR; rw [hi]; rfl, by unfold tStepS; rw [hi]; exact h, by unfold tStepA; rw [hi]; exact hR, Frm.refl _ _⟩
  | true =>
    have hi' : 0 ≤ i ∧ i < (n : Int) := by unfold sHas at hi; simpa using hi
    obtain ⟨j, rfl⟩ := Int.eq_ofNat_of_zero_le hi'.1
    have hj : j < n := by omega
    have ej : ((j : Int)).toNat = j := by omega
    unfold tStepR tStepS tStepA
    rw [hi, ej]
    simp only [Bool.true_and, if_true]
    by_cases q1 : S j 0 = 1
    · simp only [if_pos q1]
      cases hok : A.casOk word 0 with
      | true =>
        simp only [if_true]
        exact rStep_hit h hR hy hg hj q1 hok
      | false =>
        simp only [Bool.false_eq_true, if_false]
        unfold tLonger
        by_cases hl : wrap64 (2 * S j 1) ≤ most
        · rw [if_pos hl]; exact rStep_miss1 h hR hy hg hj q1 hok hl
        · rw [if_neg hl]; exact rStep_miss2 h hR hy hg hj q1 hok hl
    · simp only [if_neg q1]
      by_cases q2 : S j 0 = 2
      · have q3 : ¬ S j 0 = 11 := by omega
        simp only [if_pos q2, if_neg q3, decide_eq_false q3]
        exact (rStep_wait h hj q2).mono fun e w' ⟨g1, g2, g3⟩ => ⟨g1, g2, hR.frm' g3 (by simp; intro e; exact hg (by simp [e])) (fun k hk => by simp; intro e; exact hg (by simp [vb, hk, e])), g3.mono (by simp)⟩
      · simp only [if_neg q2]
        by_cases q3 : S j 0 = 11
        · simp only [if_pos q3, decide_eq_true q3]
          exact rStep_free h hR hy hg hj q3
        · simp only [if_neg q3, decide_eq_false q3]
          refine (rStep_idle h j (.inr ?_)).mono fun e w' ⟨g1, g2⟩ => ?_
          · rw [ej]; exact ⟨q1, q2, q3⟩
          · subst g1 g2
            exact ⟨rfl, h, hR, Frm.refl _ _⟩
end
end Go.Proofs.Ytmfeaancnkadbaa
