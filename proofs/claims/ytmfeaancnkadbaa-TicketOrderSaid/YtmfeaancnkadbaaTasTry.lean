/- The contracts of tas: a step that tries, and one that frees. -/
import Derived.Test.YtmfeaancnkadbaaTasOps
namespace Go.Proofs.Ytmfeaancnkadbaa
open Go.RowKit

section
variable {w : World} {lb ab wb sb word n : Nat} {most : Int} {S : Nat → Nat → Int} {A : AR}

theorem lStep_free (h : LkAt w lb ab sb word n most S) (hA : ArAt w ab wb A) (hne : lb ≠ ab ∧ lb ≠ wb ∧ sb ≠ ab ∧ sb ≠ wb) {j : Nat} (hj : j < n) (hq : S j 0 = 11) : Calls Try.prog 11 #[.pointer (some ⟨lb, 0, none⟩), .int .i64 j] w fun e w' => e = .returned (.bool true) ∧
    LkAt w' lb ab sb word n most (spPut S j 0 0) ∧ ArAt w' ab wb (A.store word 0) ∧ Frm [sb, ab, wb] w w' := by
  obtain ⟨n1, n2, n3, n4⟩ := hne
  have HS := Lib.hid (lspot_yes h hj)
  have c0 := h.pc0 hj
  rw [hq] at c0
  have b0 := h.box.cell (i := 0) rfl
  have b1 := h.box.cell (i := 1) rfl
  have H := Lib.hid h
  have HSt := Lib.hid (fun k => Store_any (hA.frm (S := []) ((Frm.refl _ w).drew k) (by simp) (by simp)) word 0)
  clear h hA hq
  go_enter Try.func11, Try.ntmps11
  go_wp2_with fail
  refine HS.out.mono ?_
  rintro e w' ⟨rfl, rfl⟩
  go_wp2_with fail
  refine wp_region_quiet_tail 8 (by kernel_rfl) (by kernel_rfl) ?_
  simp only [List.take_succ_cons, List.take_zero, List.drop_succ_cons, List.drop_zero]
  repeat (quiet_step (fail))
  refine wpQuiet_nil ?_
  rintro _ ⟨nq, rfl⟩
  go_wp2_with fail
  refine (HSt.out nq).mono ?_
  rintro e w1 ⟨rfl, hA, hF⟩
  have hF1 := ((Frm.refl [ab, wb] w).drew nq).trans hF
  have hL := H.out.frm hF1 (by simp; omega) (by simp; omega)
  have k0 := hL.pc0 hj
  have hfz := hL.row.frozen
  have HP := Lib.hid (hL.put0 j 0)
  have hf2 : Frm [sb] w1 (w1.setCell ⟨sb, 4 * j, none⟩ (.int .i64 0)) := (Frm.refl _ _).set ⟨sb, 4 * j, none⟩ _ (.inl (by simp))
  have HA := Lib.hid (hA.frm hf2 (by simp; omega) (by simp; omega))
  have HF := Lib.hid ((hF1.mono (S' := [sb, ab, wb]) (by simp)).trans (hf2.mono (by simp)))
  clear hA hF hF1 hL hf2 c0 b0 b1
  go_wp2
  go_ret
  exact ⟨rfl, HP.out, HA.out, HF.out⟩

set_option maxHeartbeats 4000000 in
theorem lStep_try (h : LkAt w lb ab sb word n most S) (hA : ArAt w ab wb A) (hne : lb ≠ ab ∧ lb ≠ wb ∧ sb ≠ ab ∧ sb ≠ wb) {j : Nat} (hj : j < n) (hq : S j 0 = 1) : Calls Try.prog 11 #[.pointer (some ⟨lb, 0, none⟩), .int .i64 j] w fun e w' => e = .returned (.bool (A.casOk word 0)) ∧
    LkAt w' lb ab sb word n most (if A.casOk word 0 then spPut S j 0 10 else spPut (spPut (spPut S j 0 2) j 2 (S j 1)) j 1 (tLonger most (S j 1))) ∧ ArAt w' ab wb (A.cas word 0 ((j : Int) + 1)) ∧ Frm [sb, ab, wb] w w' := by
  obtain ⟨n1, n2, n3, n4⟩ := hne
  have hn := h.n32
  have HS := Lib.hid (lspot_yes h hj)
  have c0 := h.pc0 hj
  rw [hq] at c0
  have b0 := h.box.cell (i := 0) rfl
  have b1 := h.box.cell (i := 1) rfl
  have H := Lib.hid h
  have HC := Lib.hid (fun k => Cas_any (hA.frm (S := []) ((Frm.refl _ w).drew k) (by simp) (by simp)) word 0 ((j : Int) + 1))
  have HQ := Lib.hid hq
  clear h hA hq
  go_enter Try.func11, Try.ntmps11
  go_wp2_with fail
  refine HS.out.mono ?_
  rintro e w' ⟨rfl, rfl⟩
  go_wp2_with fail
  refine wp_region_quiet_tail 10 (by kernel_rfl) (by kernel_rfl) ?_
  simp only [List.take_succ_cons, List.take_zero, List.drop_succ_cons, List.drop_zero]
  repeat (quiet_step (fail))
  refine wpQuiet_nil ?_
  rintro _ ⟨nq, rfl⟩
  go_wp2_with fail
  refine (HC.out nq).mono ?_
  rintro e w1 ⟨rfl, hA, hF⟩
  have hF1 := ((Frm.refl [ab, wb] w).drew nq).trans hF
  have hL := H.out.frm hF1 (by simp; omega) (by simp; omega)
  have k0 := hL.pc0 hj
  have hfz := hL.row.frozen
  have HA := Lib.hid hA
  have HF1 := Lib.hid (hF1.mono (S' := [sb, ab, wb]) (by simp))
  have HL := Lib.hid hL
  clear hA hF hF1 hL c0 b0 b1
  cases hok : A.casOk word 0 with
  | true =>
    have HP := Lib.hid (HL.out.put0 j 10)
    have hf2 : Frm [sb] w1 (w1.setCell ⟨sb, 4 * j, none⟩ (.int .i64 10)) := (Frm.refl _ _).set ⟨sb, 4 * j, none⟩ _ (.inl (by simp))
    have HA2 := Lib.hid (HA.out.frm hf2 (by simp; omega) (by simp; omega))
    have HF := Lib.hid (HF1.out.trans (hf2.mono (by simp)))
    clear hf2
    go_wp2
    go_ret
    exact ⟨rfl, by simpa using HP.out, HA2.out, HF.out⟩
  | false =>
    have hP := ((HL.out.put0 j 2).put j (t := 2) (by omega) (S j 1)).put j (t := 1) (by omega) (tLonger most (S j 1))
    have hf2 : Frm [sb] w1 _ := (((Frm.refl [sb] w1).set ⟨sb, 4 * j, none⟩ (.int .i64 2) (.inl (by simp))).set ⟨sb, 4 * j + 2, none⟩ (.int .i64 (S j 1)) (.inl (by simp))).set ⟨sb, 4 * j + 1, none⟩ (.int .i64 (tLonger most (S j 1))) (.inl (by simp))
    have HP := Lib.hid hP
    have HA2 := Lib.hid (HA.out.frm hf2 (by simp; omega) (by simp; omega))
    have HF := Lib.hid (HF1.out.trans (hf2.mono (by simp)))
    have k1 := HL.out.pc hj 1 (by omega)
    have k2 := HL.out.pc hj 2 (by omega)
    have b2 := HL.out.box.cell (i := 2) rfl
    clear hP hf2
    have HLo := Lib.hid (rfl : tLonger most (S j 1) = if wrap64 (2 * S j 1) ≤ most then wrap64 (2 * S j 1) else most)
    go_upto_region 9 with fail
    by_cases hmin : wrap64 (2 * S j 1) ≤ most
    · have hlo : tLonger most (S j 1) = wrap64 (2 * S j 1) := by unfold tLonger; rw [if_pos hmin]
      rw [hlo] at HP HA2 HF
      have hm2 : IntKind.i64.wrap (2 * S j 1) ≤ most := by rw [IntWalk.i64_left]; exact hmin
      have HLO := Lib.hid hlo
      have HQ3 := Lib.hid (And.intro HP.out (And.intro HA2.out HF.out))
      clear HLo HP HA2 HF HA HF1 HL H HC HQ HS hlo
      go_region_with fail
      all_goals
        go_wp2
        all_goals
          go_ret
          refine ⟨rfl, ?_⟩
          (try rw [HLO.out])
          (try simp only [IntWalk.i64_left])
          first
            | exact HQ3.out
            | exact ⟨HQ3.out.1.frm (Z := []) ((Frm.refl _ _).drew1) (by simp) (by simp), HQ3.out.2.1.frm (S := []) ((Frm.refl _ _).drew1) (by simp) (by simp), HQ3.out.2.2.drew1⟩
    · have hlo : tLonger most (S j 1) = most := by unfold tLonger; rw [if_neg hmin]
      rw [hlo] at HP HA2 HF
      have hm2 : ¬ IntKind.i64.wrap (2 * S j 1) ≤ most := by rw [IntWalk.i64_left]; exact hmin
      have hm3 : most < IntKind.i64.wrap (2 * S j 1) := by rw [IntWalk.i64_left]; omega
      have HLO := Lib.hid hlo
      have HQ3 := Lib.hid (And.intro HP.out (And.intro HA2.out HF.out))
      clear HLo HP HA2 HF HA HF1 HL H HC HQ HS hlo
      go_region_with fail
      all_goals
        go_wp2
        all_goals
          go_ret
          refine ⟨rfl, ?_⟩
          (try rw [HLO.out])
          (try simp only [IntWalk.i64_left])
          first
            | exact HQ3.out
            | exact ⟨HQ3.out.1.frm (Z := []) ((Frm.refl _ _).drew1) (by simp) (by simp), HQ3.out.2.1.frm (S := []) ((Frm.refl _ _).drew1) (by simp) (by simp), HQ3.out.2.2.drew1⟩
end

end Go.Proofs.Ytmfeaancnkadbaa
