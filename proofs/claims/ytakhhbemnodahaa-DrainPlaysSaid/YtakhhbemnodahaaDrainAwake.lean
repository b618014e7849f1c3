/- The drain law's own check of what must come, whatever the arguments are: it returns true. (Printed by gen_dawake.py.) -/
import Derived.Test.YtakhhbemnodahaaDrainStep
namespace Go.Proofs.Ytakhhbemnodahaa
open Go.RowKit

theorem dto {w : World} {db : Nat} {gp : Option Addr} {D : DR} (h : DrAt w db gp D) {E : DR} (e : D = E) : DrAt w db gp E := e ▸ h

set_option maxHeartbeats 4000000 in
theorem dawake (w : World) : Calls Try.prog 48 #[] w fun e w' => e = .returned (.bool true) ∧ Frm [] w w' := by
  go_enter Try.func48, Try.ntmps48
  go_wp2_with fail
  refine (New_any 9 _).mono ?_
  rintro e w1 ⟨rfl, hA, hF1⟩
  have HA := Lib.hid (hA.to (B := ⟨[0, 0, 0, 0, 0, 0, 0, 0, 0], 0, 0, 0, 0, false⟩) (by kernel_rfl))
  have HF1 := Lib.hid hF1
  have hsz1 := hF1.size
  have hab := hA.box.lt
  clear hA hF1
  go_wp2_with fail
  refine (gNew_ok HA.out 2 (by kernel_rfl)).mono ?_
  rintro e w0 ⟨gb, rfl, hgb, hG, hA, hF⟩
  have HA := Lib.hid (hA.to (B := ⟨[0, 0, 0, 0, 0, 0, 0, 0, 0], 4, 0, 0, 0, false⟩) (by kernel_rfl))
  have HG : Hid (GgAt w0 gb (w.heap.size + 1) 1 2) := Lib.hid hG
  have HF1 := Lib.hid (HF1.out.widen hF (by simp))
  have hgl := hG.box.lt
  clear hA hF hG
  go_wp2_with fail
  refine (dNew_any (some ⟨gb, 0, none⟩) w0).mono ?_
  rintro e w00 ⟨rfl, hD, hF⟩
  have HD := Lib.hid (dto hD (E := ⟨0, 0, false, false, false, 0, false⟩) (by kernel_rfl))
  have HG := Lib.hid (HG.out.frm hF (by simp))
  have HA := Lib.hid (HA.out.frm hF (by simp) (by simp))
  have HF1 := Lib.hid (HF1.out.trans hF)
  obtain ⟨db, hdb⟩ : ∃ db, w0.heap.size = db := ⟨_, rfl⟩
  have hdl := HAt.lt hD
  clear hD hF
  rw [hdb] at HD hdl ⊢
  go_wp2_with fail
  refine (dBusy_any HD.out).mono ?_
  rintro e w' ⟨rfl, rfl⟩
  go_wp2_with fail
  refine (dBegin_any HD.out 0 2 false).mono ?_
  rintro e w2 ⟨rfl, hD, hF⟩
  have HD := Lib.hid (dto hD (E := ⟨0, 2, false, true, false, 0, false⟩) (by kernel_rfl))
  have HG := Lib.hid (HG.out.frm hF (by simp <;> omega))
  have HA := Lib.hid (HA.out.frm hF (by simp <;> omega) (by simp <;> omega))
  have HF1 := Lib.hid (HF1.out.widen hF (by simp <;> omega))
  clear hD hF
  have v1 : DR.stepR ⟨0, 2, false, true, false, 0, false⟩ (AR.gGet ⟨[0, 0, 0, 0, 0, 0, 0, 0, 0], 4, 0, 0, 0, false⟩ 1 2 (DR.at_ ⟨0, 2, false, true, false, 0, false⟩) 0) = false := by kernel_rfl
  go_wp2_with fail
  refine (dStep_any HD.out HG.out HA.out (by omega)).mono ?_
  rw [v1]
  rintro e w3 ⟨rfl, hD, hA, hG, hF⟩
  have HD := Lib.hid (dto hD (E := ⟨0, 2, false, true, true, 0, false⟩) (by kernel_rfl))
  have HA := Lib.hid (hA.to (B := ⟨[0, 0, 0, 0, 0, 0, 0, 0, 0], 4, 1, 1, 2, false⟩) (by kernel_rfl))
  have HG := Lib.hid hG
  have HF1 := Lib.hid (HF1.out.widen hF (by simp <;> omega))
  clear hD hA hG hF v1
  have v1 : DR.stepR ⟨0, 2, false, true, true, 0, false⟩ (AR.gGet ⟨[0, 0, 0, 0, 0, 0, 0, 0, 0], 4, 1, 1, 2, false⟩ 1 2 (DR.at_ ⟨0, 2, false, true, true, 0, false⟩) 0) = false := by kernel_rfl
  go_wp2_with fail
  refine (dStep_any HD.out HG.out HA.out (by omega)).mono ?_
  rw [v1]
  rintro e w4 ⟨rfl, hD, hA, hG, hF⟩
  have HD := Lib.hid (dto hD (E := ⟨1, 2, false, true, false, 0, false⟩) (by kernel_rfl))
  have HA := Lib.hid (hA.to (B := ⟨[0, 0, 0, 0, 0, 0, 0, 0, 0], 4, 2, 1, 1, false⟩) (by kernel_rfl))
  have HG := Lib.hid hG
  have HF1 := Lib.hid (HF1.out.widen hF (by simp <;> omega))
  clear hD hA hG hF v1
  have v1 : DR.stepR ⟨1, 2, false, true, false, 0, false⟩ (AR.gGet ⟨[0, 0, 0, 0, 0, 0, 0, 0, 0], 4, 2, 1, 1, false⟩ 1 2 (DR.at_ ⟨1, 2, false, true, false, 0, false⟩) 0) = false := by kernel_rfl
  go_wp2_with fail
  refine (dStep_any HD.out HG.out HA.out (by omega)).mono ?_
  rw [v1]
  rintro e w5 ⟨rfl, hD, hA, hG, hF⟩
  have HD := Lib.hid (dto hD (E := ⟨1, 2, false, true, true, 0, false⟩) (by kernel_rfl))
  have HA := Lib.hid (hA.to (B := ⟨[0, 0, 0, 0, 0, 0, 0, 0, 0], 4, 3, 1, 4, false⟩) (by kernel_rfl))
  have HG := Lib.hid hG
  have HF1 := Lib.hid (HF1.out.widen hF (by simp <;> omega))
  clear hD hA hG hF v1
  have v1 : DR.stepR ⟨1, 2, false, true, true, 0, false⟩ (AR.gGet ⟨[0, 0, 0, 0, 0, 0, 0, 0, 0], 4, 3, 1, 4, false⟩ 1 2 (DR.at_ ⟨1, 2, false, true, true, 0, false⟩) 0) = true := by kernel_rfl
  go_wp2_with fail
  refine (dStep_any HD.out HG.out HA.out (by omega)).mono ?_
  rw [v1]
  rintro e w6 ⟨rfl, hD, hA, hG, hF⟩
  have HD := Lib.hid (dto hD (E := ⟨2, 2, false, false, false, 0, true⟩) (by kernel_rfl))
  have HA := Lib.hid (hA.to (B := ⟨[0, 0, 0, 0, 0, 0, 0, 0, 0], 4, 4, 1, 3, false⟩) (by kernel_rfl))
  have HG := Lib.hid hG
  have HF1 := Lib.hid (HF1.out.widen hF (by simp <;> omega))
  clear hD hA hG hF v1
  go_wp2_with fail
  refine (dClear_any HD.out).mono ?_
  rintro e w' ⟨rfl, rfl⟩
  go_wp2_with fail
  refine (dAt_any HD.out).mono ?_
  rintro e w' ⟨rfl, rfl⟩
  go_wp2_with fail
  refine (Ops_any HA.out).mono ?_
  rintro e w' ⟨rfl, rfl⟩
  go_wp2_with fail
  refine (gEnter_any HG.out HA.out 1).mono ?_
  rintro e w7 ⟨rfl, hA, hF⟩
  have HA := Lib.hid (hA.to (B := ⟨[0, 0, 1, 0, 0, 0, 0, 0, 0], 4, 5, 5, 3, true⟩) (by kernel_rfl))
  have HG := Lib.hid (HG.out.frm hF (by simp <;> omega))
  have HD := Lib.hid (HD.out.frm hF (by simp <;> omega))
  have HF1 := Lib.hid (HF1.out.widen hF (by simp <;> omega))
  clear hA hF
  go_wp2_with fail
  refine (dBegin_any HD.out 0 2 true).mono ?_
  rintro e w8 ⟨rfl, hD, hF⟩
  have HD := Lib.hid (dto hD (E := ⟨0, 2, true, true, false, 0, false⟩) (by kernel_rfl))
  have HG := Lib.hid (HG.out.frm hF (by simp <;> omega))
  have HA := Lib.hid (HA.out.frm hF (by simp <;> omega) (by simp <;> omega))
  have HF1 := Lib.hid (HF1.out.widen hF (by simp <;> omega))
  clear hD hF
  have v1 : DR.stepR ⟨0, 2, true, true, false, 0, false⟩ (AR.gGet ⟨[0, 0, 1, 0, 0, 0, 0, 0, 0], 4, 5, 5, 3, true⟩ 1 2 (DR.at_ ⟨0, 2, true, true, false, 0, false⟩) 0) = false := by kernel_rfl
  go_wp2_with fail
  refine (dStep_any HD.out HG.out HA.out (by omega)).mono ?_
  rw [v1]
  rintro e w9 ⟨rfl, hD, hA, hG, hF⟩
  have HD := Lib.hid (dto hD (E := ⟨0, 2, true, true, true, 0, false⟩) (by kernel_rfl))
  have HA := Lib.hid (hA.to (B := ⟨[0, 0, 1, 0, 0, 0, 0, 0, 0], 4, 6, 1, 2, false⟩) (by kernel_rfl))
  have HG := Lib.hid hG
  have HF1 := Lib.hid (HF1.out.widen hF (by simp <;> omega))
  clear hD hA hG hF v1
  have v1 : DR.stepR ⟨0, 2, true, true, true, 0, false⟩ (AR.gGet ⟨[0, 0, 1, 0, 0, 0, 0, 0, 0], 4, 6, 1, 2, false⟩ 1 2 (DR.at_ ⟨0, 2, true, true, true, 0, false⟩) 0) = false := by kernel_rfl
  go_wp2_with fail
  refine (dStep_any HD.out HG.out HA.out (by omega)).mono ?_
  rw [v1]
  rintro e w10 ⟨rfl, hD, hA, hG, hF⟩
  have HD := Lib.hid (dto hD (E := ⟨1, 2, true, true, false, 0, false⟩) (by kernel_rfl))
  have HA := Lib.hid (hA.to (B := ⟨[0, 0, 1, 0, 0, 0, 0, 0, 0], 4, 7, 1, 1, false⟩) (by kernel_rfl))
  have HG := Lib.hid hG
  have HF1 := Lib.hid (HF1.out.widen hF (by simp <;> omega))
  clear hD hA hG hF v1
  have v1 : DR.stepR ⟨1, 2, true, true, false, 0, false⟩ (AR.gGet ⟨[0, 0, 1, 0, 0, 0, 0, 0, 0], 4, 7, 1, 1, false⟩ 1 2 (DR.at_ ⟨1, 2, true, true, false, 0, false⟩) 0) = false := by kernel_rfl
  go_wp2_with fail
  refine (dStep_any HD.out HG.out HA.out (by omega)).mono ?_
  rw [v1]
  rintro e w11 ⟨rfl, hD, hA, hG, hF⟩
  have HD := Lib.hid (dto hD (E := ⟨1, 2, true, true, true, 0, false⟩) (by kernel_rfl))
  have HA := Lib.hid (hA.to (B := ⟨[0, 0, 1, 0, 0, 0, 0, 0, 0], 4, 8, 1, 4, false⟩) (by kernel_rfl))
  have HG := Lib.hid hG
  have HF1 := Lib.hid (HF1.out.widen hF (by simp <;> omega))
  clear hD hA hG hF v1
  have v1 : DR.stepR ⟨1, 2, true, true, true, 0, false⟩ (AR.gGet ⟨[0, 0, 1, 0, 0, 0, 0, 0, 0], 4, 8, 1, 4, false⟩ 1 2 (DR.at_ ⟨1, 2, true, true, true, 0, false⟩) 0) = true := by kernel_rfl
  go_wp2_with fail
  refine (dStep_any HD.out HG.out HA.out (by omega)).mono ?_
  rw [v1]
  rintro e w12 ⟨rfl, hD, hA, hG, hF⟩
  have HD := Lib.hid (dto hD (E := ⟨1, 2, true, false, false, 0, false⟩) (by kernel_rfl))
  have HA := Lib.hid (hA.to (B := ⟨[0, 0, 1, 0, 0, 0, 0, 0, 0], 4, 9, 1, 3, false⟩) (by kernel_rfl))
  have HG := Lib.hid hG
  have HF1 := Lib.hid (HF1.out.widen hF (by simp <;> omega))
  clear hD hA hG hF v1
  go_wp2_with fail
  refine (dClear_any HD.out).mono ?_
  rintro e w' ⟨rfl, rfl⟩
  go_wp2_with fail
  refine (dAt_any HD.out).mono ?_
  rintro e w' ⟨rfl, rfl⟩
  go_wp2_with fail
  refine (dBusy_any HD.out).mono ?_
  rintro e w' ⟨rfl, rfl⟩
  go_wp2_with fail
  refine (dBegin_any HD.out 2 2 false).mono ?_
  rintro e w13 ⟨rfl, hD, hF⟩
  have HD := Lib.hid (dto hD (E := ⟨2, 2, false, false, false, 0, true⟩) (by kernel_rfl))
  have HG := Lib.hid (HG.out.frm hF (by simp <;> omega))
  have HA := Lib.hid (HA.out.frm hF (by simp <;> omega) (by simp <;> omega))
  have HF1 := Lib.hid (HF1.out.widen hF (by simp <;> omega))
  clear hD hF
  go_wp2_with fail
  refine (dClear_any HD.out).mono ?_
  rintro e w' ⟨rfl, rfl⟩
  go_wp2_with fail
  refine (dBegin_any HD.out 1 2 false).mono ?_
  rintro e w14 ⟨rfl, hD, hF⟩
  have HD := Lib.hid (dto hD (E := ⟨1, 2, false, true, false, 0, false⟩) (by kernel_rfl))
  have HG := Lib.hid (HG.out.frm hF (by simp <;> omega))
  have HA := Lib.hid (HA.out.frm hF (by simp <;> omega) (by simp <;> omega))
  have HF1 := Lib.hid (HF1.out.widen hF (by simp <;> omega))
  clear hD hF
  have v1 : DR.stepR ⟨1, 2, false, true, false, 0, false⟩ (AR.gGet ⟨[0, 0, 1, 0, 0, 0, 0, 0, 0], 4, 9, 1, 3, false⟩ 1 2 (DR.at_ ⟨1, 2, false, true, false, 0, false⟩) 0) = false := by kernel_rfl
  go_wp2_with fail
  refine (dStep_any HD.out HG.out HA.out (by omega)).mono ?_
  rw [v1]
  rintro e w15 ⟨rfl, hD, hA, hG, hF⟩
  have HD := Lib.hid (dto hD (E := ⟨1, 2, false, true, true, 0, false⟩) (by kernel_rfl))
  have HA := Lib.hid (hA.to (B := ⟨[0, 0, 1, 0, 0, 0, 0, 0, 0], 4, 10, 1, 4, false⟩) (by kernel_rfl))
  have HG := Lib.hid hG
  have HF1 := Lib.hid (HF1.out.widen hF (by simp <;> omega))
  clear hD hA hG hF v1
  have v1 : DR.stepR ⟨1, 2, false, true, true, 0, false⟩ (AR.gGet ⟨[0, 0, 1, 0, 0, 0, 0, 0, 0], 4, 10, 1, 4, false⟩ 1 2 (DR.at_ ⟨1, 2, false, true, true, 0, false⟩) 0) = false := by kernel_rfl
  go_wp2_with fail
  refine (dStep_any HD.out HG.out HA.out (by omega)).mono ?_
  rw [v1]
  rintro e w16 ⟨rfl, hD, hA, hG, hF⟩
  have HD := Lib.hid (dto hD (E := ⟨1, 2, false, true, false, 0, false⟩) (by kernel_rfl))
  have HA := Lib.hid (hA.to (B := ⟨[0, 0, 1, 0, 0, 0, 0, 0, 0], 4, 11, 1, 3, false⟩) (by kernel_rfl))
  have HG := Lib.hid hG
  have HF1 := Lib.hid (HF1.out.widen hF (by simp <;> omega))
  clear hD hA hG hF v1
  go_wp2_with fail
  refine (dBusy_any HD.out).mono ?_
  rintro e w' ⟨rfl, rfl⟩
  go_wp2
  go_ret
  exact ⟨rfl, HF1.out⟩

end Go.Proofs.Ytakhhbemnodahaa
