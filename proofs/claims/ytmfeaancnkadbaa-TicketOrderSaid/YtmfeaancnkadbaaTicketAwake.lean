/- The ticket laws' own check of what must come, whatever the arguments are: it returns true. (Printed by gen_ticketawake.py.) -/
import Derived.Test.YtmfeaancnkadbaaTicketNew
namespace Go.Proofs.Ytmfeaancnkadbaa
open Go.RowKit

set_option maxRecDepth 100000 in
set_option maxHeartbeats 4000000 in
theorem kawake (w : World) : Calls Try.prog 23 #[] w fun e w' => e = .returned (.bool true) ∧ Frm [] w w' := by
  have fd := spotPc
  go_enter Try.func23, Try.ntmps23
  go_wp2_with fail
  refine (New_any 9 _).mono ?_
  rintro e w1 ⟨rfl, hA, hF1⟩
  have HA := Lib.hid (hA.to (B := ⟨[0, 0, 0, 0, 0, 0, 0, 0, 0], 0, 0, 0, 0, false⟩) (by kernel_rfl))
  have HF1 := Lib.hid hF1
  have hsz1 := hF1.size
  have hab := hA.box.lt
  clear hA hF1
  go_wp2_with fail
  refine (kNew_ok HA.out 2 (by omega) (by omega) (by kernel_rfl)).mono ?_
  rintro e w2 ⟨lb, sb, rfl, hlb, hsb, hL, hA, hF⟩
  have HA := Lib.hid (hA.to (B := ⟨[0, 0, 0, 0, 0, 0, 0, 0, 0], 2, 0, 0, 0, false⟩) (by kernel_rfl))
  have HL : Hid (KkAt w2 lb (w.heap.size + 1) sb 1 2 (ofL [[0, 0, 0, 0], [0, 0, 0, 0]])) := Lib.hid (hL.to2 (of_decide_eq_true (by kernel_rfl)))
  have HF1 := Lib.hid (HF1.out.widen hF (by simp))
  clear hA hF hL
  have v1 : kTurnOk 2 (ofL [[0, 0, 0, 0], [0, 0, 0, 0]]) 1 0 = true := by kernel_rfl
  go_wp2_with fail
  refine (kAsk_any HL.out 1).mono ?_
  rw [v1]
  rintro e w3 ⟨rfl, hL, hF⟩
  have HA := Lib.hid (HA.out.frm hF (by simp <;> omega) (by simp <;> omega))
  have HL := Lib.hid (hL.to2 (T := (ofL [[0, 0, 0, 0], [1, 0, 0, 0]])) (of_decide_eq_true (by kernel_rfl)))
  have HF1 := Lib.hid (HF1.out.widen hF (by simp <;> omega))
  clear hL hF v1
  have v1 : kStepR 2 1 (ofL [[0, 0, 0, 0], [1, 0, 0, 0]]) ⟨[0, 0, 0, 0, 0, 0, 0, 0, 0], 2, 0, 0, 0, false⟩ 1 = false := by kernel_rfl
  go_wp2_with fail
  refine (kStep_any HL.out HA.out (by omega) 1).mono ?_
  rw [v1]
  rintro e w4 ⟨rfl, hL, hA, hF⟩
  have HA := Lib.hid (hA.to (B := ⟨[1, 0, 0, 0, 0, 0, 0, 0, 0], 2, 1, 5, 1, true⟩) (by kernel_rfl))
  have HL := Lib.hid (hL.to2 (T := (ofL [[0, 0, 0, 0], [2, 0, 0, 0]])) (of_decide_eq_true (by kernel_rfl)))
  have HF1 := Lib.hid (HF1.out.widen hF (by simp <;> omega))
  clear hL hA hF v1
  have v1 : kStepR 2 1 (ofL [[0, 0, 0, 0], [2, 0, 0, 0]]) ⟨[1, 0, 0, 0, 0, 0, 0, 0, 0], 2, 1, 5, 1, true⟩ 1 = true := by kernel_rfl
  go_wp2_with fail
  refine (kStep_any HL.out HA.out (by omega) 1).mono ?_
  rw [v1]
  rintro e w5 ⟨rfl, hL, hA, hF⟩
  have HA := Lib.hid (hA.to (B := ⟨[1, 0, 0, 0, 0, 0, 0, 0, 0], 2, 2, 1, 2, false⟩) (by kernel_rfl))
  have HL := Lib.hid (hL.to2 (T := (ofL [[0, 0, 0, 0], [10, 0, 0, 0]])) (of_decide_eq_true (by kernel_rfl)))
  have HF1 := Lib.hid (HF1.out.widen hF (by simp <;> omega))
  clear hL hA hF v1
  have v1 : kAlR 2 1 (ofL [[0, 0, 0, 0], [10, 0, 0, 0]]) ⟨[1, 0, 0, 0, 0, 0, 0, 0, 0], 2, 2, 1, 2, false⟩ 1 = true := by kernel_rfl
  go_wp2_with fail
  refine (kAlone_any HL.out HA.out (by omega) 1).mono ?_
  rw [v1]
  rintro e w6 ⟨rfl, hL, hA, hF⟩
  have HA := Lib.hid (hA.to (B := ⟨[1, 0, 0, 0, 0, 0, 0, 0, 0], 2, 3, 1, 1, false⟩) (by kernel_rfl))
  have HL := Lib.hid (hL.to2 (T := (ofL [[0, 0, 0, 0], [10, 0, 0, 0]])) (of_decide_eq_true (by kernel_rfl)))
  have HF1 := Lib.hid (HF1.out.widen hF (by simp <;> omega))
  clear hL hA hF v1
  have v1 : kTurnOk 2 (ofL [[0, 0, 0, 0], [10, 0, 0, 0]]) 0 0 = true := by kernel_rfl
  go_wp2_with fail
  refine (kAsk_any HL.out 0).mono ?_
  rw [v1]
  rintro e w7 ⟨rfl, hL, hF⟩
  have HA := Lib.hid (HA.out.frm hF (by simp <;> omega) (by simp <;> omega))
  have HL := Lib.hid (hL.to2 (T := (ofL [[1, 0, 0, 0], [10, 0, 0, 0]])) (of_decide_eq_true (by kernel_rfl)))
  have HF1 := Lib.hid (HF1.out.widen hF (by simp <;> omega))
  clear hL hF v1
  have v1 : kStepR 2 1 (ofL [[1, 0, 0, 0], [10, 0, 0, 0]]) ⟨[1, 0, 0, 0, 0, 0, 0, 0, 0], 2, 3, 1, 1, false⟩ 0 = false := by kernel_rfl
  go_wp2_with fail
  refine (kStep_any HL.out HA.out (by omega) 0).mono ?_
  rw [v1]
  rintro e w8 ⟨rfl, hL, hA, hF⟩
  have HA := Lib.hid (hA.to (B := ⟨[2, 0, 0, 0, 0, 0, 0, 0, 0], 2, 4, 5, 1, true⟩) (by kernel_rfl))
  have HL := Lib.hid (hL.to2 (T := (ofL [[2, 1, 0, 0], [10, 0, 0, 0]])) (of_decide_eq_true (by kernel_rfl)))
  have HF1 := Lib.hid (HF1.out.widen hF (by simp <;> omega))
  clear hL hA hF v1
  have v1 : kStepR 2 1 (ofL [[2, 1, 0, 0], [10, 0, 0, 0]]) ⟨[2, 0, 0, 0, 0, 0, 0, 0, 0], 2, 4, 5, 1, true⟩ 0 = false := by kernel_rfl
  go_wp2_with fail
  refine (kStep_any HL.out HA.out (by omega) 0).mono ?_
  rw [v1]
  rintro e w9 ⟨rfl, hL, hA, hF⟩
  have HA := Lib.hid (hA.to (B := ⟨[2, 0, 0, 0, 0, 0, 0, 0, 0], 2, 5, 1, 2, false⟩) (by kernel_rfl))
  have HL := Lib.hid (hL.to2 (T := (ofL [[2, 1, 0, 0], [10, 0, 0, 0]])) (of_decide_eq_true (by kernel_rfl)))
  have HF1 := Lib.hid (HF1.out.widen hF (by simp <;> omega))
  clear hL hA hF v1
  have v1 : kAlR 2 1 (ofL [[2, 1, 0, 0], [10, 0, 0, 0]]) ⟨[2, 0, 0, 0, 0, 0, 0, 0, 0], 2, 5, 1, 2, false⟩ 1 = false := by kernel_rfl
  go_wp2_with fail
  refine (kAlone_any HL.out HA.out (by omega) 1).mono ?_
  rw [v1]
  rintro e w10 ⟨rfl, hL, hA, hF⟩
  have HA := Lib.hid (hA.to (B := ⟨[2, 0, 0, 0, 0, 0, 0, 0, 0], 2, 6, 1, 1, false⟩) (by kernel_rfl))
  have HL := Lib.hid (hL.to2 (T := (ofL [[2, 1, 0, 0], [10, 0, 0, 0]])) (of_decide_eq_true (by kernel_rfl)))
  have HF1 := Lib.hid (HF1.out.widen hF (by simp <;> omega))
  clear hL hA hF v1
  have v1 : spV 2 (ofL [[2, 1, 0, 0], [10, 0, 0, 0]]) 0 = .agg #[.int .i64 2, .int .i64 1, .int .i64 0, .int .i64 0] := by kernel_rfl
  go_wp2_with fail
  refine (kSpot_any HL.out 0).mono ?_
  rw [v1]
  rintro e w11 ⟨rfl, hF⟩
  have HA := Lib.hid (HA.out.frm hF (by simp) (by simp))
  have HL := Lib.hid (HL.out.frm hF (by simp) (by simp))
  have HF1 := Lib.hid (HF1.out.trans hF)
  clear hF v1
  have v1 : kTurnOk 2 (ofL [[2, 1, 0, 0], [10, 0, 0, 0]]) 1 10 = true := by kernel_rfl
  go_wp2_with fail
  refine (kLeave_any HL.out 1).mono ?_
  rw [v1]
  rintro e w12 ⟨rfl, hL, hF⟩
  have HA := Lib.hid (HA.out.frm hF (by simp <;> omega) (by simp <;> omega))
  have HL := Lib.hid (hL.to2 (T := (ofL [[2, 1, 0, 0], [11, 0, 0, 0]])) (of_decide_eq_true (by kernel_rfl)))
  have HF1 := Lib.hid (HF1.out.widen hF (by simp <;> omega))
  clear hL hF v1
  have v1 : kStepR 2 1 (ofL [[2, 1, 0, 0], [11, 0, 0, 0]]) ⟨[2, 0, 0, 0, 0, 0, 0, 0, 0], 2, 6, 1, 1, false⟩ 1 = true := by kernel_rfl
  go_wp2_with fail
  refine (kStep_any HL.out HA.out (by omega) 1).mono ?_
  rw [v1]
  rintro e w13 ⟨rfl, hL, hA, hF⟩
  have HA := Lib.hid (hA.to (B := ⟨[2, 1, 0, 0, 0, 0, 0, 0, 0], 2, 7, 2, 2, true⟩) (by kernel_rfl))
  have HL := Lib.hid (hL.to2 (T := (ofL [[2, 1, 0, 0], [0, 0, 0, 0]])) (of_decide_eq_true (by kernel_rfl)))
  have HF1 := Lib.hid (HF1.out.widen hF (by simp <;> omega))
  clear hL hA hF v1
  have v1 : kStepR 2 1 (ofL [[2, 1, 0, 0], [0, 0, 0, 0]]) ⟨[2, 1, 0, 0, 0, 0, 0, 0, 0], 2, 7, 2, 2, true⟩ 0 = true := by kernel_rfl
  go_wp2_with fail
  refine (kStep_any HL.out HA.out (by omega) 0).mono ?_
  rw [v1]
  rintro e w14 ⟨rfl, hL, hA, hF⟩
  have HA := Lib.hid (hA.to (B := ⟨[2, 1, 0, 0, 0, 0, 0, 0, 0], 2, 8, 1, 2, false⟩) (by kernel_rfl))
  have HL := Lib.hid (hL.to2 (T := (ofL [[10, 1, 0, 0], [0, 0, 0, 0]])) (of_decide_eq_true (by kernel_rfl)))
  have HF1 := Lib.hid (HF1.out.widen hF (by simp <;> omega))
  clear hL hA hF v1
  go_wp2_with fail
  refine (kNew_big _ 33 (by omega) _).mono ?_
  rintro e w' ⟨rfl, rfl⟩
  have v1 : spV 2 (ofL [[10, 1, 0, 0], [0, 0, 0, 0]]) 0 = .agg #[.int .i64 10, .int .i64 1, .int .i64 0, .int .i64 0] := by kernel_rfl
  go_wp2_with fail
  refine (kSpot_any HL.out 0).mono ?_
  rw [v1]
  rintro e w15 ⟨rfl, hF⟩
  have HA := Lib.hid (HA.out.frm hF (by simp) (by simp))
  have HL := Lib.hid (HL.out.frm hF (by simp) (by simp))
  have HF1 := Lib.hid (HF1.out.trans hF)
  clear hF v1
  have v1 : spV 2 (ofL [[10, 1, 0, 0], [0, 0, 0, 0]]) 1 = .agg #[.int .i64 0, .int .i64 0, .int .i64 0, .int .i64 0] := by kernel_rfl
  go_wp2_with fail
  refine (kSpot_any HL.out 1).mono ?_
  rw [v1]
  rintro e w16 ⟨rfl, hF⟩
  have HA := Lib.hid (HA.out.frm hF (by simp) (by simp))
  have HL := Lib.hid (HL.out.frm hF (by simp) (by simp))
  have HF1 := Lib.hid (HF1.out.trans hF)
  clear hF v1
  go_wp2_with fail
  refine (Words_any HA.out).mono ?_
  rintro e w17 ⟨v, rfl, hO, hF⟩
  have HF1 := Lib.hid (HF1.out.trans hF)
  have HL := Lib.hid (HL.out.frm hF (by simp) (by simp))
  have HO := Lib.hid hO
  clear hF hO
  have hS := Same_any (w17.alloc (.cells #[.int .i64 2, .int .i64 1] 3)) (HO.out.frm ((Frm.refl [] _).alloc _) (by simp)).row
    (HAt.rowAt (zs := [2, 1]) (HAt.new w17 #[.int .i64 2, .int .i64 1] 3) (Nat.le_refl _) (by decide))
  rw [show decide ((⟨[2, 1, 0, 0, 0, 0, 0, 0, 0], 2, 8, 1, 2, false⟩ : AR).words = [2, 1]) = true from by decide] at hS
  have HS := Lib.hid hS
  clear hS
  go_wp2_with fail
  refine HS.out.mono ?_
  rintro e w' ⟨rfl, m, rfl⟩
  have HL := Lib.hid (HL.out.frm (Z := []) (((Frm.refl _ w17).alloc (.cells #[.int .i64 2, .int .i64 1] 3)).drew m) (by simp) (by simp))
  go_wp2_with fail
  refine (kSlots_any HL.out).mono ?_
  rintro e w' ⟨rfl, rfl⟩
  go_wp2
  go_ret
  exact ⟨rfl, (HF1.out.alloc _).drew _⟩

end Go.Proofs.Ytmfeaancnkadbaa
