/- The tas law's own check of what must come, whatever the arguments are: it returns true. (Printed by gen_tasawake.py.) -/
import Derived.Test.YtmfeaancnkadbaaTasNew
namespace Go.Proofs.Ytmfeaancnkadbaa
open Go.RowKit

theorem ArAt.to {w : World} {ab wb : Nat} {A B : AR} (h : ArAt w ab wb A) (e : A = B) : ArAt w ab wb B := e ▸ h
theorem HAt.rowAt {w : World} {b base : Nat} {zs : List Int} (h : HAt w b (zs.map (Value.int .i64)) 3) (hb : base ≤ b) (hl : zs.length ≤ maxLen) : RowAt w base (.slice (some ⟨b, 0, none⟩) zs.length zs.length) zs := by
  refine ⟨_, _, rfl, hl, fun _ => ⟨b, 0, hb, rfl, fun i hi => ?_⟩⟩
  rw [Nat.zero_add]
  refine h.cell ?_
  rw [List.getElem?_map, List.getElem?_eq_getElem hi]
  simp
/-- spots from a list -/
def ofL (L : List (List Int)) : Nat → Nat → Int := fun i t => (L[i]?.getD [])[t]?.getD 0
theorem LkAt.to {w : World} {lb ab sb word n : Nat} {most : Int} {S T : Nat → Nat → Int} (h : LkAt w lb ab sb word n most S) (e : ∀ i, i < n → ∀ t, t < 4 → S i t = T i t) : LkAt w lb ab sb word n most T := by
  have hc : spC n S = spC n T := by
    unfold spC
    apply List.map_congr_left
    intro j hj
    have hj' := List.mem_range.1 hj
    rw [e (j / 4) (by omega) (j % 4) (by omega)]
  have hr := h.row
  rw [hc] at hr
  exact { h with row := hr }
theorem LkAt.to2 {w : World} {lb ab sb word : Nat} {most : Int} {S T : Nat → Nat → Int} (h : LkAt w lb ab sb word 2 most S) (e : ∀ i, i < 2 → ∀ t, t < 4 → S i t = T i t) : LkAt w lb ab sb word 2 most T := h.to e

theorem spotPc (a b c d : Int) (W : World) : (Instr.field 30 (.agg #[.int .i64 a, .int .i64 b, .int .i64 c, .int .i64 d]) 0).run Try.prog W = .ok (.int .i64 a) W := by kernel_rfl

set_option maxRecDepth 100000 in
set_option maxHeartbeats 4000000 in
theorem tsawake (w : World) : Calls Try.prog 16 #[] w fun e w' => e = .returned (.bool true) ∧ Frm [] w w' := by
  have fd := spotPc
  go_enter Try.func16, Try.ntmps16
  go_wp2_with fail
  refine (New_any 9 _).mono ?_
  rintro e w1 ⟨rfl, hA, hF1⟩
  have HA := Lib.hid (hA.to (B := ⟨[0, 0, 0, 0, 0, 0, 0, 0, 0], 0, 0, 0, 0, false⟩) (by kernel_rfl))
  have HF1 := Lib.hid hF1
  have hsz1 := hF1.size
  have hab := hA.box.lt
  clear hA hF1
  go_wp2_with fail
  refine (lNew_ok (most := 4) HA.out 2 (by omega) (by omega) (by omega) (by omega) (by kernel_rfl)).mono ?_
  rintro e w2 ⟨lb, sb, rfl, hlb, hsb, hL, hA, hF⟩
  have HA := Lib.hid (hA.to (B := ⟨[0, 0, 0, 0, 0, 0, 0, 0, 0], 1, 0, 0, 0, false⟩) (by kernel_rfl))
  have HL : Hid (LkAt w2 lb (w.heap.size + 1) sb 1 2 4 (ofL [[0, 0, 0, 0], [0, 0, 0, 0]])) := Lib.hid (hL.to2 (of_decide_eq_true (by kernel_rfl)))
  have HF1 := Lib.hid (HF1.out.widen hF (by simp))
  clear hA hF hL
  have v1 : tAskOk 2 (ofL [[0, 0, 0, 0], [0, 0, 0, 0]]) 0 = true := by kernel_rfl
  go_wp2_with fail
  refine (lAsk_any HL.out 0).mono ?_
  rw [v1]
  rintro e w3 ⟨rfl, hL, hF⟩
  have HA := Lib.hid (HA.out.frm hF (by simp <;> omega) (by simp <;> omega))
  have HL := Lib.hid (hL.to2 (T := (ofL [[1, 1, 0, 0], [0, 0, 0, 0]])) (of_decide_eq_true (by kernel_rfl)))
  have HF1 := Lib.hid (HF1.out.widen hF (by simp <;> omega))
  clear hL hF v1
  have v1 : tAskOk 2 (ofL [[1, 1, 0, 0], [0, 0, 0, 0]]) 1 = true := by kernel_rfl
  go_wp2_with fail
  refine (lAsk_any HL.out 1).mono ?_
  rw [v1]
  rintro e w4 ⟨rfl, hL, hF⟩
  have HA := Lib.hid (HA.out.frm hF (by simp <;> omega) (by simp <;> omega))
  have HL := Lib.hid (hL.to2 (T := (ofL [[1, 1, 0, 0], [1, 1, 0, 0]])) (of_decide_eq_true (by kernel_rfl)))
  have HF1 := Lib.hid (HF1.out.widen hF (by simp <;> omega))
  clear hL hF v1
  have v1 : tAskOk 2 (ofL [[1, 1, 0, 0], [1, 1, 0, 0]]) 1 = false := by kernel_rfl
  go_wp2_with fail
  refine (lAsk_any HL.out 1).mono ?_
  rw [v1]
  rintro e w5 ⟨rfl, hL, hF⟩
  have HA := Lib.hid (HA.out.frm hF (by simp <;> omega) (by simp <;> omega))
  have HL := Lib.hid (hL.to2 (T := (ofL [[1, 1, 0, 0], [1, 1, 0, 0]])) (of_decide_eq_true (by kernel_rfl)))
  have HF1 := Lib.hid (HF1.out.widen hF (by simp <;> omega))
  clear hL hF v1
  have v1 : tStepR 2 1 (ofL [[1, 1, 0, 0], [1, 1, 0, 0]]) ⟨[0, 0, 0, 0, 0, 0, 0, 0, 0], 1, 0, 0, 0, false⟩ 0 = true := by kernel_rfl
  go_wp2_with fail
  refine (lStep_any HL.out HA.out (by omega) 0).mono ?_
  rw [v1]
  rintro e w6 ⟨rfl, hL, hA, hF⟩
  have HA := Lib.hid (hA.to (B := ⟨[1, 0, 0, 0, 0, 0, 0, 0, 0], 1, 1, 4, 1, true⟩) (by kernel_rfl))
  have HL := Lib.hid (hL.to2 (T := (ofL [[10, 1, 0, 0], [1, 1, 0, 0]])) (of_decide_eq_true (by kernel_rfl)))
  have HF1 := Lib.hid (HF1.out.widen hF (by simp <;> omega))
  clear hL hA hF v1
  have v1 : tStepR 2 1 (ofL [[10, 1, 0, 0], [1, 1, 0, 0]]) ⟨[1, 0, 0, 0, 0, 0, 0, 0, 0], 1, 1, 4, 1, true⟩ 1 = false := by kernel_rfl
  go_wp2_with fail
  refine (lStep_any HL.out HA.out (by omega) 1).mono ?_
  rw [v1]
  rintro e w7 ⟨rfl, hL, hA, hF⟩
  have HA := Lib.hid (hA.to (B := ⟨[1, 0, 0, 0, 0, 0, 0, 0, 0], 1, 2, 4, 1, false⟩) (by kernel_rfl))
  have HL := Lib.hid (hL.to2 (T := (ofL [[10, 1, 0, 0], [2, 2, 1, 0]])) (of_decide_eq_true (by kernel_rfl)))
  have HF1 := Lib.hid (HF1.out.widen hF (by simp <;> omega))
  clear hL hA hF v1
  have v1 : spV 2 (ofL [[10, 1, 0, 0], [2, 2, 1, 0]]) 1 = .agg #[.int .i64 2, .int .i64 2, .int .i64 1, .int .i64 0] := by kernel_rfl
  go_wp2_with fail
  refine (lSpot_any HL.out 1).mono ?_
  rw [v1]
  rintro e w8 ⟨rfl, hF⟩
  have HA := Lib.hid (HA.out.frm hF (by simp) (by simp))
  have HL := Lib.hid (HL.out.frm hF (by simp) (by simp))
  have HF1 := Lib.hid (HF1.out.trans hF)
  clear hF v1
  have v1 : tStepR 2 1 (ofL [[10, 1, 0, 0], [2, 2, 1, 0]]) ⟨[1, 0, 0, 0, 0, 0, 0, 0, 0], 1, 2, 4, 1, false⟩ 1 = false := by kernel_rfl
  go_wp2_with fail
  refine (lStep_any HL.out HA.out (by omega) 1).mono ?_
  rw [v1]
  rintro e w9 ⟨rfl, hL, hA, hF⟩
  have HA := Lib.hid (hA.to (B := ⟨[1, 0, 0, 0, 0, 0, 0, 0, 0], 1, 2, 4, 1, false⟩) (by kernel_rfl))
  have HL := Lib.hid (hL.to2 (T := (ofL [[10, 1, 0, 0], [1, 2, 0, 0]])) (of_decide_eq_true (by kernel_rfl)))
  have HF1 := Lib.hid (HF1.out.widen hF (by simp <;> omega))
  clear hL hA hF v1
  have v1 : spV 2 (ofL [[10, 1, 0, 0], [1, 2, 0, 0]]) 1 = .agg #[.int .i64 1, .int .i64 2, .int .i64 0, .int .i64 0] := by kernel_rfl
  go_wp2_with fail
  refine (lSpot_any HL.out 1).mono ?_
  rw [v1]
  rintro e w10 ⟨rfl, hF⟩
  have HA := Lib.hid (HA.out.frm hF (by simp) (by simp))
  have HL := Lib.hid (HL.out.frm hF (by simp) (by simp))
  have HF1 := Lib.hid (HF1.out.trans hF)
  clear hF v1
  have v1 : tLeaveOk 2 (ofL [[10, 1, 0, 0], [1, 2, 0, 0]]) 1 = false := by kernel_rfl
  go_wp2_with fail
  refine (lLeave_any HL.out 1).mono ?_
  rw [v1]
  rintro e w11 ⟨rfl, hL, hF⟩
  have HA := Lib.hid (HA.out.frm hF (by simp <;> omega) (by simp <;> omega))
  have HL := Lib.hid (hL.to2 (T := (ofL [[10, 1, 0, 0], [1, 2, 0, 0]])) (of_decide_eq_true (by kernel_rfl)))
  have HF1 := Lib.hid (HF1.out.widen hF (by simp <;> omega))
  clear hL hF v1
  have v1 : tLeaveOk 2 (ofL [[10, 1, 0, 0], [1, 2, 0, 0]]) 0 = true := by kernel_rfl
  go_wp2_with fail
  refine (lLeave_any HL.out 0).mono ?_
  rw [v1]
  rintro e w12 ⟨rfl, hL, hF⟩
  have HA := Lib.hid (HA.out.frm hF (by simp <;> omega) (by simp <;> omega))
  have HL := Lib.hid (hL.to2 (T := (ofL [[11, 1, 0, 0], [1, 2, 0, 0]])) (of_decide_eq_true (by kernel_rfl)))
  have HF1 := Lib.hid (HF1.out.widen hF (by simp <;> omega))
  clear hL hF v1
  have v1 : tStepR 2 1 (ofL [[11, 1, 0, 0], [1, 2, 0, 0]]) ⟨[1, 0, 0, 0, 0, 0, 0, 0, 0], 1, 2, 4, 1, false⟩ 0 = true := by kernel_rfl
  go_wp2_with fail
  refine (lStep_any HL.out HA.out (by omega) 0).mono ?_
  rw [v1]
  rintro e w13 ⟨rfl, hL, hA, hF⟩
  have HA := Lib.hid (hA.to (B := ⟨[0, 0, 0, 0, 0, 0, 0, 0, 0], 1, 3, 2, 1, true⟩) (by kernel_rfl))
  have HL := Lib.hid (hL.to2 (T := (ofL [[0, 1, 0, 0], [1, 2, 0, 0]])) (of_decide_eq_true (by kernel_rfl)))
  have HF1 := Lib.hid (HF1.out.widen hF (by simp <;> omega))
  clear hL hA hF v1
  have v1 : tStepR 2 1 (ofL [[0, 1, 0, 0], [1, 2, 0, 0]]) ⟨[0, 0, 0, 0, 0, 0, 0, 0, 0], 1, 3, 2, 1, true⟩ 1 = true := by kernel_rfl
  go_wp2_with fail
  refine (lStep_any HL.out HA.out (by omega) 1).mono ?_
  rw [v1]
  rintro e w14 ⟨rfl, hL, hA, hF⟩
  have HA := Lib.hid (hA.to (B := ⟨[2, 0, 0, 0, 0, 0, 0, 0, 0], 1, 4, 4, 1, true⟩) (by kernel_rfl))
  have HL := Lib.hid (hL.to2 (T := (ofL [[0, 1, 0, 0], [10, 2, 0, 0]])) (of_decide_eq_true (by kernel_rfl)))
  have HF1 := Lib.hid (HF1.out.widen hF (by simp <;> omega))
  clear hL hA hF v1
  go_wp2_with fail
  refine (lNew_none _ 0 (by omega) _).mono ?_
  rintro e w' ⟨rfl, rfl⟩
  have v1 : spV 2 (ofL [[0, 1, 0, 0], [10, 2, 0, 0]]) 0 = .agg #[.int .i64 0, .int .i64 1, .int .i64 0, .int .i64 0] := by kernel_rfl
  go_wp2_with fail
  refine (lSpot_any HL.out 0).mono ?_
  rw [v1]
  rintro e w15 ⟨rfl, hF⟩
  have HA := Lib.hid (HA.out.frm hF (by simp) (by simp))
  have HL := Lib.hid (HL.out.frm hF (by simp) (by simp))
  have HF1 := Lib.hid (HF1.out.trans hF)
  clear hF v1
  have v1 : spV 2 (ofL [[0, 1, 0, 0], [10, 2, 0, 0]]) 1 = .agg #[.int .i64 10, .int .i64 2, .int .i64 0, .int .i64 0] := by kernel_rfl
  go_wp2_with fail
  refine (lSpot_any HL.out 1).mono ?_
  rw [v1]
  rintro e w16 ⟨rfl, hF⟩
  have HA := Lib.hid (HA.out.frm hF (by simp) (by simp))
  have HL := Lib.hid (HL.out.frm hF (by simp) (by simp))
  have HF1 := Lib.hid (HF1.out.trans hF)
  clear hF v1
  go_wp2_with fail
  refine (Words_any HA.out).mono ?_
  rintro e w17 ⟨v, rfl, hO, hF⟩
  have HF1 := Lib.hid (HF1.out.trans hF)
  have HL := Lib.hid (HL.out.frm hF (by simp) (by simp))
  have HO := Lib.hid hO
  clear hF hO
  have hS := Same_any (w17.alloc (.cells #[.int .i64 2] 3)) (HO.out.frm ((Frm.refl [] _).alloc _) (by simp)).row
    (HAt.rowAt (zs := [2]) (HAt.new w17 #[.int .i64 2] 3) (Nat.le_refl _) (by decide))
  rw [show decide ((⟨[2, 0, 0, 0, 0, 0, 0, 0, 0], 1, 4, 4, 1, true⟩ : AR).words = [2]) = true from by decide] at hS
  have HS := Lib.hid hS
  clear hS
  go_wp2_with fail
  refine HS.out.mono ?_
  rintro e w' ⟨rfl, m, rfl⟩
  have HL := Lib.hid (HL.out.frm (Z := []) (((Frm.refl _ w17).alloc (.cells #[.int .i64 2] 3)).drew m) (by simp) (by simp))
  go_wp2_with fail
  refine (lSlots_any HL.out).mono ?_
  rintro e w' ⟨rfl, rfl⟩
  go_wp2
  go_ret
  exact ⟨rfl, (HF1.out.alloc _).drew _⟩

end Go.Proofs.Ytmfeaancnkadbaa
