/- The bench laws' own check of what must come, whatever the arguments are: it returns true. (Printed by gen_benchawake.py.) -/
import Derived.Test.YtacogelejffbhaaBenchNew
import Derived.Test.YtacogelejffbhaaArenaWords
import Derived.Test.YtacogelejffbhaaSame
namespace Go.Proofs.Ytacogelejffbhaa
open Go.RowKit
theorem ArAt.to {w : World} {ab wb : Nat} {A B : AR} (h : ArAt w ab wb A) (e : A = B) : ArAt w ab wb B := e ▸ h
theorem HAt.rowAt {w : World} {b base : Nat} {zs : List Int} (h : HAt w b (zs.map (Value.int .i64)) 3) (hb : base ≤ b) (hl : zs.length ≤ maxLen) : RowAt w base (.slice (some ⟨b, 0, none⟩) zs.length zs.length) zs := by
  refine ⟨_, _, rfl, hl, fun _ => ⟨b, 0, hb, rfl, fun i hi => ?_⟩⟩
  rw [Nat.zero_add]
  refine h.cell ?_
  rw [List.getElem?_map, List.getElem?_eq_getElem hi]
  simp
/-- spots from a list -/
def ofL (L : List (List Int)) : Nat → Nat → Int := fun i t => (L[i]?.getD [])[t]?.getD 0
theorem BnAt.to {w : World} {bb ab first things : Nat} {B C : BK} (h : BnAt w bb ab first things B) (e : B = C) : BnAt w bb ab first things C := e ▸ h

set_option maxRecDepth 100000 in
set_option maxHeartbeats 4000000 in
theorem bawake (w : World) : Calls Try.prog 9 #[] w fun e w' => e = .returned (.bool true) ∧ Frm [] w w' := by
  go_enter Try.func9, Try.ntmps9
  go_wp2_with fail
  refine (New_any 9 _).mono ?_
  rintro e w1 ⟨rfl, hA, hF1⟩
  have HA := Lib.hid (hA.to (B := ⟨[0, 0, 0, 0, 0, 0, 0, 0, 0], 0, 0, 0, 0, false⟩) (by kernel_rfl))
  have HF1 := Lib.hid hF1
  have hsz1 := hF1.size
  have hab := hA.box.lt
  clear hA hF1
  go_wp2_with fail
  refine (bNew_ok HA.out 3 (by omega) (by omega) (by kernel_rfl)).mono ?_
  rintro e w2 ⟨bb, rfl, hbb, hB, hA, hF⟩
  have HA := Lib.hid (hA.to (B := ⟨[0, 0, 0, 0, 0, 0, 0, 0, 0], 5, 0, 0, 0, false⟩) (by kernel_rfl))
  have HB : Hid (BnAt w2 bb (w.heap.size + 1) 1 3 ⟨0, 0, 0, 0⟩) := Lib.hid hB
  have HF1 := Lib.hid (HF1.out.widen hF (by simp))
  clear hA hF hB
  have v1 : bPutOk 3 ⟨0, 0, 0, 0⟩ 3 = true := by kernel_rfl
  go_wp2_with fail
  refine (bPut_any HB.out 3).mono ?_
  rw [v1]
  rintro e w3 ⟨rfl, hB, hF⟩
  have HB := Lib.hid (hB.to (C := ⟨1, 3, 0, 0⟩) (by kernel_rfl))
  have HA := Lib.hid (HA.out.frm hF (by simp; omega) (by simp; omega))
  have HF1 := Lib.hid (HF1.out.widen hF (by simp; omega))
  clear hB hF v1
  have v1 : bPutOk 3 ⟨1, 3, 0, 0⟩ 1 = false := by kernel_rfl
  go_wp2_with fail
  refine (bPut_any HB.out 1).mono ?_
  rw [v1]
  rintro e w4 ⟨rfl, hB, hF⟩
  have HB := Lib.hid (hB.to (C := ⟨1, 3, 0, 0⟩) (by kernel_rfl))
  have HA := Lib.hid (HA.out.frm hF (by simp; omega) (by simp; omega))
  have HF1 := Lib.hid (HF1.out.widen hF (by simp; omega))
  clear hB hF v1
  have v1 : ((⟨1, 3, 0, 0⟩ : BK).step != 0) = true := by kernel_rfl
  go_wp2_with fail
  refine (Busy_any HB.out).mono ?_
  rw [v1]
  rintro e w' ⟨rfl, rfl⟩
  clear v1
  have v1 : bThru 1 8 1 ⟨[0, 0, 0, 0, 0, 0, 0, 0, 0], 5, 0, 0, 0, false⟩ ⟨1, 3, 0, 0⟩ = (4, ⟨[3, 3, 0, 0, 0, 0, 0, 0, 0], 5, 4, 2, 2, true⟩, ⟨0, 3, 0, 0⟩) := by kernel_rfl
  go_wp2_with fail
  refine (bThru_any HB.out HA.out (by omega)).mono ?_
  rw [v1]
  rintro e w5 ⟨rfl, hB, hA, hF⟩
  have HB := Lib.hid hB
  have HA := Lib.hid hA
  have HF1 := Lib.hid (HF1.out.widen hF (by simp; omega))
  clear hB hA hF v1
  have v1 : bPutOk 3 ⟨0, 3, 0, 0⟩ 1 = true := by kernel_rfl
  go_wp2_with fail
  refine (bPut_any HB.out 1).mono ?_
  rw [v1]
  rintro e w6 ⟨rfl, hB, hF⟩
  have HB := Lib.hid (hB.to (C := ⟨1, 1, 0, 0⟩) (by kernel_rfl))
  have HA := Lib.hid (HA.out.frm hF (by simp; omega) (by simp; omega))
  have HF1 := Lib.hid (HF1.out.widen hF (by simp; omega))
  clear hB hF v1
  have v1 : bThru 1 8 1 ⟨[3, 3, 0, 0, 0, 0, 0, 0, 0], 5, 4, 2, 2, true⟩ ⟨1, 1, 0, 0⟩ = (4, ⟨[3, 1, 0, 0, 1, 0, 0, 0, 0], 5, 8, 2, 2, true⟩, ⟨0, 1, 3, 0⟩) := by kernel_rfl
  go_wp2_with fail
  refine (bThru_any HB.out HA.out (by omega)).mono ?_
  rw [v1]
  rintro e w7 ⟨rfl, hB, hA, hF⟩
  have HB := Lib.hid hB
  have HA := Lib.hid hA
  have HF1 := Lib.hid (HF1.out.widen hF (by simp; omega))
  clear hB hA hF v1
  have v1 : bTakeOk ⟨0, 1, 3, 0⟩ = true := by kernel_rfl
  go_wp2_with fail
  refine (bTake_any HB.out).mono ?_
  rw [v1]
  rintro e w8 ⟨rfl, hB, hF⟩
  have HB := Lib.hid (hB.to (C := ⟨5, 1, 3, 0⟩) (by kernel_rfl))
  have HA := Lib.hid (HA.out.frm hF (by simp; omega) (by simp; omega))
  have HF1 := Lib.hid (HF1.out.widen hF (by simp; omega))
  clear hB hF v1
  have v1 : bThru 1 8 1 ⟨[3, 1, 0, 0, 1, 0, 0, 0, 0], 5, 8, 2, 2, true⟩ ⟨5, 1, 3, 0⟩ = (3, ⟨[1, 1, 0, 0, 1, 0, 0, 0, 0], 5, 11, 2, 1, true⟩, ⟨0, 3, 1, 3⟩) := by kernel_rfl
  go_wp2_with fail
  refine (bThru_any HB.out HA.out (by omega)).mono ?_
  rw [v1]
  rintro e w9 ⟨rfl, hB, hA, hF⟩
  have HB := Lib.hid hB
  have HA := Lib.hid hA
  have HF1 := Lib.hid (HF1.out.widen hF (by simp; omega))
  clear hB hA hF v1
  go_wp2_with fail
  refine (Got_any HB.out).mono ?_
  rintro e w' ⟨rfl, rfl⟩
  have v1 : bTakeOk ⟨0, 3, 1, 3⟩ = true := by kernel_rfl
  go_wp2_with fail
  refine (bTake_any HB.out).mono ?_
  rw [v1]
  rintro e w10 ⟨rfl, hB, hF⟩
  have HB := Lib.hid (hB.to (C := ⟨5, 1, 1, 3⟩) (by kernel_rfl))
  have HA := Lib.hid (HA.out.frm hF (by simp; omega) (by simp; omega))
  have HF1 := Lib.hid (HF1.out.widen hF (by simp; omega))
  clear hB hF v1
  have v1 : bThru 1 8 1 ⟨[1, 1, 0, 0, 1, 0, 0, 0, 0], 5, 11, 2, 1, true⟩ ⟨5, 1, 1, 3⟩ = (4, ⟨[0, 0, 0, 0, 1, 0, 0, 0, 0], 5, 15, 2, 2, true⟩, ⟨0, 1, 0, 1⟩) := by kernel_rfl
  go_wp2_with fail
  refine (bThru_any HB.out HA.out (by omega)).mono ?_
  rw [v1]
  rintro e w11 ⟨rfl, hB, hA, hF⟩
  have HB := Lib.hid hB
  have HA := Lib.hid hA
  have HF1 := Lib.hid (HF1.out.widen hF (by simp; omega))
  clear hB hA hF v1
  go_wp2_with fail
  refine (Got_any HB.out).mono ?_
  rintro e w' ⟨rfl, rfl⟩
  have v1 : bTakeOk ⟨0, 1, 0, 1⟩ = true := by kernel_rfl
  go_wp2_with fail
  refine (bTake_any HB.out).mono ?_
  rw [v1]
  rintro e w12 ⟨rfl, hB, hF⟩
  have HB := Lib.hid (hB.to (C := ⟨5, 1, 0, 1⟩) (by kernel_rfl))
  have HA := Lib.hid (HA.out.frm hF (by simp; omega) (by simp; omega))
  have HF1 := Lib.hid (HF1.out.widen hF (by simp; omega))
  clear hB hF v1
  have v1 : bThru 1 8 1 ⟨[0, 0, 0, 0, 1, 0, 0, 0, 0], 5, 15, 2, 2, true⟩ ⟨5, 1, 0, 1⟩ = (1, ⟨[0, 0, 0, 0, 1, 0, 0, 0, 0], 5, 16, 1, 1, false⟩, ⟨0, 0, 0, 0⟩) := by kernel_rfl
  go_wp2_with fail
  refine (bThru_any HB.out HA.out (by omega)).mono ?_
  rw [v1]
  rintro e w13 ⟨rfl, hB, hA, hF⟩
  have HB := Lib.hid hB
  have HA := Lib.hid hA
  have HF1 := Lib.hid (HF1.out.widen hF (by simp; omega))
  clear hB hA hF v1
  go_wp2_with fail
  refine (Got_any HB.out).mono ?_
  rintro e w' ⟨rfl, rfl⟩
  have v1 : ((⟨0, 0, 0, 0⟩ : BK).step != 0) = false := by kernel_rfl
  go_wp2_with fail
  refine (Busy_any HB.out).mono ?_
  rw [v1]
  rintro e w' ⟨rfl, rfl⟩
  clear v1
  have v1 : bPutOk 3 ⟨0, 0, 0, 0⟩ 4 = false := by kernel_rfl
  go_wp2_with fail
  refine (bPut_any HB.out 4).mono ?_
  rw [v1]
  rintro e w14 ⟨rfl, hB, hF⟩
  have HB := Lib.hid (hB.to (C := ⟨0, 0, 0, 0⟩) (by kernel_rfl))
  have HA := Lib.hid (HA.out.frm hF (by simp; omega) (by simp; omega))
  have HF1 := Lib.hid (HF1.out.widen hF (by simp; omega))
  clear hB hF v1
  go_wp2_with fail
  refine (bNew_big _ 33 (by omega) _).mono ?_
  rintro e w' ⟨rfl, rfl⟩
  go_wp2_with fail
  refine (Words_any HA.out).mono ?_
  rintro e w27 ⟨v, rfl, hO, hF⟩
  have HF1 := Lib.hid (HF1.out.trans hF)
  have HO := Lib.hid hO
  clear hF hO
  have hS := Same_any (w27.alloc (.cells #[.int .i64 0, .int .i64 0, .int .i64 0, .int .i64 0, .int .i64 1] 3)) (HO.out.frm ((Frm.refl [] _).alloc _) (by simp)).row
    (HAt.rowAt (zs := [0, 0, 0, 0, 1]) (HAt.new w27 #[.int .i64 0, .int .i64 0, .int .i64 0, .int .i64 0, .int .i64 1] 3) (Nat.le_refl _) (by decide))
  rw [show decide ((⟨[0, 0, 0, 0, 1, 0, 0, 0, 0], 5, 16, 1, 1, false⟩ : AR).words = [0, 0, 0, 0, 1]) = true from by decide] at hS
  have HS := Lib.hid hS
  clear hS
  go_wp2_with fail
  refine HS.out.mono ?_
  rintro e w' ⟨rfl, m, rfl⟩
  go_wp2
  go_ret
  exact ⟨rfl, (HF1.out.alloc _).drew _⟩

end Go.Proofs.Ytacogelejffbhaa
