/- The turn law's own check of what must come, whatever the arguments are: it returns true. -/
import Derived.Test.YtakhhbemnodahaaTurnNew
import Derived.Test.YtakhhbemnodahaaGaugeAwake
namespace Go.Proofs.Ytakhhbemnodahaa
open Go.RowKit

set_option maxHeartbeats 1000000 in
theorem tawake (w : World) : Calls Try.prog 31 #[] w fun e w' => e = .returned (.bool true) ∧ Frm [] w w' := by
  go_enter Try.func31, Try.ntmps31
  go_wp2_with fail
  refine (New_any 3 _).mono ?_
  rintro e w1 ⟨rfl, hA, hF1⟩
  have HA := Lib.hid (hA.to (B := ⟨[0, 0, 0], 0, 0, 0, 0, false⟩) (by kernel_rfl))
  have HF1 := Lib.hid hF1
  have hsz1 := hF1.size
  have hab := hA.box.lt
  clear hA hF1
  go_wp2_with fail
  refine (tNew_ok HA.out 2 (by kernel_rfl)).mono ?_
  rintro e w2 ⟨tb, rfl, htb, hT, hA, hF⟩
  have HA := Lib.hid (hA.to (B := ⟨[0, 0, 0], 2, 0, 0, 0, false⟩) (by kernel_rfl))
  have HT : Hid (TrAt w2 tb (w.heap.size + 1) 1 2 (fun _ => 0) 0) := Lib.hid hT
  have HF2 := Lib.hid (HF1.out.widen hF (by simp))
  clear hA hF hT
  have v1 : tNext 2 (fun _ => 0) 0 = 65537 := by kernel_rfl
  go_wp2_with fail
  refine (tNext_any HT.out (by omega) 0).mono ?_
  rw [v1]
  rintro e w3 ⟨rfl, n1, rfl⟩
  have HA := Lib.hid (HA.out.frm (S := []) ((Frm.refl _ w2).drew n1) (by simp) (by simp))
  have HT := Lib.hid (HT.out.frm (S := []) ((Frm.refl _ w2).drew n1) (by simp))
  have HF3 := Lib.hid (HF2.out.drew n1)
  generalize w2.drewN n1 = w3 at *
  have v2 : (⟨[0, 0, 0], 2, 0, 0, 0, false⟩ : AR).tIs 1 2 65537 = false := by kernel_rfl
  go_wp2_with fail
  refine (tIs_any HT.out HA.out (by omega) 65537 (by unfold I64; omega)).mono ?_
  rw [v2]
  rintro e w4 ⟨rfl, hA, hF⟩
  have HA := Lib.hid (hA.to (B := ⟨[0, 0, 0], 2, 1, 1, 1, false⟩) (by kernel_rfl))
  have HT := Lib.hid (HT.out.frm hF (by simp; omega))
  have HF4 := Lib.hid (HF3.out.widen hF (by simp))
  clear hA hF v1 v2
  go_wp2_with fail
  refine (tDone_any HT.out HA.out (by omega) (by omega) 0).mono ?_
  rintro e w5 ⟨rfl, hA, hT, hF⟩
  have HA := Lib.hid (hA.to (B := ⟨[1, 0, 0], 2, 2, 5, 1, true⟩) (by kernel_rfl))
  have HT := Lib.hid hT
  have HF5 := Lib.hid (HF4.out.widen hF (by simp; omega))
  clear hA hT hF
  have he : (⟨[1, 0, 0], 2, 2, 5, 1, true⟩ : AR).tNewE 2 = 3 := by kernel_rfl
  go_wp2_with fail
  refine (tNew_bad HA.out 2 (by rw [he]; decide)).mono ?_
  rw [he]
  rintro e w6 ⟨rfl, hA, hF⟩
  have HA := Lib.hid hA
  have HT := Lib.hid (HT.out.frm hF (by simp; omega))
  have HF6 := Lib.hid (HF5.out.widen hF (by simp))
  clear hA hF he
  have v2 : (⟨[1, 0, 0], 2, 2, 5, 1, true⟩ : AR).tIs 1 2 65537 = true := by kernel_rfl
  go_wp2_with fail
  refine (tIs_any HT.out HA.out (by omega) 65537 (by unfold I64; omega)).mono ?_
  rw [v2]
  rintro e w7 ⟨rfl, hA, hF⟩
  have HA := Lib.hid (hA.to (B := ⟨[1, 0, 0], 2, 3, 1, 1, false⟩) (by kernel_rfl))
  have HT := Lib.hid (HT.out.frm hF (by simp; omega))
  have HF7 := Lib.hid (HF6.out.widen hF (by simp))
  clear hA hF v2
  have v3 : tNext 2 (tUp 2 (fun _ => 0) 0) 0 = 131073 := by kernel_rfl
  go_wp2_with fail
  refine (tNext_any HT.out (by omega) 0).mono ?_
  rw [v3]
  rintro e w8 ⟨rfl, n2, rfl⟩
  have HA := Lib.hid (HA.out.frm (S := []) ((Frm.refl _ w7).drew n2) (by simp) (by simp))
  have HT := Lib.hid (HT.out.frm (S := []) ((Frm.refl _ w7).drew n2) (by simp))
  have HF8 := Lib.hid (HF7.out.drew n2)
  generalize w7.drewN n2 = w8 at *
  go_wp2_with fail
  refine (tNext_any HT.out (by omega) 0).mono ?_
  rw [v3]
  rintro e w9 ⟨rfl, n3, rfl⟩
  have HA := Lib.hid (HA.out.frm (S := []) ((Frm.refl _ w8).drew n3) (by simp) (by simp))
  have HT := Lib.hid (HT.out.frm (S := []) ((Frm.refl _ w8).drew n3) (by simp))
  have HF9 := Lib.hid (HF8.out.drew n3)
  generalize w8.drewN n3 = w9 at *
  have v2 : (⟨[1, 0, 0], 2, 3, 1, 1, false⟩ : AR).tIs 1 2 131073 = false := by kernel_rfl
  go_wp2_with fail
  refine (tIs_any HT.out HA.out (by omega) 131073 (by unfold I64; omega)).mono ?_
  rw [v2]
  rintro e w10 ⟨rfl, hA, hF⟩
  have HA := Lib.hid (hA.to (B := ⟨[1, 0, 0], 2, 4, 1, 1, false⟩) (by kernel_rfl))
  have HT := Lib.hid (HT.out.frm hF (by simp; omega))
  have HF10 := Lib.hid (HF9.out.widen hF (by simp))
  clear hA hF v2 v3
  have v2 : (⟨[1, 0, 0], 2, 4, 1, 1, false⟩ : AR).tIs 1 2 0 = false := by kernel_rfl
  go_wp2_with fail
  refine (tIs_any HT.out HA.out (by omega) 0 (by unfold I64; omega)).mono ?_
  rw [v2]
  rintro e w11 ⟨rfl, hA, hF⟩
  have HA := Lib.hid (hA.to (B := ⟨[1, 0, 0], 2, 4, 1, 1, false⟩) (by kernel_rfl))
  have HT := Lib.hid (HT.out.frm hF (by simp; omega))
  have HF11 := Lib.hid (HF10.out.widen hF (by simp))
  clear hA hF v2
  go_wp2_with fail
  refine (Words_any HA.out).mono ?_
  rintro e w12 ⟨v, rfl, hO, hF⟩
  have HF12 := Lib.hid (HF11.out.trans hF)
  have HA := Lib.hid (HA.out.frm hF (by simp) (by simp))
  have HT := Lib.hid (HT.out.frm hF (by simp))
  have HO := Lib.hid hO
  clear hF hO
  have hS := Same_any (w12.alloc (.cells #[.int .i64 1, .int .i64 0] 3)) (HO.out.frm ((Frm.refl [] _).alloc _) (by simp)).row
    (HAt.rowAt (zs := [1, 0]) (HAt.new w12 #[.int .i64 1, .int .i64 0] 3) (Nat.le_refl _) (by decide))
  rw [show decide ((⟨[1, 0, 0], 2, 4, 1, 1, false⟩ : AR).words = [1, 0]) = true from by decide] at hS
  have HS := Lib.hid hS
  clear hS
  go_wp2_with fail
  refine HS.out.mono ?_
  rintro e w' ⟨rfl, n, rfl⟩
  have HA := Lib.hid (HA.out.frm (S := []) (((Frm.refl _ w12).alloc (.cells #[.int .i64 1, .int .i64 0] 3)).drew n) (by simp) (by simp))
  have HT := Lib.hid (HT.out.frm (S := []) (((Frm.refl _ w12).alloc (.cells #[.int .i64 1, .int .i64 0] 3)).drew n) (by simp))
  go_wp2_with fail
  refine (Ops_any HA.out).mono ?_
  rintro e w' ⟨rfl, rfl⟩
  go_wp2_with fail
  refine (tSlots_any HT.out).mono ?_
  rintro e w' ⟨rfl, rfl⟩
  go_wp2
  go_ret
  exact ⟨rfl, (HF12.out.alloc _).drew _⟩

end Go.Proofs.Ytakhhbemnodahaa
