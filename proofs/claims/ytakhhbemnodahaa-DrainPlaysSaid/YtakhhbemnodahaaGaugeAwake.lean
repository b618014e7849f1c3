/- The gauge law's own check of what must come, whatever the arguments are: it returns true. -/
import Derived.Test.YtakhhbemnodahaaGaugeOps
import Derived.Test.YtakhhbemnodahaaArenaWords
import Derived.Test.YtakhhbemnodahaaSame
namespace Go.Proofs.Ytakhhbemnodahaa
open Go.RowKit

theorem ArAt.to {w : World} {ab wb : Nat} {A B : AR} (h : ArAt w ab wb A) (e : A = B) : ArAt w ab wb B := e ▸ h

/-- a row of ints known whole reads as its numbers -/
theorem HAt.rowAt {w : World} {b base : Nat} {zs : List Int} (h : HAt w b (zs.map (Value.int .i64)) 3) (hb : base ≤ b) (hl : zs.length ≤ maxLen) : RowAt w base (.slice (some ⟨b, 0, none⟩) zs.length zs.length) zs := by
  refine ⟨_, _, rfl, hl, fun _ => ⟨b, 0, hb, rfl, fun i hi => ?_⟩⟩
  rw [Nat.zero_add]
  refine h.cell ?_
  rw [List.getElem?_map, List.getElem?_eq_getElem hi]
  simp

set_option maxHeartbeats 1000000 in
theorem gawake (w : World) : Calls Try.prog 12 #[] w fun e w' => e = .returned (.bool true) ∧ Frm [] w w' := by
  go_enter Try.func12, Try.ntmps12
  go_wp2_with fail
  refine (New_any 5 _).mono ?_
  rintro e w1 ⟨rfl, hA, hF1⟩
  have HA := Lib.hid (hA.to (B := ⟨[0, 0, 0, 0, 0], 0, 0, 0, 0, false⟩) (by kernel_rfl))
  have HF1 := Lib.hid hF1
  have hsz1 := hF1.size
  have hab := hA.box.lt
  clear hA hF1
  go_wp2_with fail
  refine (gNew_ok HA.out 2 (by kernel_rfl)).mono ?_
  rintro e w2 ⟨gb, rfl, hgb, hG, hA, hF⟩
  have HA := Lib.hid (hA.to (B := ⟨[0, 0, 0, 0, 0], 4, 0, 0, 0, false⟩) (by kernel_rfl))
  have HG : Hid (GgAt w2 gb (w.heap.size + 1) 1 2) := Lib.hid hG
  have HF2 := Lib.hid (HF1.out.widen hF (by simp))
  clear hA hF hG
  go_wp2_with fail
  refine (gEnter_any HG.out HA.out 1).mono ?_
  rintro e w3 ⟨rfl, hA, hF⟩
  have HA := Lib.hid (hA.to (B := ⟨[0, 0, 1, 0, 0], 4, 1, 5, 3, true⟩) (by kernel_rfl))
  have HG := Lib.hid (HG.out.frm hF (by simp; omega))
  have HF3 := Lib.hid (HF2.out.widen hF (by simp))
  clear hA hF
  go_wp2_with fail
  refine (gEnter_any HG.out HA.out 1).mono ?_
  rintro e w4 ⟨rfl, hA, hF⟩
  have HA := Lib.hid (hA.to (B := ⟨[0, 0, 2, 0, 0], 4, 2, 5, 3, true⟩) (by kernel_rfl))
  have HG := Lib.hid (HG.out.frm hF (by simp; omega))
  have HF4 := Lib.hid (HF3.out.widen hF (by simp))
  clear hA hF
  go_wp2_with fail
  refine (gExit_any HG.out HA.out 1).mono ?_
  rintro e w5 ⟨rfl, hA, hF⟩
  have HA := Lib.hid (hA.to (B := ⟨[0, 0, 2, 1, 0], 4, 3, 5, 4, true⟩) (by kernel_rfl))
  have HG := Lib.hid (HG.out.frm hF (by simp; omega))
  have HF5 := Lib.hid (HF4.out.widen hF (by simp))
  clear hA hF
  go_wp2_with fail
  refine (gExit_any HG.out HA.out 2).mono ?_
  rintro e w6 ⟨rfl, hA, hF⟩
  have HA := Lib.hid (hA.to (B := ⟨[0, 0, 2, 1, 0], 4, 3, 5, 4, true⟩) (by kernel_rfl))
  have HG := Lib.hid (HG.out.frm hF (by simp; omega))
  have HF6 := Lib.hid (HF5.out.widen hF (by simp))
  clear hA hF
  have he : (⟨[0, 0, 2, 1, 0], 4, 3, 5, 4, true⟩ : AR).gNewE 1 = 3 := by kernel_rfl
  go_wp2_with fail
  refine (gNew_bad HA.out 1 (by rw [he]; decide)).mono ?_
  rw [he]
  rintro e w7 ⟨rfl, hA, hF⟩
  have HA := Lib.hid hA
  have HG := Lib.hid (HG.out.frm hF (by simp; omega))
  have HF7 := Lib.hid (HF6.out.widen hF (by simp))
  clear hA hF he
  have v1 : (⟨[0, 0, 2, 1, 0], 4, 3, 5, 4, true⟩ : AR).gGet 1 2 1 0 = 2 := by kernel_rfl
  have v2 : (⟨[0, 0, 2, 1, 0], 4, 4, 1, 3, false⟩ : AR).gGet 1 2 1 1 = 1 := by kernel_rfl
  have v3 : gWord 1 2 1 = 3 := by kernel_rfl
  have v4 : gWord 1 2 2 = 0 := by kernel_rfl
  go_wp2_with fail
  refine (gIn_any HG.out HA.out 1).mono ?_
  rw [v1]
  rintro e w8 ⟨rfl, hA, hF⟩
  have HA := Lib.hid (hA.to (B := ⟨[0, 0, 2, 1, 0], 4, 4, 1, 3, false⟩) (by kernel_rfl))
  have HG := Lib.hid (HG.out.frm hF (by simp; omega))
  have HF8 := Lib.hid (HF7.out.widen hF (by simp))
  clear hA hF v1
  go_wp2_with fail
  refine (gOut_any HG.out HA.out 1).mono ?_
  rw [v2]
  rintro e w9 ⟨rfl, hA, hF⟩
  have HA := Lib.hid (hA.to (B := ⟨[0, 0, 2, 1, 0], 4, 5, 1, 4, false⟩) (by kernel_rfl))
  have HG := Lib.hid (HG.out.frm hF (by simp; omega))
  have HF9 := Lib.hid (HF8.out.widen hF (by simp))
  clear hA hF v2
  go_wp2_with fail
  refine (gWord_any HG.out 1).mono ?_
  rw [v3]
  rintro e w' ⟨rfl, rfl⟩
  go_wp2_with fail
  refine (gWord_any HG.out 2).mono ?_
  rw [v4]
  rintro e w' ⟨rfl, rfl⟩
  clear v3 v4
  go_wp2_with fail
  refine (gNodes_any HG.out).mono ?_
  rintro e w' ⟨rfl, rfl⟩
  go_wp2_with fail
  refine (Ops_any HA.out).mono ?_
  rintro e w' ⟨rfl, rfl⟩
  go_wp2_with fail
  refine (Words_any HA.out).mono ?_
  rintro e w10 ⟨v, rfl, hO, hF⟩
  have HF10 := Lib.hid (HF9.out.trans hF)
  have HO := Lib.hid hO
  clear hF hO
  have hS := Same_any (w10.alloc (.cells #[.int .i64 0, .int .i64 0, .int .i64 2, .int .i64 1] 3)) (HO.out.frm ((Frm.refl [] _).alloc _) (by simp)).row
    (HAt.rowAt (zs := [0, 0, 2, 1]) (HAt.new w10 #[.int .i64 0, .int .i64 0, .int .i64 2, .int .i64 1] 3) (Nat.le_refl _) (by decide))
  rw [show decide ((⟨[0, 0, 2, 1, 0], 4, 5, 1, 4, false⟩ : AR).words = [0, 0, 2, 1]) = true from by decide] at hS
  have HS := Lib.hid hS
  clear hS
  go_wp2_with fail
  refine HS.out.mono ?_
  rintro e w' ⟨rfl, n, rfl⟩
  go_wp2
  go_ret
  exact ⟨rfl, (HF10.out.alloc _).drew _⟩

end Go.Proofs.Ytakhhbemnodahaa
