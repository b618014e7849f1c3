/- The malthus laws' own check of what must come, whatever the arguments are: it returns true. (Printed by gen_malawake.py.) -/
import Derived.Test.YtacogelejffbhaaMalLit
namespace Go.Proofs.Ytacogelejffbhaa
open Go.RowKit
set_option maxRecDepth 100000 in
set_option maxHeartbeats 4000000 in
theorem mawake (w : World) : Calls Try.prog 27 #[] w fun e w' => e = .returned (.bool true) ∧ Frm [] w w' := by
  go_enter Try.func27, Try.ntmps27
  go_wp2_with fail
  refine (New_any 99 _).mono ?_
  rintro e w1 ⟨rfl, hA, hF1⟩
  have HA := Lib.hid (show ArAt w1 (w.heap.size + 1) w.heap.size (AR.fresh 99) from hA)
  have HF1 := Lib.hid hF1
  have hsz1 := hF1.size
  have hab := hA.box.lt
  clear hA hF1
  go_wp2_with fail
  have g1 := (HAt.new w1 #[.int .i64 (-1)] 3).alloc (.cells #[.int .i64 0, .int .i64 0, .int .i64 0] 3)
  have g2 := HAt.new (w1.alloc (.cells #[.int .i64 (-1)] 3)) #[.int .i64 0, .int .i64 0, .int .i64 0] 3
  have hf2 : Frm [] w1 ((w1.alloc (.cells #[.int .i64 (-1)] 3)).alloc (.cells #[.int .i64 0, .int .i64 0, .int .i64 0] 3)) := ((Frm.refl _ _).alloc _).alloc _
  rw [show (w1.alloc (.cells #[.int .i64 (-1)] 3)).heap.size = w1.heap.size + 1 from by simp] at g2
  have r1 : RowAt _ 0 (.slice (some ⟨w1.heap.size, 0, none⟩) 1 1) [-1] := HAt.rowAt (zs := [-1]) (base := 0) g1 (Nat.zero_le _) (by unfold maxLen; simp)
  have r2 : RowAt _ 0 (.slice (some ⟨w1.heap.size + 1, 0, none⟩) 3 3) [0, 0, 0] := HAt.rowAt (zs := [0, 0, 0]) (base := 0) g2 (Nat.zero_le _) (by unfold maxLen; simp)
  have hq := mNew_ok (bud := 1) (HA.out.frm hf2 (by simp) (by simp)) r1 r2 (tok_one [0, 0, 0] (by simp) (by simp) (by simp)) (by omega) (by decide) ?hz (by decide)
  case hz =>
    intro i hi
    have e : ({ AR.fresh 99 with taken := (AR.fresh 99).taken + (4 + 3 * [(0 : Int), 0, 0].length) } : AR).ws = List.replicate 99 0 := rfl
    unfold AR.get
    split
    · rw [e, List.getElem?_replicate]; split <;> rfl
    · rfl
  have HQ := Lib.hid hq
  have HF1 := Lib.hid (HF1.out.trans hf2)
  clear g1 g2 hf2 r1 r2 hq
  refine HQ.out.mono ?_
  rintro e w2 ⟨lb, sb, bb, rfl, hlb, hsb, hbb, hL, hM, hF⟩
  have hA0 : ({ AR.fresh 99 with taken := (AR.fresh 99).taken + (4 + 3 * [(0 : Int), 0, 0].length) } : AR) = aw0.A := by kernel_rfl
  rw [ofL_zero, hA0] at hL hM
  have HL := Lib.hid (show MLk w2 lb sb bb (w.heap.size + 1) w.heap.size 1 9 3 1 aw0 from hL)
  have HM := Lib.hid (show MInv 1 9 3 aw0 from hM)
  have hw1 : w.heap.size ≤ w1.heap.size := hsz1
  have hlb' : w.heap.size ≤ lb := by simp at hlb; omega
  have hsb' : w.heap.size ≤ sb := by simp at hsb; omega
  have hbb' : w.heap.size ≤ bb := by simp at hbb; omega
  have HF1 := Lib.hid (HF1.out.widen hF (by simp))
  clear hL hM hF hA0 HQ hlb hsb hbb
  go_wp2_with fail
  refine (mAsk_any HL.out 0).mono ?_
  rw [awb0, aws0]
  rintro e w3 ⟨rfl, hL, hF⟩
  have HL := Lib.hid hL
  have HM := Lib.hid (show MInv 1 9 3 aw1 from by have := HM.out.ask 0; rwa [aws0] at this)
  have HF1 := Lib.hid (HF1.out.widen hF (by simp; omega))
  clear hL hF
  go_wp2_with fail
  refine (mSt_any HL.out HM.out 0 3 (by omega)).mono ?_
  rw [awt1]
  rintro e w4 ⟨rfl, hL, hF⟩
  have HL := Lib.hid hL
  have HM := Lib.hid (show MInv 1 9 3 aw4 from by have := mSt_inv (bud := 1) 3 HM.out 0; rwa [awt1] at this)
  have HF1 := Lib.hid (HF1.out.widen hF (by simp; omega))
  clear hL hF
  go_wp2_with fail
  refine (mAsk_any HL.out 1).mono ?_
  rw [awb4, aws4]
  rintro e w5 ⟨rfl, hL, hF⟩
  have HL := Lib.hid hL
  have HM := Lib.hid (show MInv 1 9 3 aw5 from by have := HM.out.ask 1; rwa [aws4] at this)
  have HF1 := Lib.hid (HF1.out.widen hF (by simp; omega))
  clear hL hF
  go_wp2_with fail
  refine (mSt_any HL.out HM.out 1 6 (by omega)).mono ?_
  rw [awt5]
  rintro e w6 ⟨rfl, hL, hF⟩
  have HL := Lib.hid hL
  have HM := Lib.hid (show MInv 1 9 3 aw11 from by have := mSt_inv (bud := 1) 6 HM.out 1; rwa [awt5] at this)
  have HF1 := Lib.hid (HF1.out.widen hF (by simp; omega))
  clear hL hF
  go_wp2_with fail
  refine (mAsk_any HL.out 2).mono ?_
  rw [awb11, aws11]
  rintro e w7 ⟨rfl, hL, hF⟩
  have HL := Lib.hid hL
  have HM := Lib.hid (show MInv 1 9 3 aw12 from by have := HM.out.ask 2; rwa [aws11] at this)
  have HF1 := Lib.hid (HF1.out.widen hF (by simp; omega))
  clear hL hF
  go_wp2_with fail
  refine (mSt_any HL.out HM.out 2 6 (by omega)).mono ?_
  rw [awt12]
  rintro e w8 ⟨rfl, hL, hF⟩
  have HL := Lib.hid hL
  have HM := Lib.hid (show MInv 1 9 3 aw18 from by have := mSt_inv (bud := 1) 6 HM.out 2; rwa [awt12] at this)
  have HF1 := Lib.hid (HF1.out.widen hF (by simp; omega))
  clear hL hF
  go_wp2_with fail
  refine (mLeave_any HL.out 0).mono ?_
  rw [awb18, aws18]
  rintro e w9 ⟨rfl, hL, hF⟩
  have HL := Lib.hid hL
  have HM := Lib.hid (show MInv 1 9 3 aw19 from by have := HM.out.leave 0; rwa [aws18] at this)
  have HF1 := Lib.hid (HF1.out.widen hF (by simp; omega))
  clear hL hF
  go_wp2_with fail
  refine (mSt_any HL.out HM.out 0 8 (by omega)).mono ?_
  rw [awt19]
  rintro e w10 ⟨rfl, hL, hF⟩
  have HL := Lib.hid hL
  have HM := Lib.hid (show MInv 1 9 3 aw27 from by have := mSt_inv (bud := 1) 8 HM.out 0; rwa [awt19] at this)
  have HF1 := Lib.hid (HF1.out.widen hF (by simp; omega))
  clear hL hF
  go_wp2_with fail
  refine (mSt_any HL.out HM.out 1 3 (by omega)).mono ?_
  rw [awt27]
  rintro e w11 ⟨rfl, hL, hF⟩
  have HL := Lib.hid hL
  have HM := Lib.hid (show MInv 1 9 3 aw30 from by have := mSt_inv (bud := 1) 3 HM.out 1; rwa [awt27] at this)
  have HF1 := Lib.hid (HF1.out.widen hF (by simp; omega))
  clear hL hF
  go_wp2_with fail
  refine (mSt_any HL.out HM.out 2 1 (by omega)).mono ?_
  rw [awt30]
  rintro e w12 ⟨rfl, hL, hF⟩
  have HL := Lib.hid hL
  have HM := Lib.hid (show MInv 1 9 3 aw31 from by have := mSt_inv (bud := 1) 1 HM.out 2; rwa [awt30] at this)
  have HF1 := Lib.hid (HF1.out.widen hF (by simp; omega))
  clear hL hF
  go_wp2_with fail
  refine (mLeave_any HL.out 2).mono ?_
  rw [awb31, aws31]
  rintro e w13 ⟨rfl, hL, hF⟩
  have HL := Lib.hid hL
  have HM := Lib.hid (show MInv 1 9 3 aw32 from by have := HM.out.leave 2; rwa [aws31] at this)
  have HF1 := Lib.hid (HF1.out.widen hF (by simp; omega))
  clear hL hF
  go_wp2_with fail
  refine (mSt_any HL.out HM.out 2 9 (by omega)).mono ?_
  rw [awt32]
  rintro e w14 ⟨rfl, hL, hF⟩
  have HL := Lib.hid hL
  have HM := Lib.hid (show MInv 1 9 3 aw41 from by have := mSt_inv (bud := 1) 9 HM.out 2; rwa [awt32] at this)
  have HF1 := Lib.hid (HF1.out.widen hF (by simp; omega))
  clear hL hF
  go_wp2_with fail
  refine (mSt_any HL.out HM.out 1 1 (by omega)).mono ?_
  rw [awt41]
  rintro e w15 ⟨rfl, hL, hF⟩
  have HL := Lib.hid hL
  have HM := Lib.hid (show MInv 1 9 3 aw42 from by have := mSt_inv (bud := 1) 1 HM.out 1; rwa [awt41] at this)
  have HF1 := Lib.hid (HF1.out.widen hF (by simp; omega))
  clear hL hF
  go_wp2_with fail
  refine (mLeave_any HL.out 1).mono ?_
  rw [awb42, aws42]
  rintro e w16 ⟨rfl, hL, hF⟩
  have HL := Lib.hid hL
  have HM := Lib.hid (show MInv 1 9 3 aw43 from by have := HM.out.leave 1; rwa [aws42] at this)
  have HF1 := Lib.hid (HF1.out.widen hF (by simp; omega))
  clear hL hF
  go_wp2_with fail
  refine (mSt_any HL.out HM.out 1 4 (by omega)).mono ?_
  rw [awt43]
  rintro e w17 ⟨rfl, hL, hF⟩
  have HL := Lib.hid hL
  have HM := Lib.hid (show MInv 1 9 3 aw47 from by have := mSt_inv (bud := 1) 4 HM.out 1; rwa [awt43] at this)
  have HF1 := Lib.hid (HF1.out.widen hF (by simp; omega))
  clear hL hF
  go_wp2_with fail
  have g1 := (HAt.new w17 #[.int .i64 (-1)] 3).alloc (.cells #[.int .i64 0] 3)
  have g2 := HAt.new (w17.alloc (.cells #[.int .i64 (-1)] 3)) #[.int .i64 0] 3
  have hf2 : Frm [] w17 ((w17.alloc (.cells #[.int .i64 (-1)] 3)).alloc (.cells #[.int .i64 0] 3)) := ((Frm.refl _ _).alloc _).alloc _
  rw [show (w17.alloc (.cells #[.int .i64 (-1)] 3)).heap.size = w17.heap.size + 1 from by simp] at g2
  have r1 : RowAt _ 0 (.slice (some ⟨w17.heap.size, 0, none⟩) 1 1) [-1] := HAt.rowAt (zs := [-1]) (base := 0) g1 (Nat.zero_le _) (by unfold maxLen; simp)
  have r2 : RowAt _ 0 (.slice (some ⟨w17.heap.size + 1, 0, none⟩) 1 1) [0] := HAt.rowAt (zs := [0]) (base := 0) g2 (Nat.zero_le _) (by unfold maxLen; simp)
  have HQ := Lib.hid (mNew_bud (bud := -1) r1 r2 (tok_one [0] (by simp) (by simp) (by simp)) (some ⟨w.heap.size + 1, 0, none⟩) (by omega))
  have HLX := Lib.hid (HL.out.frm hf2 (by simp))
  have HF2 := Lib.hid (HF1.out.trans hf2)
  clear g1 g2 hf2 r1 r2
  refine HQ.out.mono ?_
  rintro e wz ⟨rfl, hF⟩
  have HLZ := Lib.hid (HLX.out.frm hF (by simp))
  have HF3 := Lib.hid (HF2.out.trans hF)
  clear hF HQ HF2 HLX HL HM HF1
  go_wp2_with fail
  refine (mThreads_any HLZ.out).mono ?_
  rintro e w' ⟨rfl, rfl⟩
  go_wp2_with fail
  refine (most_any _ 3 1).mono ?_
  rw [show mMost 3 1 = 18 from by kernel_rfl]
  rintro e w' ⟨rfl, rfl⟩
  go_wp2_with fail
  refine (most_any _ 33 1).mono ?_
  rw [show mMost 33 1 = 0 from by kernel_rfl]
  rintro e w' ⟨rfl, rfl⟩
  go_wp2
  go_ret
  exact ⟨rfl, HF3.out⟩
end Go.Proofs.Ytacogelejffbhaa
