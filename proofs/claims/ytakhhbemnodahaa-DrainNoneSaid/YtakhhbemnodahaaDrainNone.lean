/- The walk of the law DrainNone: it returns true, and writes nothing that was there. -/
import Derived.Test.YtakhhbemnodahaaDrainAwake
namespace Go.Proofs.Ytakhhbemnodahaa
open Go.RowKit

/-- a drain without a gauge that began at a, up to b, when i steps are done -/
def dState (a b : Nat) (once : Bool) (i : Nat) : DR := ⟨(a : Int) + (i / 2 : Nat), b, once, decide (i < 2 * (b - a)), decide (i % 2 = 1), 0, decide (i = 2 * (b - a))⟩
theorem dState_begin (a b : Nat) (once : Bool) : DR.zero.begins a b once = dState a b once 0 := by
  unfold DR.begins DR.over dState DR.zero
  by_cases h : (b : Int) ≤ a
  · rw [if_pos h]
    have h1 : ¬ 0 < 2 * (b - a) := by omega
    have h2 : 0 = 2 * (b - a) := by omega
    simp [h1, h2.symm]
  · rw [if_neg h]
    have h1 : 0 < 2 * (b - a) := by omega
    have h2 : ¬ 0 = 2 * (b - a) := by omega
    simp; omega
theorem dState_step {a b : Nat} {once : Bool} {i : Nat} (hi : i < 2 * (b - a)) (hb : b < 256) : (dState a b once i).step 0 0 = dState a b once (i + 1) ∧ (dState a b once i).stepR 0 = decide (i + 1 = 2 * (b - a)) := by
  rcases (by omega : i % 2 = 0 ∨ i % 2 = 1) with h | h
  · have h1 : ¬ i % 2 = 1 := by omega
    have h2 : (i + 1) % 2 = 1 := by omega
    have h3 : i + 1 < 2 * (b - a) := by omega
    have h4 : ¬ i + 1 = 2 * (b - a) := by omega
    have h5 : ¬ i = 2 * (b - a) := by omega
    have h6 : (i + 1) / 2 = i / 2 := by omega
    refine ⟨?_, ?_⟩
    · unfold DR.step DR.first dState
      rw [decide_eq_true hi, decide_eq_false h1, if_pos rfl, if_neg (by simp), decide_eq_true h2, decide_eq_true h3, decide_eq_false h4, decide_eq_false h5, h6]
    · unfold DR.stepR dState
      rw [decide_eq_false h1, decide_eq_false h4]; simp
  · have h2 : ¬ (i + 1) % 2 = 1 := by omega
    have h5 : ¬ i = 2 * (b - a) := by omega
    have h6 : (i + 1) / 2 = i / 2 + 1 := by omega
    have hw : wrap64 ((a : Int) + (i / 2 : Nat) + 1) = (a : Int) + ((i + 1) / 2 : Nat) := by unfold wrap64; omega
    by_cases he : i + 1 = 2 * (b - a)
    · have ht : (a : Int) + ((i + 1) / 2 : Nat) = (b : Int) := by omega
      have h3 : ¬ i + 1 < 2 * (b - a) := by omega
      refine ⟨?_, ?_⟩
      · unfold DR.step DR.last DR.over dState
        simp only [decide_eq_true hi, decide_eq_true h, if_true, hw, ht, decide_eq_false h2, decide_eq_false h3, decide_eq_true he]
      · unfold DR.stepR DR.lastR dState
        simp only [decide_eq_true hi, decide_eq_true h, if_true, hw, ht, decide_eq_true he]; simp
    · have ht : ¬ (a : Int) + ((i + 1) / 2 : Nat) = (b : Int) := by omega
      have h3 : i + 1 < 2 * (b - a) := by omega
      refine ⟨?_, ?_⟩
      · unfold DR.step DR.last DR.over dState
        simp only [decide_eq_true hi, decide_eq_true h, if_true, hw, if_neg ht, decide_eq_false h2, decide_eq_true h3, decide_eq_false he, decide_eq_false h5]
      · unfold DR.stepR DR.lastR dState
        simp only [decide_eq_true hi, decide_eq_true h, if_true, hw, decide_eq_false ht, decide_eq_false he]; simp

set_option maxRecDepth 100000 in
set_option maxHeartbeats 4000000 in
theorem drainNone_walk (x y : Int) (once : Bool) (w : World) (hx : U8 x) (hy : U8 y) :
    Calls Try.prog 8 #[.int .u8 x, .int .u8 y, .bool once] w fun e w' => e = .returned (.bool true) ∧ Below w.heap.size w w' := by
  have i0 : ∀ (B C : Nat) (W : World), (Instr.index 72 (.agg #[.pointer (some ⟨B, 0, none⟩), .pointer (some ⟨C, 0, none⟩)]) (.int .i64 0)).run Try.prog W = .ok (.pointer (some ⟨B, 0, none⟩)) W := fun _ _ _ => by kernel_rfl
  have i1 : ∀ (B C : Nat) (W : World), (Instr.index 72 (.agg #[.pointer (some ⟨B, 0, none⟩), .pointer (some ⟨C, 0, none⟩)]) (.int .i64 1)).run Try.prog W = .ok (.pointer (some ⟨C, 0, none⟩)) W := fun _ _ _ => by kernel_rfl
  unfold U8 at hx hy
  obtain ⟨a, rfl⟩ := Int.eq_ofNat_of_zero_le hx.1
  obtain ⟨b, rfl⟩ := Int.eq_ofNat_of_zero_le hy.1
  obtain ⟨hx0, hx1⟩ := hx
  obtain ⟨hy0, hy1⟩ := hy
  go_enter Try.func8, Try.ntmps8
  go_wp2_with fail
  generalize hW : World.alloc _ _ = W
  have hz : DrAt W w.heap.size none DR.zero := by subst hW; exact HAt.new w _ _
  have hf : Frm [] w W := by subst hW; exact (Frm.refl _ _).alloc _
  have hzl := HAt.lt hz
  have HZ := Lib.hid hz
  have HF := Lib.hid hf
  clear hW hz hf
  refine (dNew_any none W).mono ?_
  rintro e w1 ⟨rfl, hD, hF⟩
  have hyl := HAt.lt hD
  have HY := Lib.hid hD
  have HZ := Lib.hid (HZ.out.frm hF (by simp))
  have HF := Lib.hid (HF.out.trans hF)
  clear hD hF
  obtain ⟨zb, hzb⟩ : ∃ zb, w.heap.size = zb := ⟨_, rfl⟩
  obtain ⟨yb, hyb⟩ : ∃ yb, W.heap.size = yb := ⟨_, rfl⟩
  rw [hzb] at HZ hzl
  rw [hyb] at HY hyl hzl
  go_wp2_with fail
  go_loopw [15] (fun i wx => ∃ k : Nat, i = .int .i64 k ∧ k ≤ 2 ∧ (k = 0 → DrAt wx zb none DR.zero) ∧ (k ≤ 1 → DrAt wx yb none DR.zero) ∧ Frm [] w wx) (fun i _ => 2 - (intOf i).toNat)
  case atStart => exact ⟨0, rfl, by omega, fun _ => HZ.out, fun _ => HY.out, HF.out⟩
  case round =>
    obtain ⟨k, rfl, hk, hzk, hyk, hfk⟩ := hrel
    have HFK := Lib.hid hfk
    rcases (by omega : k = 0 ∨ k = 1 ∨ k = 2) with rfl | rfl | rfl
    · have HD := Lib.hid (hzk rfl)
      have HO := Lib.hid (hyk (by omega))
      clear hzk hyk hfk
      go_wp2_with fail
      refine (dBegin_any HD.out a b once).mono ?_
      rintro e x1 ⟨rfl, hD, hF⟩
      rw [dState_begin] at hD
      have HD1 := Lib.hid hD
      have HO := Lib.hid (HO.out.frm hF (by simp; omega))
      have HF1 := Lib.hid (HFK.out.widen hF (by simp; omega))
      clear hD hF
      go_wp2_with fail
      go_loopw [10, 11] (fun o i wx => ∃ j : Nat, o = .bool (decide (j = 2 * (b - a))) ∧ i = .int .i64 j ∧ j ≤ 2 * (b - a) ∧ DrAt wx zb none (dState a b once j) ∧ DrAt wx yb none DR.zero ∧ Frm [] w wx) (fun _ i _ => 2 * (b - a) - (intOf i).toNat)
      case atStart =>
        refine ⟨0, ?_, rfl, by omega, HD1.out, HO.out, HF1.out⟩
        congr 1
        rw [Bool.eq_iff_iff]; simp; omega
      case round =>
        obtain ⟨j, rfl, rfl, hj, hD, hO, hfj⟩ := hrel
        have HD2 := Lib.hid hD
        have HO2 := Lib.hid hO
        have HF2 := Lib.hid hfj
        clear hD hfj hO
        by_cases hlt : j < 2 * (b - a)
        · have d1 : decide (j = 2 * (b - a)) = false := by simp; omega
          have l1 : (j : Int) < 600 := by omega
          have hst := dState_step (once := once) hlt (by omega)
          have hS := dStep_none HD2.out
          rw [hst.1, hst.2] at hS
          have HS := Lib.hid hS
          clear hS hst
          go_wp2_with fail
          refine HS.out.mono ?_
          rintro e x2 ⟨rfl, hD, hF⟩
          have HD3 := Lib.hid hD
          have HO3 := Lib.hid (HO2.out.frm hF (by simp; omega))
          have HF3 := Lib.hid (HF2.out.widen hF (by simp; omega))
          clear hD hF
          go_wp2_with fail
          go_roundw
          case rel => exact ⟨j + 1, rfl, by go_num, by omega, HD3.out, HO3.out, HF3.out⟩
          case measure => simp [intOf]; omega
        · have hje : j = 2 * (b - a) := by omega
          have d1 : decide (j = 2 * (b - a)) = true := by simpa using hje
          have hE : DrAt wr zb none ⟨(a : Int) + (b - a : Nat), b, once, false, false, 0, true⟩ := by
            have h := HD2.out
            unfold dState at h
            rw [hje, decide_eq_false (show ¬ 2 * (b - a) < 2 * (b - a) from by omega), decide_eq_false (show ¬ 2 * (b - a) % 2 = 1 from by omega), decide_eq_true rfl, show 2 * (b - a) / 2 = b - a from by omega] at h
            exact h
          have HE := Lib.hid hE
          clear hE hje HD2
          go_wp2_with fail
          refine (dClear_any HE.out).mono ?_
          rintro e x2 ⟨rfl, rfl⟩
          go_wp2_with fail
          refine (dBusy_any HE.out).mono ?_
          rintro e x2 ⟨rfl, rfl⟩
          rcases Nat.lt_or_ge a b with hab | hab
          · have hat : (a : Int) + ((b - a : Nat) : Int) = b := by omega
            rw [hat] at HE
            have e1 : decide ((a : Int) < b) = true := by simpa using hab
            have e2 : decide (a < b) = true := by simpa using hab
            have e3 : ¬ b ≤ a := by omega
            have e4 : ¬ (b : Int) ≤ a := by omega
            have e5 : (a : Int) < b := by omega
            clear hat
            go_wp2_with fail
            refine (dAt_any HE.out).mono ?_
            rintro e x2 ⟨rfl, rfl⟩
            go_wp2_with fail
            go_roundw
            case rel => exact ⟨1, rfl, by omega, fun h => by omega, fun _ => HO2.out, HF2.out⟩
            case measure => simp [intOf]
          · have hat : (a : Int) + ((b - a : Nat) : Int) = a := by omega
            rw [hat] at HE
            have e1 : decide ((a : Int) < b) = false := by simp; omega
            have e2 : decide (a < b) = false := by simp; omega
            have e3 : ¬ a < b := by omega
            have e4 : ¬ (a : Int) < b := by omega
            have e5 : (b : Int) ≤ a := by omega
            clear hat
            go_wp2_with fail
            refine (dAt_any HE.out).mono ?_
            rintro e x2 ⟨rfl, rfl⟩
            go_wp2_with fail
            go_roundw
            case rel => exact ⟨1, rfl, by omega, fun h => by omega, fun _ => HO2.out, HF2.out⟩
            case measure => simp [intOf]
    · have HD := Lib.hid (hyk (by omega))
      clear hzk hyk hfk
      go_wp2_with fail
      refine (dBegin_any HD.out a b once).mono ?_
      rintro e x1 ⟨rfl, hD, hF⟩
      rw [dState_begin] at hD
      have HD1 := Lib.hid hD
      have HF1 := Lib.hid (HFK.out.widen hF (by simp; omega))
      clear hD hF
      go_wp2_with fail
      go_loopw [10, 11] (fun o i wx => ∃ j : Nat, o = .bool (decide (j = 2 * (b - a))) ∧ i = .int .i64 j ∧ j ≤ 2 * (b - a) ∧ DrAt wx yb none (dState a b once j) ∧ Frm [] w wx) (fun _ i _ => 2 * (b - a) - (intOf i).toNat)
      case atStart =>
        refine ⟨0, ?_, rfl, by omega, HD1.out, HF1.out⟩
        congr 1
        rw [Bool.eq_iff_iff]; simp; omega
      case round =>
        obtain ⟨j, rfl, rfl, hj, hD, hfj⟩ := hrel
        have HD2 := Lib.hid hD
        have HF2 := Lib.hid hfj
        clear hD hfj
        by_cases hlt : j < 2 * (b - a)
        · have d1 : decide (j = 2 * (b - a)) = false := by simp; omega
          have l1 : (j : Int) < 600 := by omega
          have hst := dState_step (once := once) hlt (by omega)
          have hS := dStep_none HD2.out
          rw [hst.1, hst.2] at hS
          have HS := Lib.hid hS
          clear hS hst
          go_wp2_with fail
          refine HS.out.mono ?_
          rintro e x2 ⟨rfl, hD, hF⟩
          have HD3 := Lib.hid hD
          have HF3 := Lib.hid (HF2.out.widen hF (by simp; omega))
          clear hD hF
          go_wp2_with fail
          go_roundw
          case rel => exact ⟨j + 1, rfl, by go_num, by omega, HD3.out, HF3.out⟩
          case measure => simp [intOf]; omega
        · have hje : j = 2 * (b - a) := by omega
          have d1 : decide (j = 2 * (b - a)) = true := by simpa using hje
          have hE : DrAt wr yb none ⟨(a : Int) + (b - a : Nat), b, once, false, false, 0, true⟩ := by
            have h := HD2.out
            unfold dState at h
            rw [hje, decide_eq_false (show ¬ 2 * (b - a) < 2 * (b - a) from by omega), decide_eq_false (show ¬ 2 * (b - a) % 2 = 1 from by omega), decide_eq_true rfl, show 2 * (b - a) / 2 = b - a from by omega] at h
            exact h
          have HE := Lib.hid hE
          clear hE hje HD2
          go_wp2_with fail
          refine (dClear_any HE.out).mono ?_
          rintro e x2 ⟨rfl, rfl⟩
          go_wp2_with fail
          refine (dBusy_any HE.out).mono ?_
          rintro e x2 ⟨rfl, rfl⟩
          rcases Nat.lt_or_ge a b with hab | hab
          · have hat : (a : Int) + ((b - a : Nat) : Int) = b := by omega
            rw [hat] at HE
            have e1 : decide ((a : Int) < b) = true := by simpa using hab
            have e2 : decide (a < b) = true := by simpa using hab
            have e3 : ¬ b ≤ a := by omega
            have e4 : ¬ (b : Int) ≤ a := by omega
            have e5 : (a : Int) < b := by omega
            clear hat
            go_wp2_with fail
            refine (dAt_any HE.out).mono ?_
            rintro e x2 ⟨rfl, rfl⟩
            go_wp2_with fail
            go_roundw
            case rel => exact ⟨2, rfl, by omega, fun h => by omega, fun h => by omega, HF2.out⟩
            case measure => simp [intOf]
          · have hat : (a : Int) + ((b - a : Nat) : Int) = a := by omega
            rw [hat] at HE
            have e1 : decide ((a : Int) < b) = false := by simp; omega
            have e2 : decide (a < b) = false := by simp; omega
            have e3 : ¬ a < b := by omega
            have e4 : ¬ (a : Int) < b := by omega
            have e5 : (b : Int) ≤ a := by omega
            clear hat
            go_wp2_with fail
            refine (dAt_any HE.out).mono ?_
            rintro e x2 ⟨rfl, rfl⟩
            go_wp2_with fail
            go_roundw
            case rel => exact ⟨2, rfl, by omega, fun h => by omega, fun h => by omega, HF2.out⟩
            case measure => simp [intOf]
    · clear hzk hyk hfk
      have hb := dBegin_nil 3 3 once wr
      rw [show decide ((3 : Int) ≤ 3) = true from rfl] at hb
      have HB := Lib.hid hb
      clear hb
      go_wp2_with fail
      refine HB.out.mono ?_
      rintro e x2 ⟨rfl, rfl⟩
      go_wp2_with fail
      refine (dStep_nil wr).mono ?_
      rintro e x2 ⟨rfl, rfl⟩
      go_wp2_with fail
      refine (dBusy_nil wr).mono ?_
      rintro e x2 ⟨rfl, rfl⟩
      go_wp2_with fail
      refine (dAt_nil wr).mono ?_
      rintro e x2 ⟨rfl, rfl⟩
      go_wp2_with fail
      refine (dClear_nil wr).mono ?_
      rintro e x2 ⟨rfl, rfl⟩
      go_wp2_with fail
      refine (dawake _).mono ?_
      rintro e w1 ⟨rfl, hF⟩
      have HF1 := Lib.hid (HFK.out.trans hF)
      clear hF
      go_wp2
      go_ret
      exact ⟨rfl, HF1.out.below (Nat.le_refl _) (by simp)⟩

end Go.Proofs.Ytakhhbemnodahaa
