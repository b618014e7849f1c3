/- The walk of the law GaugeNone: it returns true, and writes nothing that was there. -/
import Derived.Test.YtakhhbemnodahaaGaugeAwake
namespace Go.Proofs.Ytakhhbemnodahaa
open Go.RowKit

set_option maxHeartbeats 1000000 in
theorem gaugeNone_walk (x : Int) (w : World) (_ : I64 x) :
    Calls Try.prog 5 #[.int .i64 x] w fun e w' => e = .returned (.bool true) ∧ Below w.heap.size w w' := by
  have i0 : ∀ (B : Nat) (W : World), (Instr.index 56 (.agg #[.pointer none, .pointer (some ⟨B, 0, none⟩)]) (.int .i64 0)).run Try.prog W = .ok (.pointer none) W := fun _ _ => by kernel_rfl
  have i1 : ∀ (B : Nat) (W : World), (Instr.index 56 (.agg #[.pointer none, .pointer (some ⟨B, 0, none⟩)]) (.int .i64 1)).run Try.prog W = .ok (.pointer (some ⟨B, 0, none⟩)) W := fun _ _ => by kernel_rfl
  go_enter Try.func5, Try.ntmps5
  go_wp2_with fail
  generalize hW : World.alloc _ _ = W
  have hz : HAt W w.heap.size [.pointer none, .int .i64 0, .int .i64 0] 55 := by subst hW; exact HAt.new w _ _
  have hf : Frm [] w W := by subst hW; exact (Frm.refl _ _).alloc _
  have HZ := Lib.hid hz
  have HF := Lib.hid hf
  clear hW hz hf
  go_loop [10] (fun i => ∃ k : Nat, i = .int .i64 k ∧ k ≤ 2) (fun i => 2 - (intOf i).toNat)
  case atStart => exact ⟨0, rfl, by omega⟩
  case round =>
    obtain ⟨k, rfl, hk⟩ := hrel
    rcases (by omega : k = 0 ∨ k = 1 ∨ k = 2) with rfl | rfl | rfl
    · have HN : GNone W none := .inl rfl
      go_wp2_with fail
      refine (gEnter_none HN x).mono ?_
      rintro e w' ⟨rfl, rfl⟩
      go_wp2_with fail
      refine (gExit_none HN x).mono ?_
      rintro e w' ⟨rfl, rfl⟩
      go_wp2_with fail
      refine (gIn_none HN x).mono ?_
      rintro e w' ⟨rfl, rfl⟩
      go_wp2_with fail
      refine (gOut_none HN x).mono ?_
      rintro e w' ⟨rfl, rfl⟩
      go_wp2_with fail
      refine (gNodes_none HN).mono ?_
      rintro e w' ⟨rfl, rfl⟩
      go_wp2_with fail
      refine (gWord_none HN x).mono ?_
      rintro e w' ⟨rfl, rfl⟩
      go_wp2
      go_round
      case rel => exact ⟨1, rfl, by omega⟩
      case measure => simp [intOf]
    · have HN : GNone W (some ⟨w.heap.size, 0, none⟩) := .inr ⟨_, rfl, HZ.out⟩
      go_wp2_with fail
      refine (gEnter_none HN x).mono ?_
      rintro e w' ⟨rfl, rfl⟩
      go_wp2_with fail
      refine (gExit_none HN x).mono ?_
      rintro e w' ⟨rfl, rfl⟩
      go_wp2_with fail
      refine (gIn_none HN x).mono ?_
      rintro e w' ⟨rfl, rfl⟩
      go_wp2_with fail
      refine (gOut_none HN x).mono ?_
      rintro e w' ⟨rfl, rfl⟩
      go_wp2_with fail
      refine (gNodes_none HN).mono ?_
      rintro e w' ⟨rfl, rfl⟩
      go_wp2_with fail
      refine (gWord_none HN x).mono ?_
      rintro e w' ⟨rfl, rfl⟩
      go_wp2
      go_round
      case rel => exact ⟨2, rfl, by omega⟩
      case measure => simp [intOf]
    · go_wp2_with fail
      refine (gawake _).mono ?_
      rintro e w1 ⟨rfl, hF⟩
      have HF1 := Lib.hid (HF.out.trans hF)
      clear hF
      go_wp2
      go_ret
      exact ⟨rfl, HF1.out.below (Nat.le_refl _) (by simp)⟩

end Go.Proofs.Ytakhhbemnodahaa
