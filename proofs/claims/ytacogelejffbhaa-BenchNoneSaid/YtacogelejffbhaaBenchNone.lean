/- The walk of the law BenchNone: it returns true, and writes nothing that was there. -/
import Derived.Test.YtacogelejffbhaaBenchAwake
namespace Go.Proofs.Ytacogelejffbhaa
open Go.RowKit

/-- no bench: nil, or a zero one -/
def BNone (w : World) (p : Option Addr) : Prop := p = none ∨ ∃ b, p = some ⟨b, 0, none⟩ ∧ HAt w b [.pointer none, .int .i64 0, .int .i64 0, .int .i64 0, .int .i64 0, .int .i64 0, .int .i64 0] 37
section
variable {w : World} {p : Option Addr}
theorem nbegin (h : BNone w p) (y x : Int) : Calls Try.prog 36 #[.pointer p, .int .i64 y, .int .i64 x] w fun e w' => e = .returned (.bool false) ∧ w = w' := by
  rcases h with rfl | ⟨b, rfl, hb⟩
  · go_enter Try.func36, Try.ntmps36
    go_wp2
    go_ret
    exact ⟨rfl, rfl⟩
  · exact begin_no (things := 0) (hb.cell (i := 2) rfl) (hb.cell (i := 3) rfl) (by omega)
theorem nBusy (h : BNone w p) : Calls Try.prog 18 #[.pointer p] w fun e w' => e = .returned (.bool false) ∧ w = w' := by
  rcases h with rfl | ⟨b, rfl, hb⟩
  · go_enter Try.func18, Try.ntmps18
    go_wp2
    go_ret
    exact ⟨rfl, rfl⟩
  · have c3 := hb.cell (i := 3) rfl
    clear hb
    go_enter Try.func18, Try.ntmps18
    go_wp2
    go_ret
    exact ⟨rfl, rfl⟩
theorem nGot (h : BNone w p) : Calls Try.prog 16 #[.pointer p] w fun e w' => e = .returned (.int .i64 0) ∧ w = w' := by
  rcases h with rfl | ⟨b, rfl, hb⟩
  · go_enter Try.func16, Try.ntmps16
    go_wp2
    go_ret
    exact ⟨rfl, rfl⟩
  · have c6 := hb.cell (i := 6) rfl
    clear hb
    go_enter Try.func16, Try.ntmps16
    go_wp2
    go_ret
    exact ⟨rfl, rfl⟩
theorem nPut (h : BNone w p) (x : Int) : Calls Try.prog 13 #[.pointer p, .int .i64 x] w fun e w' => e = .returned (.bool false) ∧ w = w' := by
  have HB := Lib.hid (nbegin h 1 x)
  clear h
  go_enter Try.func13, Try.ntmps13
  go_wp2_with fail
  refine HB.out.mono ?_
  rintro e w' ⟨rfl, rfl⟩
  go_wp2
  go_ret
  exact ⟨rfl, rfl⟩
theorem nTake (h : BNone w p) : Calls Try.prog 15 #[.pointer p] w fun e w' => e = .returned (.bool false) ∧ w = w' := by
  have HB := Lib.hid (nbegin h 5 1)
  clear h
  go_enter Try.func15, Try.ntmps15
  go_wp2_with fail
  refine HB.out.mono ?_
  rintro e w' ⟨rfl, rfl⟩
  go_wp2
  go_ret
  exact ⟨rfl, rfl⟩
theorem nStep (h : BNone w p) : Calls Try.prog 17 #[.pointer p] w fun e w' => e = .returned (.bool false) ∧ w = w' := by
  have HB := Lib.hid (nBusy h)
  clear h
  go_enter Try.func17, Try.ntmps17
  go_wp2_with fail
  refine HB.out.mono ?_
  rintro e w' ⟨rfl, rfl⟩
  go_wp2
  go_ret
  exact ⟨rfl, rfl⟩
end

set_option maxHeartbeats 1000000 in
theorem benchNone_walk (x : Int) (w : World) (_ : I64 x) :
    Calls Try.prog 4 #[.int .i64 x] w fun e w' => e = .returned (.bool true) ∧ Below w.heap.size w w' := by
  have i0 : ∀ (B : Nat) (W : World), (Instr.index 38 (.agg #[.pointer none, .pointer (some ⟨B, 0, none⟩)]) (.int .i64 0)).run Try.prog W = .ok (.pointer none) W := fun _ _ => by kernel_rfl
  have i1 : ∀ (B : Nat) (W : World), (Instr.index 38 (.agg #[.pointer none, .pointer (some ⟨B, 0, none⟩)]) (.int .i64 1)).run Try.prog W = .ok (.pointer (some ⟨B, 0, none⟩)) W := fun _ _ => by kernel_rfl
  go_enter Try.func4, Try.ntmps4
  go_wp2_with fail
  generalize hW : World.alloc _ _ = W
  have hz : HAt W w.heap.size [.pointer none, .int .i64 0, .int .i64 0, .int .i64 0, .int .i64 0, .int .i64 0, .int .i64 0] 37 := by subst hW; exact HAt.new w _ _
  have hf : Frm [] w W := by subst hW; exact (Frm.refl _ _).alloc _
  have HZ := Lib.hid hz
  have HF := Lib.hid hf
  clear hW hz hf
  go_loop [9] (fun i => ∃ k : Nat, i = .int .i64 k ∧ k ≤ 2) (fun i => 2 - (intOf i).toNat)
  case atStart => exact ⟨0, rfl, by omega⟩
  case round =>
    obtain ⟨k, rfl, hk⟩ := hrel
    rcases (by omega : k = 0 ∨ k = 1 ∨ k = 2) with rfl | rfl | rfl
    · have HN : Hid (BNone W none) := Lib.hid (.inl rfl)
      go_wp2_with fail
      refine (nPut HN.out x).mono ?_
      rintro e w' ⟨rfl, rfl⟩
      go_wp2_with fail
      refine (nTake HN.out).mono ?_
      rintro e w' ⟨rfl, rfl⟩
      go_wp2_with fail
      refine (nStep HN.out).mono ?_
      rintro e w' ⟨rfl, rfl⟩
      go_wp2_with fail
      refine (nBusy HN.out).mono ?_
      rintro e w' ⟨rfl, rfl⟩
      go_wp2_with fail
      refine (nGot HN.out).mono ?_
      rintro e w' ⟨rfl, rfl⟩
      go_wp2
      go_round
      case rel => exact ⟨1, rfl, by omega⟩
      case measure => simp [intOf]
    · have HN : Hid (BNone W (some ⟨w.heap.size, 0, none⟩)) := Lib.hid (.inr ⟨_, rfl, HZ.out⟩)
      go_wp2_with fail
      refine (nPut HN.out x).mono ?_
      rintro e w' ⟨rfl, rfl⟩
      go_wp2_with fail
      refine (nTake HN.out).mono ?_
      rintro e w' ⟨rfl, rfl⟩
      go_wp2_with fail
      refine (nStep HN.out).mono ?_
      rintro e w' ⟨rfl, rfl⟩
      go_wp2_with fail
      refine (nBusy HN.out).mono ?_
      rintro e w' ⟨rfl, rfl⟩
      go_wp2_with fail
      refine (nGot HN.out).mono ?_
      rintro e w' ⟨rfl, rfl⟩
      go_wp2
      go_round
      case rel => exact ⟨2, rfl, by omega⟩
      case measure => simp [intOf]
    · go_wp2_with fail
      refine (bawake _).mono ?_
      rintro e w1 ⟨rfl, hF⟩
      have HF1 := Lib.hid (HF.out.trans hF)
      clear hF
      go_wp2
      go_ret
      exact ⟨rfl, HF1.out.below (Nat.le_refl _) (by simp)⟩

end Go.Proofs.Ytacogelejffbhaa
