/- The walk of the law RingNone. -/
import Derived.Test.YteapniipkpijkaaRingAwake
namespace Go.Proofs.Yteapniipkpijkaa
open Go.RowKit Go.Shelf

theorem own_nil_len {w : World} {base : Nat} {v : Value} {k : Nat} (h : Own w base v (List.take k ([] : List Int))) : ∃ a cap, v = .slice a 0 cap := by
  rw [List.take_nil] at h
  rcases h.2 with ⟨rfl, h0⟩ | ⟨g, cap, cur, rfl, -⟩
  · exact ⟨none, 0, rfl⟩
  · exact ⟨_, _, rfl⟩

set_option maxRecDepth 100000 in
set_option maxHeartbeats 4000000 in
theorem ringNone_walk (n : Int) (w : World) (hn : I64 n) :
    Calls Try.prog 8 #[.int .i64 n] w fun e w' => e = .returned (.bool true) ∧ Below w.heap.size w w' := by
  have heq := fun_eql 41
  have i0 : ∀ (b : Nat) (W : World), (Instr.index 55 (.agg #[.pointer none, .pointer (some ⟨b, 0, none⟩)]) (.int .i64 0)).run Try.prog W = .ok (.pointer none) W := fun b W => by kernel_rfl
  have i1 : ∀ (b : Nat) (W : World), (Instr.index 55 (.agg #[.pointer none, .pointer (some ⟨b, 0, none⟩)]) (.int .i64 1)).run Try.prog W = .ok (.pointer (some ⟨b, 0, none⟩)) W := fun b W => by kernel_rfl
  have HNN := Lib.hid hn
  clear hn
  go_enter Try.func8, Try.ntmps8
  go_wp2_with fail
  have hR := zeroRing w
  have hF0 : Frm [] w (w.alloc (.cells #[.slice none 0 0, .int .i64 0, .int .i64 0] 36)) := (Frm.refl _ _).alloc _
  have hsz : (w.alloc (.cells #[.slice none 0 0, .int .i64 0, .int .i64 0] 36)).heap.size = w.heap.size + 1 := by simp
  have HR0 := Lib.hid hR
  have HF0 := Lib.hid hF0
  clear hR hF0
  generalize w.alloc (.cells #[.slice none 0 0, .int .i64 0, .int .i64 0] 36) = W0 at *
  refine (Push_nil n _).mono ?_
  rintro e w1 ⟨rfl, rfl⟩
  go_wp2_with fail
  go_loopw [18] (fun i wx => ∃ k : Nat, i = .int .i64 k ∧ k ≤ 2 ∧ Frm [] W0 wx) (fun i _ => 2 - (intOf i).toNat)
  case atStart => exact ⟨0, rfl, by omega, Frm.refl _ _⟩
  case round =>
    obtain ⟨k, rfl, hk, hF⟩ := hrel
    have HF := Lib.hid hF
    clear hF
    rcases (by omega : k = 0 ∨ k = 1 ∨ k = 2) with rfl | rfl | rfl
    · go_wp2_with fail
      refine (Pop_nil _).mono ?_
      rintro e w1 ⟨rfl, rfl⟩
      go_wp2_with fail
      refine (At_nil n _).mono ?_
      rintro e w1 ⟨rfl, rfl⟩
      go_wp2_with fail
      refine (Cut_nil n _).mono ?_
      rintro e w1 ⟨rfl, rfl⟩
      go_wp2_with fail
      refine (Len_nil _).mono ?_
      rintro e w1 ⟨rfl, rfl⟩
      go_wp2_with fail
      refine (All_any _ _).mono ?_
      rintro e w2 ⟨rfl, rfl⟩
      have HF1 : Hid (Frm [] W0 (wr.alloc (.cells #[.pointer none] 51))) := Lib.hid (HF.out.alloc _)
      generalize wr.alloc (.cells #[.pointer none] 51) = w2 at *
      clear HF
      go_wp2_with fail
      refine (all_of (seqR_none _) (by simp) 9 (by omega) (by omega)).mono ?_
      rintro e w3 ⟨v, rfl, hO, hF⟩
      obtain ⟨a, cap, rfl⟩ := own_nil_len hO
      have HF1 := Lib.hid (HF1.out.trans hF)
      clear hF hO
      go_wp2_with fail
      refine (Find_empty (seqR_none _)).mono ?_
      rintro e w4 ⟨rfl, hF⟩
      have HF1 := Lib.hid (HF1.out.trans hF)
      clear hF
      go_wp2
      go_roundw
      case rel => exact ⟨1, rfl, by omega, HF1.out⟩
      case measure => simp [intOf]
    · have HR : Hid (RingAt wr w.heap.size (w.heap.size + 1) [] 0 []) := Lib.hid { HR0.out with box := HR0.out.box.frm HF.out (by simp), row := fun h => absurd h (by simp) }
      go_wp2_with fail
      refine (Pop_empty HR.out).mono ?_
      rintro e w1 ⟨rfl, rfl⟩
      go_wp2_with fail
      refine (At_no n HR.out (by simp; omega)).mono ?_
      rintro e w1 ⟨rfl, rfl⟩
      go_wp2_with fail
      refine (Cut_no n HR.out (by simp; omega)).mono ?_
      rintro e w1 ⟨rfl, rfl⟩
      go_wp2_with fail
      refine (Len_any HR.out).mono ?_
      rintro e w1 ⟨rfl, rfl⟩
      go_wp2_with fail
      refine (All_any _ _).mono ?_
      rintro e w2 ⟨rfl, rfl⟩
      have HF1 : Hid (Frm [] W0 (wr.alloc (.cells #[.pointer (some ⟨w.heap.size, 0, none⟩)] 51))) := Lib.hid (HF.out.alloc _)
      have HR : Hid (RingAt (wr.alloc (.cells #[.pointer (some ⟨w.heap.size, 0, none⟩)] 51)) w.heap.size (w.heap.size + 1) [] 0 []) := Lib.hid { HR0.out with box := HR0.out.box.frm HF1.out (by simp), row := fun h => absurd h (by simp) }
      generalize wr.alloc (.cells #[.pointer (some ⟨w.heap.size, 0, none⟩)] 51) = w2 at *
      clear HF
      go_wp2_with fail
      refine (all_of (seqR_some HR.out (by have := HF1.out.size; omega)) (by simp) 9 (by omega) (by omega)).mono ?_
      rintro e w3 ⟨v, rfl, hO, hF⟩
      obtain ⟨a, cap, rfl⟩ := own_nil_len hO
      have HR : Hid (RingAt w3 w.heap.size (w.heap.size + 1) [] 0 []) := Lib.hid { HR.out with box := HR.out.box.frm hF (by simp), row := fun h => absurd h (by simp) }
      have HF1 := Lib.hid (HF1.out.trans hF)
      clear hF hO
      go_wp2_with fail
      refine (Find_empty (seqR_some HR.out (by have := HF1.out.size; omega))).mono ?_
      rintro e w4 ⟨rfl, hF⟩
      have HF1 := Lib.hid (HF1.out.trans hF)
      clear hF
      go_wp2
      go_roundw
      case rel => exact ⟨2, rfl, by omega, HF1.out⟩
      case measure => simp [intOf]
    · go_wp2_with fail
      refine (rawake _).mono ?_
      rintro e w1 ⟨rfl, hF⟩
      have HF2 := Lib.hid (HF0.out.trans (HF.out.trans hF))
      clear hF
      go_wp2
      go_ret
      exact ⟨rfl, HF2.out.below (Nat.le_refl _) (by simp)⟩
end Go.Proofs.Yteapniipkpijkaa
