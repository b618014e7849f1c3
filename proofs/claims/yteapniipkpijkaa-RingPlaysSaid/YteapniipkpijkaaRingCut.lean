/- The contract of ring's Cut. -/
import Derived.Test.YteapniipkpijkaaRingPop
import Derived.Test.YteapniipkpijkaaQuietTail
namespace Go.Proofs.Yteapniipkpijkaa
open Go.RowKit

theorem Cut_nil (i : Int) (w : World) : Calls Try.prog 24 #[.pointer none, .int .i64 i] w fun e w' => e = .returned (.tuple #[.int .i64 0, .bool false]) ∧ w = w' := by
  go_enter Try.func24, Try.ntmps24
  go_wp2_with fail
  refine (At_nil _ _).mono ?_
  rintro e w' ⟨rfl, rfl⟩
  go_wp2
  go_ret2
  exact ⟨rfl, rfl⟩

theorem Cut_no {w : World} {b lb f : Nat} {cs xs : List Int} (i : Int) (h : RingAt w b lb cs f xs) (hi : i < 0 ∨ (xs.length : Int) ≤ i) :
    Calls Try.prog 24 #[.pointer (some ⟨b, 0, none⟩), .int .i64 i] w fun e w' => e = .returned (.tuple #[.int .i64 0, .bool false]) ∧ w = w' := by
  have H := Lib.hid (At_no i h hi)
  clear h hi
  go_enter Try.func24, Try.ntmps24
  go_wp2_with fail
  refine H.out.mono ?_
  rintro e w' ⟨rfl, rfl⟩
  go_wp2
  go_ret2
  exact ⟨rfl, rfl⟩

set_option maxHeartbeats 2000000 in
theorem Cut_yes {w : World} {b lb f : Nat} {cs xs : List Int} (i : Nat) (h : RingAt w b lb cs f xs) (hi : i < xs.length) :
    Calls Try.prog 24 #[.pointer (some ⟨b, 0, none⟩), .int .i64 i] w fun e w' => e = .returned (.tuple #[.int .i64 (xs[i]?.getD 0), .bool true]) ∧
      ∃ cs' f', RingAt w' b lb cs' f' (xs.eraseIdx i) ∧ Frm [b, lb] w w' ∧ cs'.length = cs.length := by
  have hat := At_yes i h hi
  have h1 := h.big
  have h2 := h.many
  have h3 := h.first
  have hpos : 0 < cs.length := by omega
  have hfl : f < cs.length := by omega
  have HT := Lib.hid hat
  have H := Lib.hid h
  clear hat h h3
  go_enter Try.func24, Try.ntmps24
  go_wp2_with fail
  refine HT.out.mono ?_
  rintro e w' ⟨rfl, k0, rfl⟩
  go_wp2_with fail
  go_loopw [8] (fun kv wr => ∃ (k : Nat) (cs' : List Int), kv = .int .i64 k ∧ k ≤ i ∧ cs'.length = cs.length ∧ RingAt wr b lb cs' f (shift xs i k) ∧ Frm [b, lb] w wr)
    (fun kv _ => (intOf kv).toNat)
  case atStart =>
    exact ⟨i, cs, rfl, Nat.le_refl _, rfl, by rw [shift_start]; exact { H.out with box := H.out.box.drew k0, row := fun hp => (H.out.row hp).drew k0 }, (Frm.refl _ _).drew k0⟩
  case round =>
    obtain ⟨k, cs', rfl, hk, hl, hR, hF⟩ := hrel
    by_cases hlt : 0 < k
    · have hb := hR.box
      rw [hl, rlist_pos hpos] at hb
      have hr := hR.row (by omega)
      have hne := hR.ne
      have hsl := shift_len xs i k
      have c0 := hb.cell (i := 0) rfl
      have hq : (f + k) % cs.length < cs.length := Nat.mod_lt _ hpos
      have hp : (f + (k - 1)) % cs.length < cs.length := Nat.mod_lt _ hpos
      have l1 : ((((f + k) % cs.length : Nat)) : Int) < cs.length := by omega
      have l2 : ((((f + (k - 1)) % cs.length : Nat)) : Int) < cs.length := by omega
      have ha := hR.at_ (k - 1) (by omega)
      rw [hl] at ha
      have hyv : (shift xs i k)[k - 1]? = some ((shift xs i k)[k - 1]?.getD 0) := by
        have : k - 1 < (shift xs i k).length := by omega
        simp [this]
      have hav : cs'[(f + (k - 1)) % cs.length]? = some ((shift xs i k)[k - 1]?.getD 0) := by
        rw [ha, ← hyv]; simp
      have cx : wr.cell? ⟨lb, (f + (k - 1)) % cs.length, none⟩ = some (.int .i64 ((shift xs i k)[k - 1]?.getD 0)) := hr.cell (by rw [List.getElem?_map, hav]; rfl)
      obtain ⟨y, cy⟩ : ∃ y, wr.cell? ⟨lb, (f + k) % cs.length, none⟩ = some y := by
        obtain ⟨y, hy⟩ : ∃ y, cs'[(f + k) % cs.length]? = some y := ⟨_, List.getElem?_eq_getElem (by omega)⟩
        exact ⟨_, hr.cell (by rw [List.getElem?_map, hy]; rfl)⟩
      have zy := hr.frozen ((f + k) % cs.length)
      have hc1 : ∀ W : World, HAt W b [.slice (some ⟨lb, 0, none⟩) cs.length cs.length, .int .i64 f, .int .i64 (shift xs i k).length] 36 →
        Calls Try.prog 40 #[.pointer (some ⟨b, 0, none⟩), .int .i64 k] W fun e w' => e = .returned (.int .i64 ((f + k) % cs.length : Nat)) ∧ ∃ k, w' = W.drewN k :=
        fun W hW => place_any W b lb f cs.length (shift xs i k).length k hW hpos (by omega) (by omega) (by omega)
      have hc2 : ∀ W : World, HAt W b [.slice (some ⟨lb, 0, none⟩) cs.length cs.length, .int .i64 f, .int .i64 (shift xs i k).length] 36 →
        Calls Try.prog 40 #[.pointer (some ⟨b, 0, none⟩), .int .i64 ((k : Int) - 1)] W fun e w' => e = .returned (.int .i64 ((f + (k - 1)) % cs.length : Nat)) ∧ ∃ k, w' = W.drewN k := by
        intro W hW
        have := place_any W b lb f cs.length (shift xs i k).length (k - 1) hW hpos (by omega) (by omega) (by omega)
        rwa [show (((k - 1 : Nat)) : Int) = (k : Int) - 1 from by omega] at this
      have hfin : ∀ W : World, HAt W b [.slice (some ⟨lb, 0, none⟩) cs.length cs.length, .int .i64 f, .int .i64 (shift xs i k).length] 36 →
          HAt W lb ((cs'.set ((f + k) % cs.length) ((shift xs i k)[k - 1]?.getD 0)).map (Value.int .i64)) 3 → RingAt W b lb (cs'.set ((f + k) % cs.length) ((shift xs i k)[k - 1]?.getD 0)) f (shift xs i (k - 1)) := fun W a1 a2 => by
        have hs := shift_step xs i k hi hlt hk
        have e1 : (shift xs i (k - 1)).length = (shift xs i k).length := by rw [shift_len, shift_len]
        have hput := put_at ((shift xs i k)[k - 1]?.getD 0) (by omega : f < cs'.length) hR.many (by omega : k < (shift xs i k).length) hR.at_
        rw [hs, hl] at hput
        exact { box := by rw [List.length_set, hl, rlist_pos hpos, e1]; exact a1, row := fun _ => a2, ne := hne, big := by rw [List.length_set, hl]; exact h1, first := .inl (by rw [List.length_set]; omega), many := by rw [List.length_set, shift_len]; omega, at_ := hput }
      have hsm : IntKind.i64.wrap ((k : Int) - 1) = (k : Int) - 1 := IntWalk.i64_in _ (by omega)
      have HB := Lib.hid hb
      have HR := Lib.hid hr
      have HC1 := Lib.hid hc1
      have HC2 := Lib.hid hc2
      have HFN := Lib.hid hfin
      have HF := Lib.hid hF
      have HL := Lib.hid hl
      clear hb hr hc1 hc2 hfin hF hR ha hav hyv hsl hl
      generalize (f + k) % cs.length = q at *
      generalize (f + (k - 1)) % cs.length = p at *
      generalize (shift xs i k)[k - 1]?.getD 0 = z at *
      go_wp2_with fail
      refine wp_region_quiet_tail 18 (by kernel_rfl) (by kernel_rfl) ?_
      simp only [List.take_succ_cons, List.take_zero, List.drop_succ_cons, List.drop_zero]
      repeat (quiet_step (first | (go_at_call_of 40 (Value.int .i64 (k : Int)); exact Calls.quiet_of (HC1.out _ (HB.out.drew _))) | exact Calls.quiet_of (HC2.out _ (HB.out.drew _))))
      refine wpQuiet_nil ?_
      rintro W ⟨nq, hWq⟩
      have cy' : W.cell? ⟨lb, q, none⟩ = some y := by subst hWq; exact cy
      have zy' : W.frozen? ⟨lb, q, none⟩ = false := by subst hWq; exact zy
      have HB' : Hid (HAt W b [.slice (some ⟨lb, 0, none⟩) cs.length cs.length, .int .i64 f, .int .i64 (shift xs i k).length] 36) := by subst hWq; exact Lib.hid (HB.out.drew _)
      have HR' : Hid (HAt W lb (cs'.map (Value.int .i64)) 3) := by subst hWq; exact Lib.hid (HR.out.drew _)
      have HF' : Hid (Frm [b, lb] w W) := by subst hWq; exact Lib.hid (HF.out.drew _)
      clear hWq cy zy c0 cx HC1 HC2
      go_wp2
      go_roundw
      case rel =>
        refine ⟨k - 1, _, by congr 1; omega, by omega, ?_, HFN.out _ (HB'.out.other _ _ (Ne.symm hne)) ?_, HF'.out.set _ _ (.inl (by simp))⟩
        · rw [List.length_set]; exact HL.out
        · rw [List.map_set]; exact HR'.out.set _ _
      case measure => simp [intOf]; omega
    · have hk0 : k = 0 := by omega
      subst hk0
      have hpop := Pop_any hR
      have HP := Lib.hid hpop
      have HF := Lib.hid hF
      have HLN := Lib.hid hl
      have hend := Lib.hid (shift_end xs i hi)
      clear hpop hF hR
      go_wp2_with fail
      refine HP.out.mono ?_
      rintro e w1 ⟨rfl, cs2, f2, hR2, hF2, hL2⟩
      have HR2 := Lib.hid hR2
      have HF2 := Lib.hid hF2
      have HL2 := Lib.hid hL2
      clear hR2 hF2 hL2
      go_wp2
      go_ret2
      refine ⟨by simp [hi], cs2, f2, ?_, HF.out.trans HF2.out, HL2.out.trans HLN.out⟩
      rw [← hend.out]
      exact HR2.out

end Go.Proofs.Yteapniipkpijkaa
