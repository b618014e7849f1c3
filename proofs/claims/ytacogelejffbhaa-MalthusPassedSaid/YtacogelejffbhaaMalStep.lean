/- The contracts of package malthus: Threads, Spot, Ask, Leave, Most, and a step of any kind. (Printed by gen_malstep.py.) -/
import Derived.Test.YtacogelejffbhaaMalB
import Derived.Test.YtacogelejffbhaaMalC
namespace Go.Proofs.Ytacogelejffbhaa
open Go.RowKit
section
variable {w w' : World} {lb sb bb ab wb tail first n : Nat} {bud : Int} {A A' : AR} {B B' : BK} {d d' : Int} {S S' : Nat → Nat → Int}
theorem mThreads_any (h : MAt w lb sb bb ab wb tail first n bud A B d S) : Calls Try.prog 47 #[.pointer (some ⟨lb, 0, none⟩)] w fun e w' => e = .returned (.int .i64 n) ∧ w = w' := by
  have c5 := h.box.cell (i := 5) rfl
  clear h
  go_enter Try.func47, Try.ntmps47
  go_wp2
  go_ret
  exact ⟨rfl, rfl⟩
theorem mSpot_any (h : MAt w lb sb bb ab wb tail first n bud A B d S) (i : Int) : Calls Try.prog 30 #[.pointer (some ⟨lb, 0, none⟩), .int .i64 i] w fun e w' => e = .returned (spV n S i) ∧ Frm [] w w' := by
  have HT := Lib.hid (fun (W : World) (hf : Frm [] w W) => mThreads_any (h.frm hf (by simp)))
  cases hi : sHas n i with
  | false =>
    have hr : spV n S i = .agg #[.int .i64 0, .int .i64 0, .int .i64 0, .int .i64 0] := by unfold spV; rw [hi]; rfl
    rw [hr]
    by_cases hneg : i < 0
    · have d1 : decide (i < 0) = true := by simpa using hneg
      clear h hr hi
      go_enter Try.func30, Try.ntmps30
      go_wp2_with fail
      refine bodyPost_ret (v := .agg #[.int .i64 0, .int .i64 0, .int .i64 0, .int .i64 0]) (by simp [results, Try.results30, go_sem]) rfl ⟨rfl, ?_⟩
      repeat (first | exact Frm.refl _ _ | exact (Frm.refl _ _).alloc _ | refine Frm.set ?_ _ _ (.inr (Nat.le_refl _)))
    · have d1 : decide (i < 0) = false := by simpa using hneg
      have d2 : decide ((n : Int) ≤ i) = true := by unfold sHas at hi; simp at hi; simp; omega
      clear h hr hi
      go_enter Try.func30, Try.ntmps30
      go_wp2_with fail
      refine (HT.out _ ((Frm.refl _ _).alloc _)).mono ?_
      rintro e w' ⟨rfl, rfl⟩
      go_wp2_with fail
      refine bodyPost_ret (v := .agg #[.int .i64 0, .int .i64 0, .int .i64 0, .int .i64 0]) (by simp [results, Try.results30, go_sem]) rfl ⟨rfl, ?_⟩
      repeat (first | exact Frm.refl _ _ | exact (Frm.refl _ _).alloc _ | refine Frm.set ?_ _ _ (.inr (Nat.le_refl _)))
  | true =>
    have hi' : 0 ≤ i ∧ i < (n : Int) := by unfold sHas at hi; simpa using hi
    obtain ⟨j, rfl⟩ := Int.eq_ofNat_of_zero_le hi'.1
    have hj : j < n := by omega
    have hr : spV n S j = .agg #[.int .i64 (S j 0), .int .i64 (S j 1), .int .i64 (S j 2), .int .i64 (S j 3)] := by unfold spV; rw [hi]; rfl
    rw [hr]
    have d1 : decide ((j : Int) < 0) = false := by simp
    have d2 : decide ((n : Int) ≤ j) = false := by simp; omega
    have d3 : decide (n ≤ j) = false := by simp; omega
    have l1 : (j : Int) < n := by omega
    have hkk : ∀ wx, Frm [] w wx → wx.cell? ⟨sb, j * 4, none⟩ = some (.int .i64 (S j 0)) ∧ wx.cell? ⟨sb, j * 4 + 1, none⟩ = some (.int .i64 (S j 1)) ∧ wx.cell? ⟨sb, j * 4 + 2, none⟩ = some (.int .i64 (S j 2)) ∧ wx.cell? ⟨sb, j * 4 + 3, none⟩ = some (.int .i64 (S j 3)) ∧ wx.cell? ⟨lb, 5, none⟩ = some (.slice (some ⟨sb, 0, none⟩) n n) := fun wx hf =>
      ⟨(h.frm hf (by simp)).p0 hj, (h.frm hf (by simp)).p hj (by omega), (h.frm hf (by simp)).p hj (by omega), (h.frm hf (by simp)).p hj (by omega), (h.frm hf (by simp)).box.cell (i := 5) rfl⟩
    have KK := Lib.hid hkk
    clear h hr hi hkk hi'
    go_enter Try.func30, Try.ntmps30
    go_wp2_with fail
    refine (HT.out _ ((Frm.refl _ _).alloc _)).mono ?_
    rintro e w' ⟨rfl, rfl⟩
    obtain ⟨c0, c1, c2, c3, c5⟩ := KK.out _ ((Frm.refl [] w).alloc (.cells #[.int .i64 0, .int .i64 0, .int .i64 0, .int .i64 0] 64))
    go_wp2_with fail
    refine bodyPost_ret (v := .agg #[.int .i64 (S j 0), .int .i64 (S j 1), .int .i64 (S j 2), .int .i64 (S j 3)]) (by simp [results, Try.results30, go_sem]) rfl ⟨rfl, ?_⟩
    repeat (first | exact Frm.refl _ _ | exact (Frm.refl _ _).alloc _ | refine Frm.set ?_ _ _ (.inr (Nat.le_refl _)))

set_option maxRecDepth 100000 in
theorem m_idle (h : MAt w lb sb bb ab wb tail first n bud A B d S) (i : Int) (hi : sHas n i = false ∨ S i.toNat 0 = 0 ∨ S i.toNat 0 = 10) : Calls Try.prog 33 #[.pointer (some ⟨lb, 0, none⟩), .int .i64 i] w fun e w' => e = .returned (.bool false) ∧ Frm [] w w' := by
  have HS := Lib.hid (mSpot_any h i)
  have fd := spotPc
  have hv : ∃ a b c p : Int, (p = 0 ∨ p = 10) ∧ spV n S i = .agg #[.int .i64 p, .int .i64 a, .int .i64 b, .int .i64 c] := by
    unfold spV
    rcases hi with hi | hi | hi
    · rw [if_neg (by simp [hi])]; exact ⟨0, 0, 0, 0, .inl rfl, rfl⟩
    · by_cases hh : sHas n i
      · rw [if_pos hh]; exact ⟨_, _, _, _, .inl hi, rfl⟩
      · rw [if_neg hh]; exact ⟨0, 0, 0, 0, .inl rfl, rfl⟩
    · by_cases hh : sHas n i
      · rw [if_pos hh]; exact ⟨_, _, _, _, .inr hi, rfl⟩
      · rw [if_neg hh]; exact ⟨0, 0, 0, 0, .inl rfl, rfl⟩
  obtain ⟨a, b, c, p, hp, hv⟩ := hv
  rw [hv] at HS
  clear hv hi h
  rcases hp with rfl | rfl
  · go_enter Try.func33, Try.ntmps33
    go_wp2_with fail
    refine HS.out.mono ?_
    rintro e w1 ⟨rfl, hF⟩
    have HF := Lib.hid hF
    clear hF
    go_wp2
    go_ret
    exact ⟨rfl, HF.out.alloc _⟩
  · go_enter Try.func33, Try.ntmps33
    go_wp2_with fail
    refine HS.out.mono ?_
    rintro e w1 ⟨rfl, hF⟩
    have HF := Lib.hid hF
    clear hF
    go_wp2
    go_ret
    exact ⟨rfl, HF.out.alloc _⟩
set_option maxRecDepth 100000 in
theorem step_in (h : MAt w lb sb bb ab wb tail first n bud A B d S) {j : Nat} (hj : j < n) {pc res : Int} (h0 : S j 0 = pc) (hpc : 1 ≤ pc ∧ pc < 10)
    (HC : ∀ W, Frm [] w W → Calls Try.prog 50 #[.pointer (some ⟨lb, 0, none⟩), .pointer (some ⟨sb, j * 4, none⟩), .int .i64 ((j : Int) + 1)] W fun e w' => e = .returned (.int .i64 res) ∧ MAt w' lb sb bb ab wb tail first n bud A' B' d' S' ∧ Frm [lb, sb, bb, ab, wb] W w') :
    Calls Try.prog 33 #[.pointer (some ⟨lb, 0, none⟩), .int .i64 j] w fun e w' => e = .returned (.bool (res == 0 || res == 10)) ∧ MAt w' lb sb bb ab wb tail first n bud A' B' d' (spPut S' j 0 res) ∧ Frm [lb, sb, bb, ab, wb] w w' := by
  have HS := Lib.hid (mSpot_any h j)
  have fd := spotPc
  have hr : spV n S j = .agg #[.int .i64 pc, .int .i64 (S j 1), .int .i64 (S j 2), .int .i64 (S j 3)] := by unfold spV; rw [if_pos (by unfold sHas; simpa using hj), ← h0]; rfl
  rw [hr] at HS
  have d1 : (pc == 0) = false := by simp; omega
  have d2 : (pc == 10) = false := by simp; omega
  have d3 : decide (pc < 10) = true := by simp; omega
  have l1 : (j : Int) < n := by omega
  have hn := h.n32
  have HK := Lib.hid (fun (W : World) (hf : Frm [] w W) => (h.frm hf (by simp)).box.cell (i := 5) rfl)
  have HN := Lib.hid h.ne
  have HJ := Lib.hid hj
  have HC := Lib.hid HC
  clear h hr h0 hpc hj
  cases hb0 : (res == 0) <;> cases hb1 : (res == 10)
  all_goals
    go_enter Try.func33, Try.ntmps33
    go_wp2_with fail
    refine HS.out.mono ?_
    rintro e w1 ⟨rfl, hF⟩
    have HF := Lib.hid (hF.alloc (.cells #[.int .i64 0, .int .i64 0, .int .i64 0, .int .i64 0] 64))
    have c5 := HK.out _ HF.out
    clear hF
    go_wp2_with fail
    refine (HC.out _ HF.out).mono ?_
    rintro e w2 ⟨rfl, hM, hF⟩
    have hz := hM.row.frozen
    have hk0 := hM.p0 HJ.out
    have HM := Lib.hid (hM.put j (t := 0) (by omega) res)
    have HF2 := Lib.hid (((HF.out.mono (S' := [lb, sb, bb, ab, wb]) (by simp)).trans hF).set ⟨sb, j * 4, none⟩ (.int .i64 res) (.inl (by simp)))
    clear hM hF
    go_wp2_with fail
    go_ret
    exact ⟨rfl, HM.out, HF2.out⟩
set_option maxRecDepth 100000 in
theorem step_calls (h : MAt w lb sb bb ab wb tail first n bud A B d S) {j : Nat} (hj : j < n) {pc res : Int} (h0 : S j 0 = pc) (hpc : 11 ≤ pc ∧ pc < 17)
    (HC : ∀ W, Frm [] w W → Calls Try.prog 51 #[.pointer (some ⟨lb, 0, none⟩), .pointer (some ⟨sb, j * 4, none⟩), .int .i64 ((j : Int) + 1)] W fun e w' => e = .returned (.int .i64 res) ∧ MAt w' lb sb bb ab wb tail first n bud A' B' d' S' ∧ Frm [lb, sb, bb, ab, wb] W w') :
    Calls Try.prog 33 #[.pointer (some ⟨lb, 0, none⟩), .int .i64 j] w fun e w' => e = .returned (.bool (res == 0 || res == 10)) ∧ MAt w' lb sb bb ab wb tail first n bud A' B' d' (spPut S' j 0 res) ∧ Frm [lb, sb, bb, ab, wb] w w' := by
  have HS := Lib.hid (mSpot_any h j)
  have fd := spotPc
  have hr : spV n S j = .agg #[.int .i64 pc, .int .i64 (S j 1), .int .i64 (S j 2), .int .i64 (S j 3)] := by unfold spV; rw [if_pos (by unfold sHas; simpa using hj), ← h0]; rfl
  rw [hr] at HS
  have d1 : (pc == 0) = false := by simp; omega
  have d2 : (pc == 10) = false := by simp; omega
  have d3 : decide (pc < 10) = false := by simp; omega
  have d4 : decide (pc < 17) = true := by simp; omega
  have l1 : (j : Int) < n := by omega
  have hn := h.n32
  have HK := Lib.hid (fun (W : World) (hf : Frm [] w W) => (h.frm hf (by simp)).box.cell (i := 5) rfl)
  have HN := Lib.hid h.ne
  have HJ := Lib.hid hj
  have HC := Lib.hid HC
  clear h hr h0 hpc hj
  cases hb0 : (res == 0) <;> cases hb1 : (res == 10)
  all_goals
    go_enter Try.func33, Try.ntmps33
    go_wp2_with fail
    refine HS.out.mono ?_
    rintro e w1 ⟨rfl, hF⟩
    have HF := Lib.hid (hF.alloc (.cells #[.int .i64 0, .int .i64 0, .int .i64 0, .int .i64 0] 64))
    have c5 := HK.out _ HF.out
    clear hF
    go_wp2_with fail
    refine (HC.out _ HF.out).mono ?_
    rintro e w2 ⟨rfl, hM, hF⟩
    have hz := hM.row.frozen
    have hk0 := hM.p0 HJ.out
    have HM := Lib.hid (hM.put j (t := 0) (by omega) res)
    have HF2 := Lib.hid (((HF.out.mono (S' := [lb, sb, bb, ab, wb]) (by simp)).trans hF).set ⟨sb, j * 4, none⟩ (.int .i64 res) (.inl (by simp)))
    clear hM hF
    go_wp2_with fail
    go_ret
    exact ⟨rfl, HM.out, HF2.out⟩
set_option maxRecDepth 100000 in
theorem step_hands (h : MAt w lb sb bb ab wb tail first n bud A B d S) {j : Nat} (hj : j < n) {pc res : Int} (h0 : S j 0 = pc) (hpc : 17 ≤ pc)
    (HC : ∀ W, Frm [] w W → Calls Try.prog 52 #[.pointer (some ⟨lb, 0, none⟩), .pointer (some ⟨sb, j * 4, none⟩), .int .i64 ((j : Int) + 1)] W fun e w' => e = .returned (.int .i64 res) ∧ MAt w' lb sb bb ab wb tail first n bud A' B' d' S' ∧ Frm [lb, sb, bb, ab, wb] W w') :
    Calls Try.prog 33 #[.pointer (some ⟨lb, 0, none⟩), .int .i64 j] w fun e w' => e = .returned (.bool (res == 0 || res == 10)) ∧ MAt w' lb sb bb ab wb tail first n bud A' B' d' (spPut S' j 0 res) ∧ Frm [lb, sb, bb, ab, wb] w w' := by
  have HS := Lib.hid (mSpot_any h j)
  have fd := spotPc
  have hr : spV n S j = .agg #[.int .i64 pc, .int .i64 (S j 1), .int .i64 (S j 2), .int .i64 (S j 3)] := by unfold spV; rw [if_pos (by unfold sHas; simpa using hj), ← h0]; rfl
  rw [hr] at HS
  have d1 : (pc == 0) = false := by simp; omega
  have d2 : (pc == 10) = false := by simp; omega
  have d3 : decide (pc < 10) = false := by simp; omega
  have d4 : decide (pc < 17) = false := by simp; omega
  have l1 : (j : Int) < n := by omega
  have hn := h.n32
  have HK := Lib.hid (fun (W : World) (hf : Frm [] w W) => (h.frm hf (by simp)).box.cell (i := 5) rfl)
  have HN := Lib.hid h.ne
  have HJ := Lib.hid hj
  have HC := Lib.hid HC
  clear h hr h0 hpc hj
  cases hb0 : (res == 0) <;> cases hb1 : (res == 10)
  all_goals
    go_enter Try.func33, Try.ntmps33
    go_wp2_with fail
    refine HS.out.mono ?_
    rintro e w1 ⟨rfl, hF⟩
    have HF := Lib.hid (hF.alloc (.cells #[.int .i64 0, .int .i64 0, .int .i64 0, .int .i64 0] 64))
    have c5 := HK.out _ HF.out
    clear hF
    go_wp2_with fail
    refine (HC.out _ HF.out).mono ?_
    rintro e w2 ⟨rfl, hM, hF⟩
    have hz := hM.row.frozen
    have hk0 := hM.p0 HJ.out
    have HM := Lib.hid (hM.put j (t := 0) (by omega) res)
    have HF2 := Lib.hid (((HF.out.mono (S' := [lb, sb, bb, ab, wb]) (by simp)).trans hF).set ⟨sb, j * 4, none⟩ (.int .i64 res) (.inl (by simp)))
    clear hM hF
    go_wp2_with fail
    go_ret
    exact ⟨rfl, HM.out, HF2.out⟩
end
end Go.Proofs.Ytacogelejffbhaa
