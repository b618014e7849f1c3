/- The contracts of package malthus, step by step: from 13 on. (Printed by gen_mal.py.) -/
import Derived.Test.YtacogelejffbhaaMal
namespace Go.Proofs.Ytacogelejffbhaa
open Go.RowKit
section
variable {w w' : World} {lb sb bb ab wb tail first n : Nat} {bud : Int} {A A' : AR} {B B' : BK} {d : Int} {S : Nat → Nat → Int}
/-- where a thread goes on when one was taken from aside, or nobody was -/
def mTk (g a : Int) : Int := if g = 0 then (if a = 0 then 19 else 21) else if a = 0 then 15 else 14
set_option maxRecDepth 100000 in
theorem m_tk1 (h : MAt w lb sb bb ab wb tail first n bud A B d S) {j : Nat} (hj : j < n) (hg : B.got = 0) (ha : S j 1 = 0) : Calls Try.prog 68 #[.pointer (some ⟨lb, 0, none⟩), .pointer (some ⟨sb, j * 4, none⟩)] w fun e w' => e = .returned (.int .i64 19) ∧
    MAt w' lb sb bb ab wb tail first n bud (A) (B) (d) (spPut S j 2 B.got) ∧ Frm [lb, sb, bb, ab, wb] w w' := by
  have HN := Lib.hid h.ne
  have HJ := Lib.hid hj
  have hn32 := h.n32
  have htb := h.tb
  have c1 := h.p hj (t := 1) (by omega)
  have c2 := h.p hj (t := 2) (by omega)
  have c3 := h.p hj (t := 3) (by omega)
  have l0 := h.box.cell (i := 0) rfl
  have l1 := h.box.cell (i := 1) rfl
  have l2 := h.box.cell (i := 2) rfl
  have l3 := h.box.cell (i := 3) rfl
  have H := Lib.hid h

  have HNX := Lib.hid (fun (W : World) (hf : Frm [] w W) (y : Int) => mNext_any (h.frm hf (by simp)) y)
  have HWT := Lib.hid (fun (W : World) (hf : Frm [] w W) (y : Int) => mWait_any (h.frm hf (by simp)) y)
  have e0 : (B.got == 0) = true := by simpa using hg
  have f0 : (S j 1 == 0) = true := by simpa using ha
  clear hg ha
  clear h hj
  go_enter Try.func68, Try.ntmps68
  go_wp2_with fail
  refine (Got_any H.out.bn).mono ?_
  rintro e w1 ⟨rfl, rfl⟩
  have jz := H.out.row.frozen
  have HB := Lib.hid (H.out.put j (t := 2) (by omega) B.got)
  have HF2 := Lib.hid ((Frm.refl [lb, sb, bb, ab, wb] w).set ⟨sb, j * 4 + 2, none⟩ (.int .i64 B.got) (.inl (by simp)))
  have HT := Lib.hid ((HB.out.p HJ.out (t := 2) (by omega)).trans (show some (Value.int .i64 (spPut S j 2 B.got j 2)) = some (.int .i64 B.got) by unfold spPut; simp))
  have HO := Lib.hid ((HB.out.p HJ.out (t := 1) (by omega)).trans (show some (Value.int .i64 (spPut S j 2 B.got j 1)) = some (.int .i64 (S j 1)) by unfold spPut; simp))
  go_wp2
  go_ret
  exact ⟨rfl, HB.out, HF2.out⟩
set_option maxRecDepth 100000 in
theorem m_tk2 (h : MAt w lb sb bb ab wb tail first n bud A B d S) {j : Nat} (hj : j < n) (hg : B.got = 0) (ha : ¬ S j 1 = 0) : Calls Try.prog 68 #[.pointer (some ⟨lb, 0, none⟩), .pointer (some ⟨sb, j * 4, none⟩)] w fun e w' => e = .returned (.int .i64 21) ∧
    MAt w' lb sb bb ab wb tail first n bud (A) (B) (d) (spPut S j 2 B.got) ∧ Frm [lb, sb, bb, ab, wb] w w' := by
  have HN := Lib.hid h.ne
  have HJ := Lib.hid hj
  have hn32 := h.n32
  have htb := h.tb
  have c1 := h.p hj (t := 1) (by omega)
  have c2 := h.p hj (t := 2) (by omega)
  have c3 := h.p hj (t := 3) (by omega)
  have l0 := h.box.cell (i := 0) rfl
  have l1 := h.box.cell (i := 1) rfl
  have l2 := h.box.cell (i := 2) rfl
  have l3 := h.box.cell (i := 3) rfl
  have H := Lib.hid h

  have HNX := Lib.hid (fun (W : World) (hf : Frm [] w W) (y : Int) => mNext_any (h.frm hf (by simp)) y)
  have HWT := Lib.hid (fun (W : World) (hf : Frm [] w W) (y : Int) => mWait_any (h.frm hf (by simp)) y)
  have e0 : (B.got == 0) = true := by simpa using hg
  have f0 : (S j 1 == 0) = false := by simpa using ha
  clear hg ha
  clear h hj
  go_enter Try.func68, Try.ntmps68
  go_wp2_with fail
  refine (Got_any H.out.bn).mono ?_
  rintro e w1 ⟨rfl, rfl⟩
  have jz := H.out.row.frozen
  have HB := Lib.hid (H.out.put j (t := 2) (by omega) B.got)
  have HF2 := Lib.hid ((Frm.refl [lb, sb, bb, ab, wb] w).set ⟨sb, j * 4 + 2, none⟩ (.int .i64 B.got) (.inl (by simp)))
  have HT := Lib.hid ((HB.out.p HJ.out (t := 2) (by omega)).trans (show some (Value.int .i64 (spPut S j 2 B.got j 2)) = some (.int .i64 B.got) by unfold spPut; simp))
  have HO := Lib.hid ((HB.out.p HJ.out (t := 1) (by omega)).trans (show some (Value.int .i64 (spPut S j 2 B.got j 1)) = some (.int .i64 (S j 1)) by unfold spPut; simp))
  go_wp2
  go_ret
  exact ⟨rfl, HB.out, HF2.out⟩
set_option maxRecDepth 100000 in
theorem m_tk3 (h : MAt w lb sb bb ab wb tail first n bud A B d S) {j : Nat} (hj : j < n) (hg : ¬ B.got = 0) (ha : S j 1 = 0) : Calls Try.prog 68 #[.pointer (some ⟨lb, 0, none⟩), .pointer (some ⟨sb, j * 4, none⟩)] w fun e w' => e = .returned (.int .i64 15) ∧
    MAt w' lb sb bb ab wb tail first n bud (A) (B) (d) (spPut S j 2 B.got) ∧ Frm [lb, sb, bb, ab, wb] w w' := by
  have HN := Lib.hid h.ne
  have HJ := Lib.hid hj
  have hn32 := h.n32
  have htb := h.tb
  have c1 := h.p hj (t := 1) (by omega)
  have c2 := h.p hj (t := 2) (by omega)
  have c3 := h.p hj (t := 3) (by omega)
  have l0 := h.box.cell (i := 0) rfl
  have l1 := h.box.cell (i := 1) rfl
  have l2 := h.box.cell (i := 2) rfl
  have l3 := h.box.cell (i := 3) rfl
  have H := Lib.hid h

  have HNX := Lib.hid (fun (W : World) (hf : Frm [] w W) (y : Int) => mNext_any (h.frm hf (by simp)) y)
  have HWT := Lib.hid (fun (W : World) (hf : Frm [] w W) (y : Int) => mWait_any (h.frm hf (by simp)) y)
  have e0 : (B.got == 0) = false := by simpa using hg
  have f0 : (S j 1 == 0) = true := by simpa using ha
  clear hg ha
  clear h hj
  go_enter Try.func68, Try.ntmps68
  go_wp2_with fail
  refine (Got_any H.out.bn).mono ?_
  rintro e w1 ⟨rfl, rfl⟩
  have jz := H.out.row.frozen
  have HB := Lib.hid (H.out.put j (t := 2) (by omega) B.got)
  have HF2 := Lib.hid ((Frm.refl [lb, sb, bb, ab, wb] w).set ⟨sb, j * 4 + 2, none⟩ (.int .i64 B.got) (.inl (by simp)))
  have HT := Lib.hid ((HB.out.p HJ.out (t := 2) (by omega)).trans (show some (Value.int .i64 (spPut S j 2 B.got j 2)) = some (.int .i64 B.got) by unfold spPut; simp))
  have HO := Lib.hid ((HB.out.p HJ.out (t := 1) (by omega)).trans (show some (Value.int .i64 (spPut S j 2 B.got j 1)) = some (.int .i64 (S j 1)) by unfold spPut; simp))
  go_wp2
  go_ret
  exact ⟨rfl, HB.out, HF2.out⟩
set_option maxRecDepth 100000 in
theorem m_tk4 (h : MAt w lb sb bb ab wb tail first n bud A B d S) {j : Nat} (hj : j < n) (hg : ¬ B.got = 0) (ha : ¬ S j 1 = 0) : Calls Try.prog 68 #[.pointer (some ⟨lb, 0, none⟩), .pointer (some ⟨sb, j * 4, none⟩)] w fun e w' => e = .returned (.int .i64 14) ∧
    MAt w' lb sb bb ab wb tail first n bud (A) (B) (d) (spPut S j 2 B.got) ∧ Frm [lb, sb, bb, ab, wb] w w' := by
  have HN := Lib.hid h.ne
  have HJ := Lib.hid hj
  have hn32 := h.n32
  have htb := h.tb
  have c1 := h.p hj (t := 1) (by omega)
  have c2 := h.p hj (t := 2) (by omega)
  have c3 := h.p hj (t := 3) (by omega)
  have l0 := h.box.cell (i := 0) rfl
  have l1 := h.box.cell (i := 1) rfl
  have l2 := h.box.cell (i := 2) rfl
  have l3 := h.box.cell (i := 3) rfl
  have H := Lib.hid h

  have HNX := Lib.hid (fun (W : World) (hf : Frm [] w W) (y : Int) => mNext_any (h.frm hf (by simp)) y)
  have HWT := Lib.hid (fun (W : World) (hf : Frm [] w W) (y : Int) => mWait_any (h.frm hf (by simp)) y)
  have e0 : (B.got == 0) = false := by simpa using hg
  have f0 : (S j 1 == 0) = false := by simpa using ha
  clear hg ha
  clear h hj
  go_enter Try.func68, Try.ntmps68
  go_wp2_with fail
  refine (Got_any H.out.bn).mono ?_
  rintro e w1 ⟨rfl, rfl⟩
  have jz := H.out.row.frozen
  have HB := Lib.hid (H.out.put j (t := 2) (by omega) B.got)
  have HF2 := Lib.hid ((Frm.refl [lb, sb, bb, ab, wb] w).set ⟨sb, j * 4 + 2, none⟩ (.int .i64 B.got) (.inl (by simp)))
  have HT := Lib.hid ((HB.out.p HJ.out (t := 2) (by omega)).trans (show some (Value.int .i64 (spPut S j 2 B.got j 2)) = some (.int .i64 B.got) by unfold spPut; simp))
  have HO := Lib.hid ((HB.out.p HJ.out (t := 1) (by omega)).trans (show some (Value.int .i64 (spPut S j 2 B.got j 1)) = some (.int .i64 (S j 1)) by unfold spPut; simp))
  go_wp2
  go_ret
  exact ⟨rfl, HB.out, HF2.out⟩
theorem m_taken (h : MAt w lb sb bb ab wb tail first n bud A B d S) {j : Nat} (hj : j < n) : Calls Try.prog 68 #[.pointer (some ⟨lb, 0, none⟩), .pointer (some ⟨sb, j * 4, none⟩)] w fun e w' => e = .returned (.int .i64 (mTk B.got (S j 1))) ∧
    MAt w' lb sb bb ab wb tail first n bud A B d (spPut S j 2 B.got) ∧ Frm [lb, sb, bb, ab, wb] w w' := by
  unfold mTk
  by_cases hg : B.got = 0
  · by_cases ha : S j 1 = 0
    · exact (m_tk1 h hj hg ha).mono fun e w' ⟨h1, h2, h3⟩ => ⟨by rw [h1]; exact ret_int (by simp [hg, ha]), h2, h3⟩
    · exact (m_tk2 h hj hg ha).mono fun e w' ⟨h1, h2, h3⟩ => ⟨by rw [h1]; exact ret_int (by simp [hg, ha]), h2, h3⟩
  · by_cases ha : S j 1 = 0
    · exact (m_tk3 h hj hg ha).mono fun e w' ⟨h1, h2, h3⟩ => ⟨by rw [h1]; exact ret_int (by simp [hg, ha]), h2, h3⟩
    · exact (m_tk4 h hj hg ha).mono fun e w' ⟨h1, h2, h3⟩ => ⟨by rw [h1]; exact ret_int (by simp [hg, ha]), h2, h3⟩
set_option maxRecDepth 100000 in
theorem m_13a (h : MAt w lb sb bb ab wb tail first n bud A B d S) {j : Nat} (hj : j < n) (h0 : S j 0 = 13) (hg : bStepR first A B = true) : Calls Try.prog 51 #[.pointer (some ⟨lb, 0, none⟩), .pointer (some ⟨sb, j * 4, none⟩), .int .i64 ((j : Int) + 1)] w fun e w' => e = .returned (.int .i64 (mTk (bStepB first A B).got (S j 1))) ∧
    MAt w' lb sb bb ab wb tail first n bud (bStepA first A B) (bStepB first A B) (d) (spPut S j 2 (bStepB first A B).got) ∧ Frm [lb, sb, bb, ab, wb] w w' := by
  have HN := Lib.hid h.ne
  have HJ := Lib.hid hj
  have hn32 := h.n32
  have htb := h.tb
  have c0 : w.cell? ⟨sb, j * 4, none⟩ = some (.int .i64 13) := by rw [← h0]; exact h.p0 hj
  have c1 := h.p hj (t := 1) (by omega)
  have c2 := h.p hj (t := 2) (by omega)
  have c3 := h.p hj (t := 3) (by omega)
  have l0 := h.box.cell (i := 0) rfl
  have l1 := h.box.cell (i := 1) rfl
  have l2 := h.box.cell (i := 2) rfl
  have l3 := h.box.cell (i := 3) rfl
  have H := Lib.hid h
  have H0 := Lib.hid h0
  have HNX := Lib.hid (fun (W : World) (hf : Frm [] w W) (y : Int) => mNext_any (h.frm hf (by simp)) y)
  have HWT := Lib.hid (fun (W : World) (hf : Frm [] w W) (y : Int) => mWait_any (h.frm hf (by simp)) y)
  have HG := Lib.hid hg
  clear hg
  clear h h0 hj
  go_enter Try.func51, Try.ntmps51
  go_wp2_with fail
  refine (bStep_any H.out.bn H.out.ar (by have := HN.out; omega)).mono ?_
  rw [HG.out]
  rintro e w1 ⟨rfl, hB, hA, hF⟩
  have HB := Lib.hid (H.out.bn_ hF hB hA)
  have HF2 := Lib.hid (hF.mono (S' := [lb, sb, bb, ab, wb]) (by simp))
  clear hB hA hF
  go_wp2_with fail
  refine (m_taken HB.out HJ.out).mono ?_
  rintro e w2 ⟨rfl, hM, hF⟩
  have HM := Lib.hid hM
  have HF3 := Lib.hid (HF2.out.trans hF)
  clear hM hF
  go_wp2
  go_ret
  exact ⟨rfl, HM.out, HF3.out⟩
set_option maxRecDepth 100000 in
theorem m_13b (h : MAt w lb sb bb ab wb tail first n bud A B d S) {j : Nat} (hj : j < n) (h0 : S j 0 = 13) (hg : bStepR first A B = false) : Calls Try.prog 51 #[.pointer (some ⟨lb, 0, none⟩), .pointer (some ⟨sb, j * 4, none⟩), .int .i64 ((j : Int) + 1)] w fun e w' => e = .returned (.int .i64 13) ∧
    MAt w' lb sb bb ab wb tail first n bud (bStepA first A B) (bStepB first A B) (d) (S) ∧ Frm [lb, sb, bb, ab, wb] w w' := by
  have HN := Lib.hid h.ne
  have HJ := Lib.hid hj
  have hn32 := h.n32
  have htb := h.tb
  have c0 : w.cell? ⟨sb, j * 4, none⟩ = some (.int .i64 13) := by rw [← h0]; exact h.p0 hj
  have c1 := h.p hj (t := 1) (by omega)
  have c2 := h.p hj (t := 2) (by omega)
  have c3 := h.p hj (t := 3) (by omega)
  have l0 := h.box.cell (i := 0) rfl
  have l1 := h.box.cell (i := 1) rfl
  have l2 := h.box.cell (i := 2) rfl
  have l3 := h.box.cell (i := 3) rfl
  have H := Lib.hid h
  have H0 := Lib.hid h0
  have HNX := Lib.hid (fun (W : World) (hf : Frm [] w W) (y : Int) => mNext_any (h.frm hf (by simp)) y)
  have HWT := Lib.hid (fun (W : World) (hf : Frm [] w W) (y : Int) => mWait_any (h.frm hf (by simp)) y)
  have HG := Lib.hid hg
  clear hg
  clear h h0 hj
  go_enter Try.func51, Try.ntmps51
  go_wp2_with fail
  refine (bStep_any H.out.bn H.out.ar (by have := HN.out; omega)).mono ?_
  rw [HG.out]
  rintro e w1 ⟨rfl, hB, hA, hF⟩
  have HB := Lib.hid (H.out.bn_ hF hB hA)
  have HF2 := Lib.hid (hF.mono (S' := [lb, sb, bb, ab, wb]) (by simp))
  clear hB hA hF
  go_wp2
  go_ret
  exact ⟨rfl, HB.out, HF2.out⟩
set_option maxRecDepth 100000 in
theorem m_14 (h : MAt w lb sb bb ab wb tail first n bud A B d S) {j : Nat} (hj : j < n) (h0 : S j 0 = 14) : Calls Try.prog 51 #[.pointer (some ⟨lb, 0, none⟩), .pointer (some ⟨sb, j * 4, none⟩), .int .i64 ((j : Int) + 1)] w fun e w' => e = .returned (.int .i64 18) ∧
    MAt w' lb sb bb ab wb tail first n bud (A.store (mNext tail (S j 2)) (S j 1)) (B) (d) (S) ∧ Frm [lb, sb, bb, ab, wb] w w' := by
  have HN := Lib.hid h.ne
  have HJ := Lib.hid hj
  have hn32 := h.n32
  have htb := h.tb
  have c0 : w.cell? ⟨sb, j * 4, none⟩ = some (.int .i64 14) := by rw [← h0]; exact h.p0 hj
  have c1 := h.p hj (t := 1) (by omega)
  have c2 := h.p hj (t := 2) (by omega)
  have c3 := h.p hj (t := 3) (by omega)
  have l0 := h.box.cell (i := 0) rfl
  have l1 := h.box.cell (i := 1) rfl
  have l2 := h.box.cell (i := 2) rfl
  have l3 := h.box.cell (i := 3) rfl
  have H := Lib.hid h
  have H0 := Lib.hid h0
  have HNX := Lib.hid (fun (W : World) (hf : Frm [] w W) (y : Int) => mNext_any (h.frm hf (by simp)) y)
  have HWT := Lib.hid (fun (W : World) (hf : Frm [] w W) (y : Int) => mWait_any (h.frm hf (by simp)) y)
  have hne : Nonempty (HW (fun wx => Frm [ab, wb] w wx)) := ⟨⟨w, Frm.refl _ _⟩⟩
  have hz0 : ∀ q : HW (fun wx => Frm [ab, wb] w wx), q.w.cell? ⟨lb, 0, none⟩ = some (.pointer (some ⟨ab, 0, none⟩)) := fun q => (h.box.frm q.h (by simp; have := HN.out; omega)).cell (i := 0) rfl
  have hz1 : ∀ q : HW (fun wx => Frm [ab, wb] w wx), q.w.cell? ⟨lb, 1, none⟩ = some (.int .i64 tail) := fun q => (h.box.frm q.h (by simp; have := HN.out; omega)).cell (i := 1) rfl
  have hz2 : ∀ q : HW (fun wx => Frm [ab, wb] w wx), q.w.cell? ⟨lb, 2, none⟩ = some (.int .i64 bud) := fun q => (h.box.frm q.h (by simp; have := HN.out; omega)).cell (i := 2) rfl
  have hz3 : ∀ q : HW (fun wx => Frm [ab, wb] w wx), q.w.cell? ⟨lb, 3, none⟩ = some (.pointer (some ⟨bb, 0, none⟩)) := fun q => (h.box.frm q.h (by simp; have := HN.out; omega)).cell (i := 3) rfl
  have hz4 : ∀ q : HW (fun wx => Frm [ab, wb] w wx), q.w.cell? ⟨lb, 4, none⟩ = some (.int .i64 d) := fun q => (h.box.frm q.h (by simp; have := HN.out; omega)).cell (i := 4) rfl
  have hy1 : ∀ q : HW (fun wx => Frm [ab, wb] w wx), q.w.cell? ⟨sb, j * 4 + 1, none⟩ = some (.int .i64 (S j 1)) := fun q => (h.row.frm q.h (by simp; have := HN.out; omega)).cell (spC_get n S hj (by omega))
  have hy2 : ∀ q : HW (fun wx => Frm [ab, wb] w wx), q.w.cell? ⟨sb, j * 4 + 2, none⟩ = some (.int .i64 (S j 2)) := fun q => (h.row.frm q.h (by simp; have := HN.out; omega)).cell (spC_get n S hj (by omega))
  have hy3 : ∀ q : HW (fun wx => Frm [ab, wb] w wx), q.w.cell? ⟨sb, j * 4 + 3, none⟩ = some (.int .i64 (S j 3)) := fun q => (h.row.frm q.h (by simp; have := HN.out; omega)).cell (spC_get n S hj (by omega))
  clear h h0 hj
  go_enter Try.func51, Try.ntmps51
  go_wp2_with fail
  refine held_begin (S := fun wx => Frm [ab, wb] w wx) (by kernel_rfl) ?_
  refine held_row_at (fuel := 2) (is := [0, 1, 2, 3, 4, 5, 6, 7, 8, 10, 11, 12, 13]) (.cons rfl (.cons rfl (.cons rfl (.cons rfl (.cons rfl (.cons rfl (.cons rfl (.cons rfl (.cons rfl (.cons rfl (.cons rfl (.cons rfl (.cons rfl .nil))))))))))))) (by kernel_rfl) (fun _ _ _ _ _ h => h) rfl (by kernel_rfl) (Frm.refl _ _).drew1 ?_
  intro K hK
  repeat (go_big_quiet_step (fail))
  refine wpQuiet_nil (hK _ ?_)
  clear hK K
  refine held_call (fuel := 1) (i := 9) rfl (by kernel_rfl) ?_
  go_wp2_with fail
  refine (HNX.out _ ((Frm.refl _ _).drew1) _).mono ?_; rintro e w' ⟨rfl, rfl⟩
  go_wp2_with fail
  refine onNormal_mk ⟨(Frm.refl _ _).drew1, ?_⟩
  refine held_call (fuel := 0) (i := 14) rfl (by kernel_rfl) ?_
  go_wp2_with fail
  refine (Store_any (H.out.ar.frm (S := []) ((Frm.refl _ _).drew1) (by simp) (by simp)) (mNext tail (S j 2)) (S j 1)).mono ?_; rintro e w1 ⟨rfl, hA, hF⟩; have HF1 := Lib.hid (((Frm.refl [ab, wb] w).drew1).trans hF); have H1 := Lib.hid (H.out.ar_ HF1.out hA); have j1 := H1.out.p HJ.out (t := 1) (by omega); have j2 := H1.out.p HJ.out (t := 2) (by omega); have j3 := H1.out.p HJ.out (t := 3) (by omega); have jd := H1.out.box.cell (i := 4) rfl; have jz := H1.out.row.frozen; have jy := H1.out.box.frozen; clear hA hF
  go_wp2_with fail
  refine onNormal_mk ⟨HF1.out, ?_⟩
  refine held_end (by kernel_rfl) ?_
  clear hne hz0 hz1 hz2 hz3 hz4 hy1 hy2 hy3
  have HB := Lib.hid H1.out
  have HF2 := Lib.hid (HF1.out.mono (S' := [lb, sb, bb, ab, wb]) (by simp))
  have k0 : w1.cell? ⟨sb, j * 4, none⟩ = some (.int .i64 14) := by rw [← H0.out]; exact HB.out.p0 HJ.out
  have k1 := HB.out.p HJ.out (t := 1) (by omega)
  clear H1 HF1 j1 j2 j3 jd jz jy
  go_wp2
  go_ret
  exact ⟨rfl, HB.out, HF2.out⟩
set_option maxRecDepth 100000 in
theorem m_15 (h : MAt w lb sb bb ab wb tail first n bud A B d S) {j : Nat} (hj : j < n) (h0 : S j 0 = 15) : Calls Try.prog 51 #[.pointer (some ⟨lb, 0, none⟩), .pointer (some ⟨sb, j * 4, none⟩), .int .i64 ((j : Int) + 1)] w fun e w' => e = .returned (.int .i64 16) ∧
    MAt w' lb sb bb ab wb tail first n bud (A.store (mNext tail (S j 2)) 0) (B) (d) (S) ∧ Frm [lb, sb, bb, ab, wb] w w' := by
  have HN := Lib.hid h.ne
  have HJ := Lib.hid hj
  have hn32 := h.n32
  have htb := h.tb
  have c0 : w.cell? ⟨sb, j * 4, none⟩ = some (.int .i64 15) := by rw [← h0]; exact h.p0 hj
  have c1 := h.p hj (t := 1) (by omega)
  have c2 := h.p hj (t := 2) (by omega)
  have c3 := h.p hj (t := 3) (by omega)
  have l0 := h.box.cell (i := 0) rfl
  have l1 := h.box.cell (i := 1) rfl
  have l2 := h.box.cell (i := 2) rfl
  have l3 := h.box.cell (i := 3) rfl
  have H := Lib.hid h
  have H0 := Lib.hid h0
  have HNX := Lib.hid (fun (W : World) (hf : Frm [] w W) (y : Int) => mNext_any (h.frm hf (by simp)) y)
  have HWT := Lib.hid (fun (W : World) (hf : Frm [] w W) (y : Int) => mWait_any (h.frm hf (by simp)) y)
  have hne : Nonempty (HW (fun wx => Frm [ab, wb] w wx)) := ⟨⟨w, Frm.refl _ _⟩⟩
  have hz0 : ∀ q : HW (fun wx => Frm [ab, wb] w wx), q.w.cell? ⟨lb, 0, none⟩ = some (.pointer (some ⟨ab, 0, none⟩)) := fun q => (h.box.frm q.h (by simp; have := HN.out; omega)).cell (i := 0) rfl
  have hz1 : ∀ q : HW (fun wx => Frm [ab, wb] w wx), q.w.cell? ⟨lb, 1, none⟩ = some (.int .i64 tail) := fun q => (h.box.frm q.h (by simp; have := HN.out; omega)).cell (i := 1) rfl
  have hz2 : ∀ q : HW (fun wx => Frm [ab, wb] w wx), q.w.cell? ⟨lb, 2, none⟩ = some (.int .i64 bud) := fun q => (h.box.frm q.h (by simp; have := HN.out; omega)).cell (i := 2) rfl
  have hz3 : ∀ q : HW (fun wx => Frm [ab, wb] w wx), q.w.cell? ⟨lb, 3, none⟩ = some (.pointer (some ⟨bb, 0, none⟩)) := fun q => (h.box.frm q.h (by simp; have := HN.out; omega)).cell (i := 3) rfl
  have hz4 : ∀ q : HW (fun wx => Frm [ab, wb] w wx), q.w.cell? ⟨lb, 4, none⟩ = some (.int .i64 d) := fun q => (h.box.frm q.h (by simp; have := HN.out; omega)).cell (i := 4) rfl
  have hy1 : ∀ q : HW (fun wx => Frm [ab, wb] w wx), q.w.cell? ⟨sb, j * 4 + 1, none⟩ = some (.int .i64 (S j 1)) := fun q => (h.row.frm q.h (by simp; have := HN.out; omega)).cell (spC_get n S hj (by omega))
  have hy2 : ∀ q : HW (fun wx => Frm [ab, wb] w wx), q.w.cell? ⟨sb, j * 4 + 2, none⟩ = some (.int .i64 (S j 2)) := fun q => (h.row.frm q.h (by simp; have := HN.out; omega)).cell (spC_get n S hj (by omega))
  have hy3 : ∀ q : HW (fun wx => Frm [ab, wb] w wx), q.w.cell? ⟨sb, j * 4 + 3, none⟩ = some (.int .i64 (S j 3)) := fun q => (h.row.frm q.h (by simp; have := HN.out; omega)).cell (spC_get n S hj (by omega))
  clear h h0 hj
  go_enter Try.func51, Try.ntmps51
  go_wp2_with fail
  refine held_begin (S := fun wx => Frm [ab, wb] w wx) (by kernel_rfl) ?_
  refine held_row_at (fuel := 2) (is := [0, 1, 2, 3, 4, 5, 6, 7, 8]) (.cons rfl (.cons rfl (.cons rfl (.cons rfl (.cons rfl (.cons rfl (.cons rfl (.cons rfl (.cons rfl .nil))))))))) (by kernel_rfl) (fun _ _ _ _ _ h => h) rfl (by kernel_rfl) (Frm.refl _ _).drew1 ?_
  intro K hK
  repeat (go_big_quiet_step (fail))
  refine wpQuiet_nil (hK _ ?_)
  clear hK K
  refine held_call (fuel := 1) (i := 9) rfl (by kernel_rfl) ?_
  go_wp2_with fail
  refine (HNX.out _ ((Frm.refl _ _).drew1) _).mono ?_; rintro e w' ⟨rfl, rfl⟩
  go_wp2_with fail
  refine onNormal_mk ⟨(Frm.refl _ _).drew1, ?_⟩
  refine held_call (fuel := 0) (i := 10) rfl (by kernel_rfl) ?_
  go_wp2_with fail
  refine (Store_any (H.out.ar.frm (S := []) ((Frm.refl _ _).drew1) (by simp) (by simp)) (mNext tail (S j 2)) (0)).mono ?_; rintro e w1 ⟨rfl, hA, hF⟩; have HF1 := Lib.hid (((Frm.refl [ab, wb] w).drew1).trans hF); have H1 := Lib.hid (H.out.ar_ HF1.out hA); have j1 := H1.out.p HJ.out (t := 1) (by omega); have j2 := H1.out.p HJ.out (t := 2) (by omega); have j3 := H1.out.p HJ.out (t := 3) (by omega); have jd := H1.out.box.cell (i := 4) rfl; have jz := H1.out.row.frozen; have jy := H1.out.box.frozen; clear hA hF
  go_wp2_with fail
  refine onNormal_mk ⟨HF1.out, ?_⟩
  refine held_end (by kernel_rfl) ?_
  clear hne hz0 hz1 hz2 hz3 hz4 hy1 hy2 hy3
  have HB := Lib.hid H1.out
  have HF2 := Lib.hid (HF1.out.mono (S' := [lb, sb, bb, ab, wb]) (by simp))
  have k0 : w1.cell? ⟨sb, j * 4, none⟩ = some (.int .i64 15) := by rw [← H0.out]; exact HB.out.p0 HJ.out
  have k1 := HB.out.p HJ.out (t := 1) (by omega)
  clear H1 HF1 j1 j2 j3 jd jz jy
  go_wp2
  go_ret
  exact ⟨rfl, HB.out, HF2.out⟩
set_option maxRecDepth 100000 in
theorem m_16a (h : MAt w lb sb bb ab wb tail first n bud A B d S) {j : Nat} (hj : j < n) (h0 : S j 0 = 16) (hg : A.casOk tail ((j : Int) + 1) = true) : Calls Try.prog 51 #[.pointer (some ⟨lb, 0, none⟩), .pointer (some ⟨sb, j * 4, none⟩), .int .i64 ((j : Int) + 1)] w fun e w' => e = .returned (.int .i64 18) ∧
    MAt w' lb sb bb ab wb tail first n bud (A.cas tail ((j : Int) + 1) (S j 2)) (B) (d) (S) ∧ Frm [lb, sb, bb, ab, wb] w w' := by
  have HN := Lib.hid h.ne
  have HJ := Lib.hid hj
  have hn32 := h.n32
  have htb := h.tb
  have c0 : w.cell? ⟨sb, j * 4, none⟩ = some (.int .i64 16) := by rw [← h0]; exact h.p0 hj
  have c1 := h.p hj (t := 1) (by omega)
  have c2 := h.p hj (t := 2) (by omega)
  have c3 := h.p hj (t := 3) (by omega)
  have l0 := h.box.cell (i := 0) rfl
  have l1 := h.box.cell (i := 1) rfl
  have l2 := h.box.cell (i := 2) rfl
  have l3 := h.box.cell (i := 3) rfl
  have H := Lib.hid h
  have H0 := Lib.hid h0
  have HNX := Lib.hid (fun (W : World) (hf : Frm [] w W) (y : Int) => mNext_any (h.frm hf (by simp)) y)
  have HWT := Lib.hid (fun (W : World) (hf : Frm [] w W) (y : Int) => mWait_any (h.frm hf (by simp)) y)
  have HG := Lib.hid hg
  clear hg
  have hne : Nonempty (HW (fun wx => Frm [ab, wb] w wx)) := ⟨⟨w, Frm.refl _ _⟩⟩
  have hz0 : ∀ q : HW (fun wx => Frm [ab, wb] w wx), q.w.cell? ⟨lb, 0, none⟩ = some (.pointer (some ⟨ab, 0, none⟩)) := fun q => (h.box.frm q.h (by simp; have := HN.out; omega)).cell (i := 0) rfl
  have hz1 : ∀ q : HW (fun wx => Frm [ab, wb] w wx), q.w.cell? ⟨lb, 1, none⟩ = some (.int .i64 tail) := fun q => (h.box.frm q.h (by simp; have := HN.out; omega)).cell (i := 1) rfl
  have hz2 : ∀ q : HW (fun wx => Frm [ab, wb] w wx), q.w.cell? ⟨lb, 2, none⟩ = some (.int .i64 bud) := fun q => (h.box.frm q.h (by simp; have := HN.out; omega)).cell (i := 2) rfl
  have hz3 : ∀ q : HW (fun wx => Frm [ab, wb] w wx), q.w.cell? ⟨lb, 3, none⟩ = some (.pointer (some ⟨bb, 0, none⟩)) := fun q => (h.box.frm q.h (by simp; have := HN.out; omega)).cell (i := 3) rfl
  have hz4 : ∀ q : HW (fun wx => Frm [ab, wb] w wx), q.w.cell? ⟨lb, 4, none⟩ = some (.int .i64 d) := fun q => (h.box.frm q.h (by simp; have := HN.out; omega)).cell (i := 4) rfl
  have hy1 : ∀ q : HW (fun wx => Frm [ab, wb] w wx), q.w.cell? ⟨sb, j * 4 + 1, none⟩ = some (.int .i64 (S j 1)) := fun q => (h.row.frm q.h (by simp; have := HN.out; omega)).cell (spC_get n S hj (by omega))
  have hy2 : ∀ q : HW (fun wx => Frm [ab, wb] w wx), q.w.cell? ⟨sb, j * 4 + 2, none⟩ = some (.int .i64 (S j 2)) := fun q => (h.row.frm q.h (by simp; have := HN.out; omega)).cell (spC_get n S hj (by omega))
  have hy3 : ∀ q : HW (fun wx => Frm [ab, wb] w wx), q.w.cell? ⟨sb, j * 4 + 3, none⟩ = some (.int .i64 (S j 3)) := fun q => (h.row.frm q.h (by simp; have := HN.out; omega)).cell (spC_get n S hj (by omega))
  clear h h0 hj
  go_enter Try.func51, Try.ntmps51
  go_wp2_with fail
  refine held_begin (S := fun wx => Frm [ab, wb] w wx) (by kernel_rfl) ?_
  refine held_row_at (fuel := 1) (is := [0, 1, 2, 3, 4, 5, 6, 7, 8, 9, 10, 11, 12]) (.cons rfl (.cons rfl (.cons rfl (.cons rfl (.cons rfl (.cons rfl (.cons rfl (.cons rfl (.cons rfl (.cons rfl (.cons rfl (.cons rfl (.cons rfl .nil))))))))))))) (by kernel_rfl) (fun _ _ _ _ _ h => h) rfl (by kernel_rfl) (Frm.refl _ _).drew1 ?_
  intro K hK
  repeat (go_big_quiet_step (fail))
  refine wpQuiet_nil (hK _ ?_)
  clear hK K
  refine held_call (fuel := 0) (i := 13) rfl (by kernel_rfl) ?_
  go_wp2_with fail
  refine (Cas_any (H.out.ar.frm (S := []) ((Frm.refl _ _).drew1) (by simp) (by simp)) (tail) ((j : Int) + 1) (S j 2)).mono ?_; rw [HG.out]; rintro e w1 ⟨rfl, hA, hF⟩; have HF1 := Lib.hid (((Frm.refl [ab, wb] w).drew1).trans hF); have H1 := Lib.hid (H.out.ar_ HF1.out hA); have j1 := H1.out.p HJ.out (t := 1) (by omega); have j2 := H1.out.p HJ.out (t := 2) (by omega); have j3 := H1.out.p HJ.out (t := 3) (by omega); have jd := H1.out.box.cell (i := 4) rfl; have jz := H1.out.row.frozen; have jy := H1.out.box.frozen; clear hA hF
  go_wp2_with fail
  refine onNormal_mk ⟨HF1.out, ?_⟩
  refine held_end (by kernel_rfl) ?_
  clear hne hz0 hz1 hz2 hz3 hz4 hy1 hy2 hy3
  have HB := Lib.hid H1.out
  have HF2 := Lib.hid (HF1.out.mono (S' := [lb, sb, bb, ab, wb]) (by simp))
  have k0 : w1.cell? ⟨sb, j * 4, none⟩ = some (.int .i64 16) := by rw [← H0.out]; exact HB.out.p0 HJ.out
  have k1 := HB.out.p HJ.out (t := 1) (by omega)
  clear H1 HF1 j1 j2 j3 jd jz jy
  go_wp2
  go_ret
  exact ⟨rfl, HB.out, HF2.out⟩
set_option maxRecDepth 100000 in
theorem m_16b (h : MAt w lb sb bb ab wb tail first n bud A B d S) {j : Nat} (hj : j < n) (h0 : S j 0 = 16) (hg : A.casOk tail ((j : Int) + 1) = false) : Calls Try.prog 51 #[.pointer (some ⟨lb, 0, none⟩), .pointer (some ⟨sb, j * 4, none⟩), .int .i64 ((j : Int) + 1)] w fun e w' => e = .returned (.int .i64 17) ∧
    MAt w' lb sb bb ab wb tail first n bud (A.cas tail ((j : Int) + 1) (S j 2)) (B) (d) (S) ∧ Frm [lb, sb, bb, ab, wb] w w' := by
  have HN := Lib.hid h.ne
  have HJ := Lib.hid hj
  have hn32 := h.n32
  have htb := h.tb
  have c0 : w.cell? ⟨sb, j * 4, none⟩ = some (.int .i64 16) := by rw [← h0]; exact h.p0 hj
  have c1 := h.p hj (t := 1) (by omega)
  have c2 := h.p hj (t := 2) (by omega)
  have c3 := h.p hj (t := 3) (by omega)
  have l0 := h.box.cell (i := 0) rfl
  have l1 := h.box.cell (i := 1) rfl
  have l2 := h.box.cell (i := 2) rfl
  have l3 := h.box.cell (i := 3) rfl
  have H := Lib.hid h
  have H0 := Lib.hid h0
  have HNX := Lib.hid (fun (W : World) (hf : Frm [] w W) (y : Int) => mNext_any (h.frm hf (by simp)) y)
  have HWT := Lib.hid (fun (W : World) (hf : Frm [] w W) (y : Int) => mWait_any (h.frm hf (by simp)) y)
  have HG := Lib.hid hg
  clear hg
  have hne : Nonempty (HW (fun wx => Frm [ab, wb] w wx)) := ⟨⟨w, Frm.refl _ _⟩⟩
  have hz0 : ∀ q : HW (fun wx => Frm [ab, wb] w wx), q.w.cell? ⟨lb, 0, none⟩ = some (.pointer (some ⟨ab, 0, none⟩)) := fun q => (h.box.frm q.h (by simp; have := HN.out; omega)).cell (i := 0) rfl
  have hz1 : ∀ q : HW (fun wx => Frm [ab, wb] w wx), q.w.cell? ⟨lb, 1, none⟩ = some (.int .i64 tail) := fun q => (h.box.frm q.h (by simp; have := HN.out; omega)).cell (i := 1) rfl
  have hz2 : ∀ q : HW (fun wx => Frm [ab, wb] w wx), q.w.cell? ⟨lb, 2, none⟩ = some (.int .i64 bud) := fun q => (h.box.frm q.h (by simp; have := HN.out; omega)).cell (i := 2) rfl
  have hz3 : ∀ q : HW (fun wx => Frm [ab, wb] w wx), q.w.cell? ⟨lb, 3, none⟩ = some (.pointer (some ⟨bb, 0, none⟩)) := fun q => (h.box.frm q.h (by simp; have := HN.out; omega)).cell (i := 3) rfl
  have hz4 : ∀ q : HW (fun wx => Frm [ab, wb] w wx), q.w.cell? ⟨lb, 4, none⟩ = some (.int .i64 d) := fun q => (h.box.frm q.h (by simp; have := HN.out; omega)).cell (i := 4) rfl
  have hy1 : ∀ q : HW (fun wx => Frm [ab, wb] w wx), q.w.cell? ⟨sb, j * 4 + 1, none⟩ = some (.int .i64 (S j 1)) := fun q => (h.row.frm q.h (by simp; have := HN.out; omega)).cell (spC_get n S hj (by omega))
  have hy2 : ∀ q : HW (fun wx => Frm [ab, wb] w wx), q.w.cell? ⟨sb, j * 4 + 2, none⟩ = some (.int .i64 (S j 2)) := fun q => (h.row.frm q.h (by simp; have := HN.out; omega)).cell (spC_get n S hj (by omega))
  have hy3 : ∀ q : HW (fun wx => Frm [ab, wb] w wx), q.w.cell? ⟨sb, j * 4 + 3, none⟩ = some (.int .i64 (S j 3)) := fun q => (h.row.frm q.h (by simp; have := HN.out; omega)).cell (spC_get n S hj (by omega))
  clear h h0 hj
  go_enter Try.func51, Try.ntmps51
  go_wp2_with fail
  refine held_begin (S := fun wx => Frm [ab, wb] w wx) (by kernel_rfl) ?_
  refine held_row_at (fuel := 1) (is := [0, 1, 2, 3, 4, 5, 6, 7, 8, 9, 10, 11, 12]) (.cons rfl (.cons rfl (.cons rfl (.cons rfl (.cons rfl (.cons rfl (.cons rfl (.cons rfl (.cons rfl (.cons rfl (.cons rfl (.cons rfl (.cons rfl .nil))))))))))))) (by kernel_rfl) (fun _ _ _ _ _ h => h) rfl (by kernel_rfl) (Frm.refl _ _).drew1 ?_
  intro K hK
  repeat (go_big_quiet_step (fail))
  refine wpQuiet_nil (hK _ ?_)
  clear hK K
  refine held_call (fuel := 0) (i := 13) rfl (by kernel_rfl) ?_
  go_wp2_with fail
  refine (Cas_any (H.out.ar.frm (S := []) ((Frm.refl _ _).drew1) (by simp) (by simp)) (tail) ((j : Int) + 1) (S j 2)).mono ?_; rw [HG.out]; rintro e w1 ⟨rfl, hA, hF⟩; have HF1 := Lib.hid (((Frm.refl [ab, wb] w).drew1).trans hF); have H1 := Lib.hid (H.out.ar_ HF1.out hA); have j1 := H1.out.p HJ.out (t := 1) (by omega); have j2 := H1.out.p HJ.out (t := 2) (by omega); have j3 := H1.out.p HJ.out (t := 3) (by omega); have jd := H1.out.box.cell (i := 4) rfl; have jz := H1.out.row.frozen; have jy := H1.out.box.frozen; clear hA hF
  go_wp2_with fail
  refine onNormal_mk ⟨HF1.out, ?_⟩
  refine held_end (by kernel_rfl) ?_
  clear hne hz0 hz1 hz2 hz3 hz4 hy1 hy2 hy3
  have HB := Lib.hid H1.out
  have HF2 := Lib.hid (HF1.out.mono (S' := [lb, sb, bb, ab, wb]) (by simp))
  have k0 : w1.cell? ⟨sb, j * 4, none⟩ = some (.int .i64 16) := by rw [← H0.out]; exact HB.out.p0 HJ.out
  have k1 := HB.out.p HJ.out (t := 1) (by omega)
  clear H1 HF1 j1 j2 j3 jd jz jy
  go_wp2
  go_ret
  exact ⟨rfl, HB.out, HF2.out⟩
end
end Go.Proofs.Ytacogelejffbhaa
