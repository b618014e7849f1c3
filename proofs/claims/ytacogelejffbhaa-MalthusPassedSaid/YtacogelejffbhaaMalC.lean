/- The contracts of package malthus, step by step: from 17 on. (Printed by gen_mal.py.) -/
import Derived.Test.YtacogelejffbhaaMal
namespace Go.Proofs.Ytacogelejffbhaa
open Go.RowKit
section
variable {w w' : World} {lb sb bb ab wb tail first n : Nat} {bud : Int} {A A' : AR} {B B' : BK} {d : Int} {S : Nat → Nat → Int}
set_option maxRecDepth 100000 in
theorem m_17a (h : MAt w lb sb bb ab wb tail first n bud A B d S) {j : Nat} (hj : j < n) (h0 : S j 0 = 17) (hg : A.get (mNext tail ((j : Int) + 1)) = 0) : Calls Try.prog 52 #[.pointer (some ⟨lb, 0, none⟩), .pointer (some ⟨sb, j * 4, none⟩), .int .i64 ((j : Int) + 1)] w fun e w' => e = .returned (.int .i64 17) ∧
    MAt w' lb sb bb ab wb tail first n bud (A.load (mNext tail ((j : Int) + 1))) (B) (d) (spPut S j 1 (A.get (mNext tail ((j : Int) + 1)))) ∧ Frm [lb, sb, bb, ab, wb] w w' := by
  have HN := Lib.hid h.ne
  have HJ := Lib.hid hj
  have hn32 := h.n32
  have htb := h.tb
  have c0 : w.cell? ⟨sb, j * 4, none⟩ = some (.int .i64 17) := by rw [← h0]; exact h.p0 hj
  have c1 := h.p hj (t := 1) (by omega)
  have c2 := h.p hj (t := 2) (by omega)
  have c3 := h.p hj (t := 3) (by omega)
  have l0 := h.box.cell (i := 0) rfl
  have l1 := h.box.cell (i := 1) rfl
  have l2 := h.box.cell (i := 2) rfl
  have l3 := h.box.cell (i := 3) rfl
  have H := Lib.hid h
  have H0 := Lib.hid h0
  have HNX := Lib.hid (fun (W : World) (hf : Frm [] w W) (y : Int) => mNext_any (h.frm hf (by simp)) y)
  have HWT := Lib.hid (fun (W : World) (hf : Frm [] w W) (y : Int) => mWait_any (h.frm hf (by simp)) y)
  have HG := Lib.hid hg
  rw [hg]
  clear hg
  have hne : Nonempty (HW (fun wx => Frm [sb, ab, wb] w wx)) := ⟨⟨w, Frm.refl _ _⟩⟩
  have hz0 : ∀ q : HW (fun wx => Frm [sb, ab, wb] w wx), q.w.cell? ⟨lb, 0, none⟩ = some (.pointer (some ⟨ab, 0, none⟩)) := fun q => (h.box.frm q.h (by simp; have := HN.out; omega)).cell (i := 0) rfl
  have hz1 : ∀ q : HW (fun wx => Frm [sb, ab, wb] w wx), q.w.cell? ⟨lb, 1, none⟩ = some (.int .i64 tail) := fun q => (h.box.frm q.h (by simp; have := HN.out; omega)).cell (i := 1) rfl
  have hz2 : ∀ q : HW (fun wx => Frm [sb, ab, wb] w wx), q.w.cell? ⟨lb, 2, none⟩ = some (.int .i64 bud) := fun q => (h.box.frm q.h (by simp; have := HN.out; omega)).cell (i := 2) rfl
  have hz3 : ∀ q : HW (fun wx => Frm [sb, ab, wb] w wx), q.w.cell? ⟨lb, 3, none⟩ = some (.pointer (some ⟨bb, 0, none⟩)) := fun q => (h.box.frm q.h (by simp; have := HN.out; omega)).cell (i := 3) rfl
  have hz4 : ∀ q : HW (fun wx => Frm [sb, ab, wb] w wx), q.w.cell? ⟨lb, 4, none⟩ = some (.int .i64 d) := fun q => (h.box.frm q.h (by simp; have := HN.out; omega)).cell (i := 4) rfl
  clear h h0 hj
  go_enter Try.func52, Try.ntmps52
  go_wp2_with fail
  refine held_begin (S := fun wx => Frm [sb, ab, wb] w wx) (by kernel_rfl) ?_
  refine held_row_at (fuel := 5) (is := [0, 1, 2, 3, 4, 5, 6]) (.cons rfl (.cons rfl (.cons rfl (.cons rfl (.cons rfl (.cons rfl (.cons rfl .nil))))))) (by kernel_rfl) (fun _ _ _ _ _ h => h) rfl (by kernel_rfl) (Frm.refl _ _).drew1 ?_
  intro K hK
  repeat (go_big_quiet_step (fail))
  refine wpQuiet_nil (hK _ ?_)
  clear hK K
  refine held_call (fuel := 4) (i := 7) rfl (by kernel_rfl) ?_
  go_wp2_with fail
  refine (HNX.out _ ((Frm.refl _ _).drew1) _).mono ?_; rintro e w' ⟨rfl, rfl⟩
  go_wp2_with fail
  refine onNormal_mk ⟨(Frm.refl _ _).drew1, ?_⟩
  refine held_call (fuel := 3) (i := 8) rfl (by kernel_rfl) ?_
  go_wp2_with fail
  refine (Load_any (H.out.ar.frm (S := []) ((Frm.refl _ _).drew1) (by simp) (by simp)) (mNext tail ((j : Int) + 1))).mono ?_; rw [HG.out]; rintro e w1 ⟨rfl, hA, hF⟩; have HF1 := Lib.hid (((Frm.refl [ab, wb] w).drew1).trans hF); have H1 := Lib.hid (H.out.ar_ HF1.out hA); have j1 := H1.out.p HJ.out (t := 1) (by omega); have j2 := H1.out.p HJ.out (t := 2) (by omega); have j3 := H1.out.p HJ.out (t := 3) (by omega); have jd := H1.out.box.cell (i := 4) rfl; have jz := H1.out.row.frozen; have jy := H1.out.box.frozen; clear hA hF
  go_wp2_with fail
  refine onNormal_mk ⟨(HF1.out.mono (S' := [sb, ab, wb]) (by simp)), ?_⟩
  refine held_row_at (fuel := 1) (is := [9, 10]) (.cons rfl (.cons rfl .nil)) (by kernel_rfl) (fun _ _ _ _ _ h => h) rfl (by kernel_rfl) (HF1.out.mono (S' := [sb, ab, wb]) (by simp)) ?_
  intro K hK
  repeat (go_big_quiet_step (fail))
  refine wpQuiet_nil (hK _ ?_)
  clear hK K
  refine held_call (fuel := 0) (i := 11) rfl (by kernel_rfl) ?_
  go_wp2_with fail
  refine onNormal_mk ⟨((HF1.out.mono (S' := [sb, ab, wb]) (by simp)).set ⟨sb, j * 4 + 1, none⟩ (.int .i64 0) (.inl (by simp))), ?_⟩
  refine held_end (by kernel_rfl) ?_
  clear hne hz0 hz1 hz2 hz3 hz4
  have HB := Lib.hid (H1.out.put j (t := 1) (by omega) 0)
  have HF2 := Lib.hid ((HF1.out.mono (S' := [lb, sb, bb, ab, wb]) (by simp)).set ⟨sb, j * 4 + 1, none⟩ (.int .i64 0) (.inl (by simp)))
  clear H1 HF1 j1 j2 j3 jd jz jy
  generalize (w1.setCell ⟨sb, j * 4 + 1, none⟩ (.int .i64 0)) = W2 at *
  have k0 : W2.cell? ⟨sb, j * 4, none⟩ = some (.int .i64 17) := by rw [← H0.out]; exact (HB.out.p0 HJ.out).trans (by unfold spPut; simp)
  have kt : W2.cell? ⟨sb, j * 4 + 1, none⟩ = some (.int .i64 0) := (HB.out.p HJ.out (t := 1) (by omega)).trans (by unfold spPut; simp)
  go_wp2
  go_ret
  exact ⟨rfl, HB.out, HF2.out⟩
set_option maxRecDepth 100000 in
theorem m_17b (h : MAt w lb sb bb ab wb tail first n bud A B d S) {j : Nat} (hj : j < n) (h0 : S j 0 = 17) (hg : ¬ A.get (mNext tail ((j : Int) + 1)) = 0) : Calls Try.prog 52 #[.pointer (some ⟨lb, 0, none⟩), .pointer (some ⟨sb, j * 4, none⟩), .int .i64 ((j : Int) + 1)] w fun e w' => e = .returned (.int .i64 14) ∧
    MAt w' lb sb bb ab wb tail first n bud (A.load (mNext tail ((j : Int) + 1))) (B) (d) (spPut S j 1 (A.get (mNext tail ((j : Int) + 1)))) ∧ Frm [lb, sb, bb, ab, wb] w w' := by
  have HN := Lib.hid h.ne
  have HJ := Lib.hid hj
  have hn32 := h.n32
  have htb := h.tb
  have c0 : w.cell? ⟨sb, j * 4, none⟩ = some (.int .i64 17) := by rw [← h0]; exact h.p0 hj
  have c1 := h.p hj (t := 1) (by omega)
  have c2 := h.p hj (t := 2) (by omega)
  have c3 := h.p hj (t := 3) (by omega)
  have l0 := h.box.cell (i := 0) rfl
  have l1 := h.box.cell (i := 1) rfl
  have l2 := h.box.cell (i := 2) rfl
  have l3 := h.box.cell (i := 3) rfl
  have H := Lib.hid h
  have H0 := Lib.hid h0
  have HNX := Lib.hid (fun (W : World) (hf : Frm [] w W) (y : Int) => mNext_any (h.frm hf (by simp)) y)
  have HWT := Lib.hid (fun (W : World) (hf : Frm [] w W) (y : Int) => mWait_any (h.frm hf (by simp)) y)
  generalize hv : A.get (mNext tail ((j : Int) + 1)) = v at hg ⊢
  have HG := Lib.hid hv
  clear hv
  have e0 : (v == 0) = false := by simpa using hg
  have e1 : (v != 0) = true := by simpa using hg
  clear hg
  have hne : Nonempty (HW (fun wx => Frm [sb, ab, wb] w wx)) := ⟨⟨w, Frm.refl _ _⟩⟩
  have hz0 : ∀ q : HW (fun wx => Frm [sb, ab, wb] w wx), q.w.cell? ⟨lb, 0, none⟩ = some (.pointer (some ⟨ab, 0, none⟩)) := fun q => (h.box.frm q.h (by simp; have := HN.out; omega)).cell (i := 0) rfl
  have hz1 : ∀ q : HW (fun wx => Frm [sb, ab, wb] w wx), q.w.cell? ⟨lb, 1, none⟩ = some (.int .i64 tail) := fun q => (h.box.frm q.h (by simp; have := HN.out; omega)).cell (i := 1) rfl
  have hz2 : ∀ q : HW (fun wx => Frm [sb, ab, wb] w wx), q.w.cell? ⟨lb, 2, none⟩ = some (.int .i64 bud) := fun q => (h.box.frm q.h (by simp; have := HN.out; omega)).cell (i := 2) rfl
  have hz3 : ∀ q : HW (fun wx => Frm [sb, ab, wb] w wx), q.w.cell? ⟨lb, 3, none⟩ = some (.pointer (some ⟨bb, 0, none⟩)) := fun q => (h.box.frm q.h (by simp; have := HN.out; omega)).cell (i := 3) rfl
  have hz4 : ∀ q : HW (fun wx => Frm [sb, ab, wb] w wx), q.w.cell? ⟨lb, 4, none⟩ = some (.int .i64 d) := fun q => (h.box.frm q.h (by simp; have := HN.out; omega)).cell (i := 4) rfl
  clear h h0 hj
  go_enter Try.func52, Try.ntmps52
  go_wp2_with fail
  refine held_begin (S := fun wx => Frm [sb, ab, wb] w wx) (by kernel_rfl) ?_
  refine held_row_at (fuel := 5) (is := [0, 1, 2, 3, 4, 5, 6]) (.cons rfl (.cons rfl (.cons rfl (.cons rfl (.cons rfl (.cons rfl (.cons rfl .nil))))))) (by kernel_rfl) (fun _ _ _ _ _ h => h) rfl (by kernel_rfl) (Frm.refl _ _).drew1 ?_
  intro K hK
  repeat (go_big_quiet_step (fail))
  refine wpQuiet_nil (hK _ ?_)
  clear hK K
  refine held_call (fuel := 4) (i := 7) rfl (by kernel_rfl) ?_
  go_wp2_with fail
  refine (HNX.out _ ((Frm.refl _ _).drew1) _).mono ?_; rintro e w' ⟨rfl, rfl⟩
  go_wp2_with fail
  refine onNormal_mk ⟨(Frm.refl _ _).drew1, ?_⟩
  refine held_call (fuel := 3) (i := 8) rfl (by kernel_rfl) ?_
  go_wp2_with fail
  refine (Load_any (H.out.ar.frm (S := []) ((Frm.refl _ _).drew1) (by simp) (by simp)) (mNext tail ((j : Int) + 1))).mono ?_; rw [HG.out]; rintro e w1 ⟨rfl, hA, hF⟩; have HF1 := Lib.hid (((Frm.refl [ab, wb] w).drew1).trans hF); have H1 := Lib.hid (H.out.ar_ HF1.out hA); have j1 := H1.out.p HJ.out (t := 1) (by omega); have j2 := H1.out.p HJ.out (t := 2) (by omega); have j3 := H1.out.p HJ.out (t := 3) (by omega); have jd := H1.out.box.cell (i := 4) rfl; have jz := H1.out.row.frozen; have jy := H1.out.box.frozen; clear hA hF
  go_wp2_with fail
  refine onNormal_mk ⟨(HF1.out.mono (S' := [sb, ab, wb]) (by simp)), ?_⟩
  refine held_row_at (fuel := 1) (is := [9, 10]) (.cons rfl (.cons rfl .nil)) (by kernel_rfl) (fun _ _ _ _ _ h => h) rfl (by kernel_rfl) (HF1.out.mono (S' := [sb, ab, wb]) (by simp)) ?_
  intro K hK
  repeat (go_big_quiet_step (fail))
  refine wpQuiet_nil (hK _ ?_)
  clear hK K
  refine held_call (fuel := 0) (i := 11) rfl (by kernel_rfl) ?_
  go_wp2_with fail
  refine onNormal_mk ⟨((HF1.out.mono (S' := [sb, ab, wb]) (by simp)).set ⟨sb, j * 4 + 1, none⟩ (.int .i64 v) (.inl (by simp))), ?_⟩
  refine held_end (by kernel_rfl) ?_
  clear hne hz0 hz1 hz2 hz3 hz4
  have HB := Lib.hid (H1.out.put j (t := 1) (by omega) v)
  have HF2 := Lib.hid ((HF1.out.mono (S' := [lb, sb, bb, ab, wb]) (by simp)).set ⟨sb, j * 4 + 1, none⟩ (.int .i64 v) (.inl (by simp)))
  clear H1 HF1 j1 j2 j3 jd jz jy
  generalize (w1.setCell ⟨sb, j * 4 + 1, none⟩ (.int .i64 v)) = W2 at *
  have k0 : W2.cell? ⟨sb, j * 4, none⟩ = some (.int .i64 17) := by rw [← H0.out]; exact (HB.out.p0 HJ.out).trans (by unfold spPut; simp)
  have kt : W2.cell? ⟨sb, j * 4 + 1, none⟩ = some (.int .i64 v) := (HB.out.p HJ.out (t := 1) (by omega)).trans (by unfold spPut; simp)
  go_wp2
  go_ret
  exact ⟨rfl, HB.out, HF2.out⟩
set_option maxRecDepth 100000 in
theorem m_20a (h : MAt w lb sb bb ab wb tail first n bud A B d S) {j : Nat} (hj : j < n) (h0 : S j 0 = 20) (hg : A.get (mNext tail ((j : Int) + 1)) = 0) : Calls Try.prog 52 #[.pointer (some ⟨lb, 0, none⟩), .pointer (some ⟨sb, j * 4, none⟩), .int .i64 ((j : Int) + 1)] w fun e w' => e = .returned (.int .i64 20) ∧
    MAt w' lb sb bb ab wb tail first n bud (A.load (mNext tail ((j : Int) + 1))) (B) (d) (spPut S j 1 (A.get (mNext tail ((j : Int) + 1)))) ∧ Frm [lb, sb, bb, ab, wb] w w' := by
  have HN := Lib.hid h.ne
  have HJ := Lib.hid hj
  have hn32 := h.n32
  have htb := h.tb
  have c0 : w.cell? ⟨sb, j * 4, none⟩ = some (.int .i64 20) := by rw [← h0]; exact h.p0 hj
  have c1 := h.p hj (t := 1) (by omega)
  have c2 := h.p hj (t := 2) (by omega)
  have c3 := h.p hj (t := 3) (by omega)
  have l0 := h.box.cell (i := 0) rfl
  have l1 := h.box.cell (i := 1) rfl
  have l2 := h.box.cell (i := 2) rfl
  have l3 := h.box.cell (i := 3) rfl
  have H := Lib.hid h
  have H0 := Lib.hid h0
  have HNX := Lib.hid (fun (W : World) (hf : Frm [] w W) (y : Int) => mNext_any (h.frm hf (by simp)) y)
  have HWT := Lib.hid (fun (W : World) (hf : Frm [] w W) (y : Int) => mWait_any (h.frm hf (by simp)) y)
  have HG := Lib.hid hg
  rw [hg]
  clear hg
  have hne : Nonempty (HW (fun wx => Frm [sb, ab, wb] w wx)) := ⟨⟨w, Frm.refl _ _⟩⟩
  have hz0 : ∀ q : HW (fun wx => Frm [sb, ab, wb] w wx), q.w.cell? ⟨lb, 0, none⟩ = some (.pointer (some ⟨ab, 0, none⟩)) := fun q => (h.box.frm q.h (by simp; have := HN.out; omega)).cell (i := 0) rfl
  have hz1 : ∀ q : HW (fun wx => Frm [sb, ab, wb] w wx), q.w.cell? ⟨lb, 1, none⟩ = some (.int .i64 tail) := fun q => (h.box.frm q.h (by simp; have := HN.out; omega)).cell (i := 1) rfl
  have hz2 : ∀ q : HW (fun wx => Frm [sb, ab, wb] w wx), q.w.cell? ⟨lb, 2, none⟩ = some (.int .i64 bud) := fun q => (h.box.frm q.h (by simp; have := HN.out; omega)).cell (i := 2) rfl
  have hz3 : ∀ q : HW (fun wx => Frm [sb, ab, wb] w wx), q.w.cell? ⟨lb, 3, none⟩ = some (.pointer (some ⟨bb, 0, none⟩)) := fun q => (h.box.frm q.h (by simp; have := HN.out; omega)).cell (i := 3) rfl
  have hz4 : ∀ q : HW (fun wx => Frm [sb, ab, wb] w wx), q.w.cell? ⟨lb, 4, none⟩ = some (.int .i64 d) := fun q => (h.box.frm q.h (by simp; have := HN.out; omega)).cell (i := 4) rfl
  clear h h0 hj
  go_enter Try.func52, Try.ntmps52
  go_wp2_with fail
  refine held_begin (S := fun wx => Frm [sb, ab, wb] w wx) (by kernel_rfl) ?_
  refine held_row_at (fuel := 5) (is := [0, 1, 2, 3, 4, 5, 6]) (.cons rfl (.cons rfl (.cons rfl (.cons rfl (.cons rfl (.cons rfl (.cons rfl .nil))))))) (by kernel_rfl) (fun _ _ _ _ _ h => h) rfl (by kernel_rfl) (Frm.refl _ _).drew1 ?_
  intro K hK
  repeat (go_big_quiet_step (fail))
  refine wpQuiet_nil (hK _ ?_)
  clear hK K
  refine held_call (fuel := 4) (i := 7) rfl (by kernel_rfl) ?_
  go_wp2_with fail
  refine (HNX.out _ ((Frm.refl _ _).drew1) _).mono ?_; rintro e w' ⟨rfl, rfl⟩
  go_wp2_with fail
  refine onNormal_mk ⟨(Frm.refl _ _).drew1, ?_⟩
  refine held_call (fuel := 3) (i := 8) rfl (by kernel_rfl) ?_
  go_wp2_with fail
  refine (Load_any (H.out.ar.frm (S := []) ((Frm.refl _ _).drew1) (by simp) (by simp)) (mNext tail ((j : Int) + 1))).mono ?_; rw [HG.out]; rintro e w1 ⟨rfl, hA, hF⟩; have HF1 := Lib.hid (((Frm.refl [ab, wb] w).drew1).trans hF); have H1 := Lib.hid (H.out.ar_ HF1.out hA); have j1 := H1.out.p HJ.out (t := 1) (by omega); have j2 := H1.out.p HJ.out (t := 2) (by omega); have j3 := H1.out.p HJ.out (t := 3) (by omega); have jd := H1.out.box.cell (i := 4) rfl; have jz := H1.out.row.frozen; have jy := H1.out.box.frozen; clear hA hF
  go_wp2_with fail
  refine onNormal_mk ⟨(HF1.out.mono (S' := [sb, ab, wb]) (by simp)), ?_⟩
  refine held_row_at (fuel := 1) (is := [9, 10]) (.cons rfl (.cons rfl .nil)) (by kernel_rfl) (fun _ _ _ _ _ h => h) rfl (by kernel_rfl) (HF1.out.mono (S' := [sb, ab, wb]) (by simp)) ?_
  intro K hK
  repeat (go_big_quiet_step (fail))
  refine wpQuiet_nil (hK _ ?_)
  clear hK K
  refine held_call (fuel := 0) (i := 11) rfl (by kernel_rfl) ?_
  go_wp2_with fail
  refine onNormal_mk ⟨((HF1.out.mono (S' := [sb, ab, wb]) (by simp)).set ⟨sb, j * 4 + 1, none⟩ (.int .i64 0) (.inl (by simp))), ?_⟩
  refine held_end (by kernel_rfl) ?_
  clear hne hz0 hz1 hz2 hz3 hz4
  have HB := Lib.hid (H1.out.put j (t := 1) (by omega) 0)
  have HF2 := Lib.hid ((HF1.out.mono (S' := [lb, sb, bb, ab, wb]) (by simp)).set ⟨sb, j * 4 + 1, none⟩ (.int .i64 0) (.inl (by simp)))
  clear H1 HF1 j1 j2 j3 jd jz jy
  generalize (w1.setCell ⟨sb, j * 4 + 1, none⟩ (.int .i64 0)) = W2 at *
  have k0 : W2.cell? ⟨sb, j * 4, none⟩ = some (.int .i64 20) := by rw [← H0.out]; exact (HB.out.p0 HJ.out).trans (by unfold spPut; simp)
  have kt : W2.cell? ⟨sb, j * 4 + 1, none⟩ = some (.int .i64 0) := (HB.out.p HJ.out (t := 1) (by omega)).trans (by unfold spPut; simp)
  go_wp2
  go_ret
  exact ⟨rfl, HB.out, HF2.out⟩
set_option maxRecDepth 100000 in
theorem m_20b (h : MAt w lb sb bb ab wb tail first n bud A B d S) {j : Nat} (hj : j < n) (h0 : S j 0 = 20) (hg : ¬ A.get (mNext tail ((j : Int) + 1)) = 0) : Calls Try.prog 52 #[.pointer (some ⟨lb, 0, none⟩), .pointer (some ⟨sb, j * 4, none⟩), .int .i64 ((j : Int) + 1)] w fun e w' => e = .returned (.int .i64 21) ∧
    MAt w' lb sb bb ab wb tail first n bud (A.load (mNext tail ((j : Int) + 1))) (B) (d) (spPut S j 1 (A.get (mNext tail ((j : Int) + 1)))) ∧ Frm [lb, sb, bb, ab, wb] w w' := by
  have HN := Lib.hid h.ne
  have HJ := Lib.hid hj
  have hn32 := h.n32
  have htb := h.tb
  have c0 : w.cell? ⟨sb, j * 4, none⟩ = some (.int .i64 20) := by rw [← h0]; exact h.p0 hj
  have c1 := h.p hj (t := 1) (by omega)
  have c2 := h.p hj (t := 2) (by omega)
  have c3 := h.p hj (t := 3) (by omega)
  have l0 := h.box.cell (i := 0) rfl
  have l1 := h.box.cell (i := 1) rfl
  have l2 := h.box.cell (i := 2) rfl
  have l3 := h.box.cell (i := 3) rfl
  have H := Lib.hid h
  have H0 := Lib.hid h0
  have HNX := Lib.hid (fun (W : World) (hf : Frm [] w W) (y : Int) => mNext_any (h.frm hf (by simp)) y)
  have HWT := Lib.hid (fun (W : World) (hf : Frm [] w W) (y : Int) => mWait_any (h.frm hf (by simp)) y)
  generalize hv : A.get (mNext tail ((j : Int) + 1)) = v at hg ⊢
  have HG := Lib.hid hv
  clear hv
  have e0 : (v == 0) = false := by simpa using hg
  have e1 : (v != 0) = true := by simpa using hg
  clear hg
  have hne : Nonempty (HW (fun wx => Frm [sb, ab, wb] w wx)) := ⟨⟨w, Frm.refl _ _⟩⟩
  have hz0 : ∀ q : HW (fun wx => Frm [sb, ab, wb] w wx), q.w.cell? ⟨lb, 0, none⟩ = some (.pointer (some ⟨ab, 0, none⟩)) := fun q => (h.box.frm q.h (by simp; have := HN.out; omega)).cell (i := 0) rfl
  have hz1 : ∀ q : HW (fun wx => Frm [sb, ab, wb] w wx), q.w.cell? ⟨lb, 1, none⟩ = some (.int .i64 tail) := fun q => (h.box.frm q.h (by simp; have := HN.out; omega)).cell (i := 1) rfl
  have hz2 : ∀ q : HW (fun wx => Frm [sb, ab, wb] w wx), q.w.cell? ⟨lb, 2, none⟩ = some (.int .i64 bud) := fun q => (h.box.frm q.h (by simp; have := HN.out; omega)).cell (i := 2) rfl
  have hz3 : ∀ q : HW (fun wx => Frm [sb, ab, wb] w wx), q.w.cell? ⟨lb, 3, none⟩ = some (.pointer (some ⟨bb, 0, none⟩)) := fun q => (h.box.frm q.h (by simp; have := HN.out; omega)).cell (i := 3) rfl
  have hz4 : ∀ q : HW (fun wx => Frm [sb, ab, wb] w wx), q.w.cell? ⟨lb, 4, none⟩ = some (.int .i64 d) := fun q => (h.box.frm q.h (by simp; have := HN.out; omega)).cell (i := 4) rfl
  clear h h0 hj
  go_enter Try.func52, Try.ntmps52
  go_wp2_with fail
  refine held_begin (S := fun wx => Frm [sb, ab, wb] w wx) (by kernel_rfl) ?_
  refine held_row_at (fuel := 5) (is := [0, 1, 2, 3, 4, 5, 6]) (.cons rfl (.cons rfl (.cons rfl (.cons rfl (.cons rfl (.cons rfl (.cons rfl .nil))))))) (by kernel_rfl) (fun _ _ _ _ _ h => h) rfl (by kernel_rfl) (Frm.refl _ _).drew1 ?_
  intro K hK
  repeat (go_big_quiet_step (fail))
  refine wpQuiet_nil (hK _ ?_)
  clear hK K
  refine held_call (fuel := 4) (i := 7) rfl (by kernel_rfl) ?_
  go_wp2_with fail
  refine (HNX.out _ ((Frm.refl _ _).drew1) _).mono ?_; rintro e w' ⟨rfl, rfl⟩
  go_wp2_with fail
  refine onNormal_mk ⟨(Frm.refl _ _).drew1, ?_⟩
  refine held_call (fuel := 3) (i := 8) rfl (by kernel_rfl) ?_
  go_wp2_with fail
  refine (Load_any (H.out.ar.frm (S := []) ((Frm.refl _ _).drew1) (by simp) (by simp)) (mNext tail ((j : Int) + 1))).mono ?_; rw [HG.out]; rintro e w1 ⟨rfl, hA, hF⟩; have HF1 := Lib.hid (((Frm.refl [ab, wb] w).drew1).trans hF); have H1 := Lib.hid (H.out.ar_ HF1.out hA); have j1 := H1.out.p HJ.out (t := 1) (by omega); have j2 := H1.out.p HJ.out (t := 2) (by omega); have j3 := H1.out.p HJ.out (t := 3) (by omega); have jd := H1.out.box.cell (i := 4) rfl; have jz := H1.out.row.frozen; have jy := H1.out.box.frozen; clear hA hF
  go_wp2_with fail
  refine onNormal_mk ⟨(HF1.out.mono (S' := [sb, ab, wb]) (by simp)), ?_⟩
  refine held_row_at (fuel := 1) (is := [9, 10]) (.cons rfl (.cons rfl .nil)) (by kernel_rfl) (fun _ _ _ _ _ h => h) rfl (by kernel_rfl) (HF1.out.mono (S' := [sb, ab, wb]) (by simp)) ?_
  intro K hK
  repeat (go_big_quiet_step (fail))
  refine wpQuiet_nil (hK _ ?_)
  clear hK K
  refine held_call (fuel := 0) (i := 11) rfl (by kernel_rfl) ?_
  go_wp2_with fail
  refine onNormal_mk ⟨((HF1.out.mono (S' := [sb, ab, wb]) (by simp)).set ⟨sb, j * 4 + 1, none⟩ (.int .i64 v) (.inl (by simp))), ?_⟩
  refine held_end (by kernel_rfl) ?_
  clear hne hz0 hz1 hz2 hz3 hz4
  have HB := Lib.hid (H1.out.put j (t := 1) (by omega) v)
  have HF2 := Lib.hid ((HF1.out.mono (S' := [lb, sb, bb, ab, wb]) (by simp)).set ⟨sb, j * 4 + 1, none⟩ (.int .i64 v) (.inl (by simp)))
  clear H1 HF1 j1 j2 j3 jd jz jy
  generalize (w1.setCell ⟨sb, j * 4 + 1, none⟩ (.int .i64 v)) = W2 at *
  have k0 : W2.cell? ⟨sb, j * 4, none⟩ = some (.int .i64 20) := by rw [← H0.out]; exact (HB.out.p0 HJ.out).trans (by unfold spPut; simp)
  have kt : W2.cell? ⟨sb, j * 4 + 1, none⟩ = some (.int .i64 v) := (HB.out.p HJ.out (t := 1) (by omega)).trans (by unfold spPut; simp)
  go_wp2
  go_ret
  exact ⟨rfl, HB.out, HF2.out⟩
set_option maxRecDepth 100000 in
theorem m_18 (h : MAt w lb sb bb ab wb tail first n bud A B d S) {j : Nat} (hj : j < n) (h0 : S j 0 = 18) : Calls Try.prog 52 #[.pointer (some ⟨lb, 0, none⟩), .pointer (some ⟨sb, j * 4, none⟩), .int .i64 ((j : Int) + 1)] w fun e w' => e = .returned (.int .i64 0) ∧
    MAt w' lb sb bb ab wb tail first n bud (A.store (mWait tail (S j 2)) 0) (B) (d) (S) ∧ Frm [lb, sb, bb, ab, wb] w w' := by
  have HN := Lib.hid h.ne
  have HJ := Lib.hid hj
  have hn32 := h.n32
  have htb := h.tb
  have c0 : w.cell? ⟨sb, j * 4, none⟩ = some (.int .i64 18) := by rw [← h0]; exact h.p0 hj
  have c1 := h.p hj (t := 1) (by omega)
  have c2 := h.p hj (t := 2) (by omega)
  have c3 := h.p hj (t := 3) (by omega)
  have l0 := h.box.cell (i := 0) rfl
  have l1 := h.box.cell (i := 1) rfl
  have l2 := h.box.cell (i := 2) rfl
  have l3 := h.box.cell (i := 3) rfl
  have H := Lib.hid h
  have H0 := Lib.hid h0
  have HNX := Lib.hid (fun (W : World) (hf : Frm [] w W) (y : Int) => mNext_any (h.frm hf (by simp)) y)
  have HWT := Lib.hid (fun (W : World) (hf : Frm [] w W) (y : Int) => mWait_any (h.frm hf (by simp)) y)
  have hne : Nonempty (HW (fun wx => Frm [ab, wb] w wx)) := ⟨⟨w, Frm.refl _ _⟩⟩
  have hz0 : ∀ q : HW (fun wx => Frm [ab, wb] w wx), q.w.cell? ⟨lb, 0, none⟩ = some (.pointer (some ⟨ab, 0, none⟩)) := fun q => (h.box.frm q.h (by simp; have := HN.out; omega)).cell (i := 0) rfl
  have hz1 : ∀ q : HW (fun wx => Frm [ab, wb] w wx), q.w.cell? ⟨lb, 1, none⟩ = some (.int .i64 tail) := fun q => (h.box.frm q.h (by simp; have := HN.out; omega)).cell (i := 1) rfl
  have hz2 : ∀ q : HW (fun wx => Frm [ab, wb] w wx), q.w.cell? ⟨lb, 2, none⟩ = some (.int .i64 bud) := fun q => (h.box.frm q.h (by simp; have := HN.out; omega)).cell (i := 2) rfl
  have hz3 : ∀ q : HW (fun wx => Frm [ab, wb] w wx), q.w.cell? ⟨lb, 3, none⟩ = some (.pointer (some ⟨bb, 0, none⟩)) := fun q => (h.box.frm q.h (by simp; have := HN.out; omega)).cell (i := 3) rfl
  have hz4 : ∀ q : HW (fun wx => Frm [ab, wb] w wx), q.w.cell? ⟨lb, 4, none⟩ = some (.int .i64 d) := fun q => (h.box.frm q.h (by simp; have := HN.out; omega)).cell (i := 4) rfl
  have hy1 : ∀ q : HW (fun wx => Frm [ab, wb] w wx), q.w.cell? ⟨sb, j * 4 + 1, none⟩ = some (.int .i64 (S j 1)) := fun q => (h.row.frm q.h (by simp; have := HN.out; omega)).cell (spC_get n S hj (by omega))
  have hy2 : ∀ q : HW (fun wx => Frm [ab, wb] w wx), q.w.cell? ⟨sb, j * 4 + 2, none⟩ = some (.int .i64 (S j 2)) := fun q => (h.row.frm q.h (by simp; have := HN.out; omega)).cell (spC_get n S hj (by omega))
  have hy3 : ∀ q : HW (fun wx => Frm [ab, wb] w wx), q.w.cell? ⟨sb, j * 4 + 3, none⟩ = some (.int .i64 (S j 3)) := fun q => (h.row.frm q.h (by simp; have := HN.out; omega)).cell (spC_get n S hj (by omega))
  clear h h0 hj
  go_enter Try.func52, Try.ntmps52
  go_wp2_with fail
  refine held_begin (S := fun wx => Frm [ab, wb] w wx) (by kernel_rfl) ?_
  refine held_row_at (fuel := 2) (is := [0, 1, 2, 3, 4, 5, 6, 7, 8]) (.cons rfl (.cons rfl (.cons rfl (.cons rfl (.cons rfl (.cons rfl (.cons rfl (.cons rfl (.cons rfl .nil))))))))) (by kernel_rfl) (fun _ _ _ _ _ h => h) rfl (by kernel_rfl) (Frm.refl _ _).drew1 ?_
  intro K hK
  repeat (go_big_quiet_step (fail))
  refine wpQuiet_nil (hK _ ?_)
  clear hK K
  refine held_call (fuel := 1) (i := 9) rfl (by kernel_rfl) ?_
  go_wp2_with fail
  refine (HWT.out _ ((Frm.refl _ _).drew1) _).mono ?_; rintro e w' ⟨rfl, rfl⟩
  go_wp2_with fail
  refine onNormal_mk ⟨(Frm.refl _ _).drew1, ?_⟩
  refine held_call (fuel := 0) (i := 10) rfl (by kernel_rfl) ?_
  go_wp2_with fail
  refine (Store_any (H.out.ar.frm (S := []) ((Frm.refl _ _).drew1) (by simp) (by simp)) (mWait tail (S j 2)) (0)).mono ?_; rintro e w1 ⟨rfl, hA, hF⟩; have HF1 := Lib.hid (((Frm.refl [ab, wb] w).drew1).trans hF); have H1 := Lib.hid (H.out.ar_ HF1.out hA); have j1 := H1.out.p HJ.out (t := 1) (by omega); have j2 := H1.out.p HJ.out (t := 2) (by omega); have j3 := H1.out.p HJ.out (t := 3) (by omega); have jd := H1.out.box.cell (i := 4) rfl; have jz := H1.out.row.frozen; have jy := H1.out.box.frozen; clear hA hF
  go_wp2_with fail
  refine onNormal_mk ⟨HF1.out, ?_⟩
  refine held_end (by kernel_rfl) ?_
  clear hne hz0 hz1 hz2 hz3 hz4 hy1 hy2 hy3
  have HB := Lib.hid H1.out
  have HF2 := Lib.hid (HF1.out.mono (S' := [lb, sb, bb, ab, wb]) (by simp))
  have k0 : w1.cell? ⟨sb, j * 4, none⟩ = some (.int .i64 18) := by rw [← H0.out]; exact HB.out.p0 HJ.out
  have k1 := HB.out.p HJ.out (t := 1) (by omega)
  clear H1 HF1 j1 j2 j3 jd jz jy
  go_wp2
  go_ret
  exact ⟨rfl, HB.out, HF2.out⟩
set_option maxRecDepth 100000 in
theorem m_19a (h : MAt w lb sb bb ab wb tail first n bud A B d S) {j : Nat} (hj : j < n) (h0 : S j 0 = 19) (hg : A.casOk tail ((j : Int) + 1) = true) : Calls Try.prog 52 #[.pointer (some ⟨lb, 0, none⟩), .pointer (some ⟨sb, j * 4, none⟩), .int .i64 ((j : Int) + 1)] w fun e w' => e = .returned (.int .i64 0) ∧
    MAt w' lb sb bb ab wb tail first n bud (A.cas tail ((j : Int) + 1) 0) (B) (d) (S) ∧ Frm [lb, sb, bb, ab, wb] w w' := by
  have HN := Lib.hid h.ne
  have HJ := Lib.hid hj
  have hn32 := h.n32
  have htb := h.tb
  have c0 : w.cell? ⟨sb, j * 4, none⟩ = some (.int .i64 19) := by rw [← h0]; exact h.p0 hj
  have c1 := h.p hj (t := 1) (by omega)
  have c2 := h.p hj (t := 2) (by omega)
  have c3 := h.p hj (t := 3) (by omega)
  have l0 := h.box.cell (i := 0) rfl
  have l1 := h.box.cell (i := 1) rfl
  have l2 := h.box.cell (i := 2) rfl
  have l3 := h.box.cell (i := 3) rfl
  have H := Lib.hid h
  have H0 := Lib.hid h0
  have HNX := Lib.hid (fun (W : World) (hf : Frm [] w W) (y : Int) => mNext_any (h.frm hf (by simp)) y)
  have HWT := Lib.hid (fun (W : World) (hf : Frm [] w W) (y : Int) => mWait_any (h.frm hf (by simp)) y)
  have HG := Lib.hid hg
  clear hg
  have hne : Nonempty (HW (fun wx => Frm [ab, wb] w wx)) := ⟨⟨w, Frm.refl _ _⟩⟩
  have hz0 : ∀ q : HW (fun wx => Frm [ab, wb] w wx), q.w.cell? ⟨lb, 0, none⟩ = some (.pointer (some ⟨ab, 0, none⟩)) := fun q => (h.box.frm q.h (by simp; have := HN.out; omega)).cell (i := 0) rfl
  have hz1 : ∀ q : HW (fun wx => Frm [ab, wb] w wx), q.w.cell? ⟨lb, 1, none⟩ = some (.int .i64 tail) := fun q => (h.box.frm q.h (by simp; have := HN.out; omega)).cell (i := 1) rfl
  have hz2 : ∀ q : HW (fun wx => Frm [ab, wb] w wx), q.w.cell? ⟨lb, 2, none⟩ = some (.int .i64 bud) := fun q => (h.box.frm q.h (by simp; have := HN.out; omega)).cell (i := 2) rfl
  have hz3 : ∀ q : HW (fun wx => Frm [ab, wb] w wx), q.w.cell? ⟨lb, 3, none⟩ = some (.pointer (some ⟨bb, 0, none⟩)) := fun q => (h.box.frm q.h (by simp; have := HN.out; omega)).cell (i := 3) rfl
  have hz4 : ∀ q : HW (fun wx => Frm [ab, wb] w wx), q.w.cell? ⟨lb, 4, none⟩ = some (.int .i64 d) := fun q => (h.box.frm q.h (by simp; have := HN.out; omega)).cell (i := 4) rfl
  have hy1 : ∀ q : HW (fun wx => Frm [ab, wb] w wx), q.w.cell? ⟨sb, j * 4 + 1, none⟩ = some (.int .i64 (S j 1)) := fun q => (h.row.frm q.h (by simp; have := HN.out; omega)).cell (spC_get n S hj (by omega))
  have hy2 : ∀ q : HW (fun wx => Frm [ab, wb] w wx), q.w.cell? ⟨sb, j * 4 + 2, none⟩ = some (.int .i64 (S j 2)) := fun q => (h.row.frm q.h (by simp; have := HN.out; omega)).cell (spC_get n S hj (by omega))
  have hy3 : ∀ q : HW (fun wx => Frm [ab, wb] w wx), q.w.cell? ⟨sb, j * 4 + 3, none⟩ = some (.int .i64 (S j 3)) := fun q => (h.row.frm q.h (by simp; have := HN.out; omega)).cell (spC_get n S hj (by omega))
  clear h h0 hj
  go_enter Try.func52, Try.ntmps52
  go_wp2_with fail
  refine held_begin (S := fun wx => Frm [ab, wb] w wx) (by kernel_rfl) ?_
  refine held_row_at (fuel := 2) (is := [0, 1, 2, 3, 4, 5, 6, 7, 8]) (.cons rfl (.cons rfl (.cons rfl (.cons rfl (.cons rfl (.cons rfl (.cons rfl (.cons rfl (.cons rfl .nil))))))))) (by kernel_rfl) (fun _ _ _ _ _ h => h) rfl (by kernel_rfl) (Frm.refl _ _).drew1 ?_
  intro K hK
  repeat (go_big_quiet_step (fail))
  refine wpQuiet_nil (hK _ ?_)
  clear hK K
  refine held_call (fuel := 1) (i := 9) rfl (by kernel_rfl) ?_
  go_wp2_with fail
  refine (Cas_any (H.out.ar.frm (S := []) ((Frm.refl _ _).drew1) (by simp) (by simp)) (tail) ((j : Int) + 1) (0)).mono ?_; rw [HG.out]; rintro e w1 ⟨rfl, hA, hF⟩; have HF1 := Lib.hid (((Frm.refl [ab, wb] w).drew1).trans hF); have H1 := Lib.hid (H.out.ar_ HF1.out hA); have j1 := H1.out.p HJ.out (t := 1) (by omega); have j2 := H1.out.p HJ.out (t := 2) (by omega); have j3 := H1.out.p HJ.out (t := 3) (by omega); have jd := H1.out.box.cell (i := 4) rfl; have jz := H1.out.row.frozen; have jy := H1.out.box.frozen; clear hA hF
  go_wp2_with fail
  refine onNormal_mk ⟨HF1.out, ?_⟩
  refine held_row_at (fuel := 0) (is := [10]) (.cons rfl .nil) (by kernel_rfl) (fun _ _ _ _ _ h => h) rfl (by kernel_rfl) HF1.out ?_
  intro K hK
  repeat (go_big_quiet_step (fail))
  refine wpQuiet_nil (hK _ ?_)
  clear hK K
  refine held_end (by kernel_rfl) ?_
  clear hne hz0 hz1 hz2 hz3 hz4 hy1 hy2 hy3
  have HB := Lib.hid H1.out
  have HF2 := Lib.hid (HF1.out.mono (S' := [lb, sb, bb, ab, wb]) (by simp))
  have k0 : w1.cell? ⟨sb, j * 4, none⟩ = some (.int .i64 19) := by rw [← H0.out]; exact HB.out.p0 HJ.out
  have k1 := HB.out.p HJ.out (t := 1) (by omega)
  clear H1 HF1 j1 j2 j3 jd jz jy
  go_wp2
  go_ret
  exact ⟨rfl, HB.out, HF2.out⟩
set_option maxRecDepth 100000 in
theorem m_19b (h : MAt w lb sb bb ab wb tail first n bud A B d S) {j : Nat} (hj : j < n) (h0 : S j 0 = 19) (hg : A.casOk tail ((j : Int) + 1) = false) : Calls Try.prog 52 #[.pointer (some ⟨lb, 0, none⟩), .pointer (some ⟨sb, j * 4, none⟩), .int .i64 ((j : Int) + 1)] w fun e w' => e = .returned (.int .i64 20) ∧
    MAt w' lb sb bb ab wb tail first n bud (A.cas tail ((j : Int) + 1) 0) (B) (d) (S) ∧ Frm [lb, sb, bb, ab, wb] w w' := by
  have HN := Lib.hid h.ne
  have HJ := Lib.hid hj
  have hn32 := h.n32
  have htb := h.tb
  have c0 : w.cell? ⟨sb, j * 4, none⟩ = some (.int .i64 19) := by rw [← h0]; exact h.p0 hj
  have c1 := h.p hj (t := 1) (by omega)
  have c2 := h.p hj (t := 2) (by omega)
  have c3 := h.p hj (t := 3) (by omega)
  have l0 := h.box.cell (i := 0) rfl
  have l1 := h.box.cell (i := 1) rfl
  have l2 := h.box.cell (i := 2) rfl
  have l3 := h.box.cell (i := 3) rfl
  have H := Lib.hid h
  have H0 := Lib.hid h0
  have HNX := Lib.hid (fun (W : World) (hf : Frm [] w W) (y : Int) => mNext_any (h.frm hf (by simp)) y)
  have HWT := Lib.hid (fun (W : World) (hf : Frm [] w W) (y : Int) => mWait_any (h.frm hf (by simp)) y)
  have HG := Lib.hid hg
  clear hg
  have hne : Nonempty (HW (fun wx => Frm [ab, wb] w wx)) := ⟨⟨w, Frm.refl _ _⟩⟩
  have hz0 : ∀ q : HW (fun wx => Frm [ab, wb] w wx), q.w.cell? ⟨lb, 0, none⟩ = some (.pointer (some ⟨ab, 0, none⟩)) := fun q => (h.box.frm q.h (by simp; have := HN.out; omega)).cell (i := 0) rfl
  have hz1 : ∀ q : HW (fun wx => Frm [ab, wb] w wx), q.w.cell? ⟨lb, 1, none⟩ = some (.int .i64 tail) := fun q => (h.box.frm q.h (by simp; have := HN.out; omega)).cell (i := 1) rfl
  have hz2 : ∀ q : HW (fun wx => Frm [ab, wb] w wx), q.w.cell? ⟨lb, 2, none⟩ = some (.int .i64 bud) := fun q => (h.box.frm q.h (by simp; have := HN.out; omega)).cell (i := 2) rfl
  have hz3 : ∀ q : HW (fun wx => Frm [ab, wb] w wx), q.w.cell? ⟨lb, 3, none⟩ = some (.pointer (some ⟨bb, 0, none⟩)) := fun q => (h.box.frm q.h (by simp; have := HN.out; omega)).cell (i := 3) rfl
  have hz4 : ∀ q : HW (fun wx => Frm [ab, wb] w wx), q.w.cell? ⟨lb, 4, none⟩ = some (.int .i64 d) := fun q => (h.box.frm q.h (by simp; have := HN.out; omega)).cell (i := 4) rfl
  have hy1 : ∀ q : HW (fun wx => Frm [ab, wb] w wx), q.w.cell? ⟨sb, j * 4 + 1, none⟩ = some (.int .i64 (S j 1)) := fun q => (h.row.frm q.h (by simp; have := HN.out; omega)).cell (spC_get n S hj (by omega))
  have hy2 : ∀ q : HW (fun wx => Frm [ab, wb] w wx), q.w.cell? ⟨sb, j * 4 + 2, none⟩ = some (.int .i64 (S j 2)) := fun q => (h.row.frm q.h (by simp; have := HN.out; omega)).cell (spC_get n S hj (by omega))
  have hy3 : ∀ q : HW (fun wx => Frm [ab, wb] w wx), q.w.cell? ⟨sb, j * 4 + 3, none⟩ = some (.int .i64 (S j 3)) := fun q => (h.row.frm q.h (by simp; have := HN.out; omega)).cell (spC_get n S hj (by omega))
  clear h h0 hj
  go_enter Try.func52, Try.ntmps52
  go_wp2_with fail
  refine held_begin (S := fun wx => Frm [ab, wb] w wx) (by kernel_rfl) ?_
  refine held_row_at (fuel := 2) (is := [0, 1, 2, 3, 4, 5, 6, 7, 8]) (.cons rfl (.cons rfl (.cons rfl (.cons rfl (.cons rfl (.cons rfl (.cons rfl (.cons rfl (.cons rfl .nil))))))))) (by kernel_rfl) (fun _ _ _ _ _ h => h) rfl (by kernel_rfl) (Frm.refl _ _).drew1 ?_
  intro K hK
  repeat (go_big_quiet_step (fail))
  refine wpQuiet_nil (hK _ ?_)
  clear hK K
  refine held_call (fuel := 1) (i := 9) rfl (by kernel_rfl) ?_
  go_wp2_with fail
  refine (Cas_any (H.out.ar.frm (S := []) ((Frm.refl _ _).drew1) (by simp) (by simp)) (tail) ((j : Int) + 1) (0)).mono ?_; rw [HG.out]; rintro e w1 ⟨rfl, hA, hF⟩; have HF1 := Lib.hid (((Frm.refl [ab, wb] w).drew1).trans hF); have H1 := Lib.hid (H.out.ar_ HF1.out hA); have j1 := H1.out.p HJ.out (t := 1) (by omega); have j2 := H1.out.p HJ.out (t := 2) (by omega); have j3 := H1.out.p HJ.out (t := 3) (by omega); have jd := H1.out.box.cell (i := 4) rfl; have jz := H1.out.row.frozen; have jy := H1.out.box.frozen; clear hA hF
  go_wp2_with fail
  refine onNormal_mk ⟨HF1.out, ?_⟩
  refine held_row_at (fuel := 0) (is := [10]) (.cons rfl .nil) (by kernel_rfl) (fun _ _ _ _ _ h => h) rfl (by kernel_rfl) HF1.out ?_
  intro K hK
  repeat (go_big_quiet_step (fail))
  refine wpQuiet_nil (hK _ ?_)
  clear hK K
  refine held_end (by kernel_rfl) ?_
  clear hne hz0 hz1 hz2 hz3 hz4 hy1 hy2 hy3
  have HB := Lib.hid H1.out
  have HF2 := Lib.hid (HF1.out.mono (S' := [lb, sb, bb, ab, wb]) (by simp))
  have k0 : w1.cell? ⟨sb, j * 4, none⟩ = some (.int .i64 19) := by rw [← H0.out]; exact HB.out.p0 HJ.out
  have k1 := HB.out.p HJ.out (t := 1) (by omega)
  clear H1 HF1 j1 j2 j3 jd jz jy
  go_wp2
  go_ret
  exact ⟨rfl, HB.out, HF2.out⟩
set_option maxRecDepth 100000 in
theorem m_21a (h : MAt w lb sb bb ab wb tail first n bud A B d S) {j : Nat} (hj : j < n) (h0 : S j 0 = 21) (hg : A.get (mNext tail (S j 1)) = 0) : Calls Try.prog 52 #[.pointer (some ⟨lb, 0, none⟩), .pointer (some ⟨sb, j * 4, none⟩), .int .i64 ((j : Int) + 1)] w fun e w' => e = .returned (.int .i64 24) ∧
    MAt w' lb sb bb ab wb tail first n bud (A.load (mNext tail (S j 1))) (B) (A.get (mNext tail (S j 1))) (S) ∧ Frm [lb, sb, bb, ab, wb] w w' := by
  have HN := Lib.hid h.ne
  have HJ := Lib.hid hj
  have hn32 := h.n32
  have htb := h.tb
  have c0 : w.cell? ⟨sb, j * 4, none⟩ = some (.int .i64 21) := by rw [← h0]; exact h.p0 hj
  have c1 := h.p hj (t := 1) (by omega)
  have c2 := h.p hj (t := 2) (by omega)
  have c3 := h.p hj (t := 3) (by omega)
  have l0 := h.box.cell (i := 0) rfl
  have l1 := h.box.cell (i := 1) rfl
  have l2 := h.box.cell (i := 2) rfl
  have l3 := h.box.cell (i := 3) rfl
  have H := Lib.hid h
  have H0 := Lib.hid h0
  have HNX := Lib.hid (fun (W : World) (hf : Frm [] w W) (y : Int) => mNext_any (h.frm hf (by simp)) y)
  have HWT := Lib.hid (fun (W : World) (hf : Frm [] w W) (y : Int) => mWait_any (h.frm hf (by simp)) y)
  have HG := Lib.hid hg
  rw [hg]
  clear hg
  have hne : Nonempty (HW (fun wx => Frm [lb, ab, wb] w wx ∧ wx.cell? ⟨lb, 0, none⟩ = some (.pointer (some ⟨ab, 0, none⟩)))) := ⟨⟨w, ⟨Frm.refl _ _, l0⟩⟩⟩
  have hz0 : ∀ q : HW (fun wx => Frm [lb, ab, wb] w wx ∧ wx.cell? ⟨lb, 0, none⟩ = some (.pointer (some ⟨ab, 0, none⟩))), q.w.cell? ⟨lb, 0, none⟩ = some (.pointer (some ⟨ab, 0, none⟩)) := fun q => q.h.2
  have hy1 : ∀ q : HW (fun wx => Frm [lb, ab, wb] w wx ∧ wx.cell? ⟨lb, 0, none⟩ = some (.pointer (some ⟨ab, 0, none⟩))), q.w.cell? ⟨sb, j * 4 + 1, none⟩ = some (.int .i64 (S j 1)) := fun q => (h.row.frm q.h.1 (by simp; have := HN.out; omega)).cell (spC_get n S hj (by omega))
  have hy2 : ∀ q : HW (fun wx => Frm [lb, ab, wb] w wx ∧ wx.cell? ⟨lb, 0, none⟩ = some (.pointer (some ⟨ab, 0, none⟩))), q.w.cell? ⟨sb, j * 4 + 2, none⟩ = some (.int .i64 (S j 2)) := fun q => (h.row.frm q.h.1 (by simp; have := HN.out; omega)).cell (spC_get n S hj (by omega))
  have hy3 : ∀ q : HW (fun wx => Frm [lb, ab, wb] w wx ∧ wx.cell? ⟨lb, 0, none⟩ = some (.pointer (some ⟨ab, 0, none⟩))), q.w.cell? ⟨sb, j * 4 + 3, none⟩ = some (.int .i64 (S j 3)) := fun q => (h.row.frm q.h.1 (by simp; have := HN.out; omega)).cell (spC_get n S hj (by omega))
  clear h h0 hj
  go_enter Try.func52, Try.ntmps52
  go_wp2_with fail
  refine held_begin (S := fun wx => Frm [lb, ab, wb] w wx ∧ wx.cell? ⟨lb, 0, none⟩ = some (.pointer (some ⟨ab, 0, none⟩))) (by kernel_rfl) ?_
  refine held_row_at (fuel := 5) (is := [0, 1, 2, 3, 4, 5, 6, 7, 8, 9]) (.cons rfl (.cons rfl (.cons rfl (.cons rfl (.cons rfl (.cons rfl (.cons rfl (.cons rfl (.cons rfl (.cons rfl .nil)))))))))) (by kernel_rfl) (fun _ _ _ _ _ h => h) rfl (by kernel_rfl) ⟨(Frm.refl _ _).drew1, H.out.box.drew1.cell (i := 0) rfl⟩ ?_
  intro K hK
  repeat (go_big_quiet_step (fail))
  refine wpQuiet_nil (hK _ ?_)
  clear hK K
  refine held_call (fuel := 4) (i := 10) rfl (by kernel_rfl) ?_
  go_wp2_with fail
  refine (HNX.out _ ((Frm.refl _ _).drew1) _).mono ?_; rintro e w' ⟨rfl, rfl⟩
  go_wp2_with fail
  refine onNormal_mk ⟨⟨(Frm.refl _ _).drew1, H.out.box.drew1.cell (i := 0) rfl⟩, ?_⟩
  refine held_call (fuel := 3) (i := 11) rfl (by kernel_rfl) ?_
  go_wp2_with fail
  refine (Load_any (H.out.ar.frm (S := []) ((Frm.refl _ _).drew1) (by simp) (by simp)) (mNext tail (S j 1))).mono ?_; rw [HG.out]; rintro e w1 ⟨rfl, hA, hF⟩; have HF1 := Lib.hid (((Frm.refl [ab, wb] w).drew1).trans hF); have H1 := Lib.hid (H.out.ar_ HF1.out hA); have j1 := H1.out.p HJ.out (t := 1) (by omega); have j2 := H1.out.p HJ.out (t := 2) (by omega); have j3 := H1.out.p HJ.out (t := 3) (by omega); have jd := H1.out.box.cell (i := 4) rfl; have jz := H1.out.row.frozen; have jy := H1.out.box.frozen; clear hA hF
  go_wp2_with fail
  refine onNormal_mk ⟨⟨HF1.out.mono (S' := [lb, ab, wb]) (by simp), H1.out.box.cell (i := 0) rfl⟩, ?_⟩
  refine held_row_at (fuel := 1) (is := [12, 13]) (.cons rfl (.cons rfl .nil)) (by kernel_rfl) (fun _ _ _ _ _ h => h) rfl (by kernel_rfl) ⟨HF1.out.mono (S' := [lb, ab, wb]) (by simp), H1.out.box.cell (i := 0) rfl⟩ ?_
  intro K hK
  repeat (go_big_quiet_step (fail))
  refine wpQuiet_nil (hK _ ?_)
  clear hK K
  refine held_call (fuel := 0) (i := 14) rfl (by kernel_rfl) ?_
  go_wp2_with fail
  refine onNormal_mk ⟨⟨(HF1.out.mono (S' := [lb, ab, wb]) (by simp)).set ⟨lb, 4, none⟩ (.int .i64 0) (.inl (by simp)), (H1.out.box.set 4 (.int .i64 0)).cell (i := 0) rfl⟩, ?_⟩
  refine held_end (by kernel_rfl) ?_
  clear hne hz0 hy1 hy2 hy3
  have HB := Lib.hid (H1.out.setD 0)
  have HF2 := Lib.hid ((HF1.out.mono (S' := [lb, sb, bb, ab, wb]) (by simp)).set ⟨lb, 4, none⟩ (.int .i64 0) (.inl (by simp)))
  clear H1 HF1 j1 j2 j3 jd jz jy
  generalize (w1.setCell ⟨lb, 4, none⟩ (.int .i64 0)) = W2 at *
  have k0 : W2.cell? ⟨sb, j * 4, none⟩ = some (.int .i64 21) := by rw [← H0.out]; exact HB.out.p0 HJ.out
  have k1 := HB.out.p HJ.out (t := 1) (by omega)
  have m4 := HB.out.box.cell (i := 4) rfl
  have m3 := HB.out.box.cell (i := 3) rfl
  go_wp2
  go_ret
  exact ⟨rfl, HB.out, HF2.out⟩
set_option maxRecDepth 100000 in
theorem m_21b (h : MAt w lb sb bb ab wb tail first n bud A B d S) {j : Nat} (hj : j < n) (h0 : S j 0 = 21) (hg : ¬ A.get (mNext tail (S j 1)) = 0) : Calls Try.prog 52 #[.pointer (some ⟨lb, 0, none⟩), .pointer (some ⟨sb, j * 4, none⟩), .int .i64 ((j : Int) + 1)] w fun e w' => e = .returned (.int .i64 22) ∧
    MAt w' lb sb bb ab wb tail first n bud (A.load (mNext tail (S j 1))) (bPutB n B (S j 1)) (A.get (mNext tail (S j 1))) (S) ∧ Frm [lb, sb, bb, ab, wb] w w' := by
  have HN := Lib.hid h.ne
  have HJ := Lib.hid hj
  have hn32 := h.n32
  have htb := h.tb
  have c0 : w.cell? ⟨sb, j * 4, none⟩ = some (.int .i64 21) := by rw [← h0]; exact h.p0 hj
  have c1 := h.p hj (t := 1) (by omega)
  have c2 := h.p hj (t := 2) (by omega)
  have c3 := h.p hj (t := 3) (by omega)
  have l0 := h.box.cell (i := 0) rfl
  have l1 := h.box.cell (i := 1) rfl
  have l2 := h.box.cell (i := 2) rfl
  have l3 := h.box.cell (i := 3) rfl
  have H := Lib.hid h
  have H0 := Lib.hid h0
  have HNX := Lib.hid (fun (W : World) (hf : Frm [] w W) (y : Int) => mNext_any (h.frm hf (by simp)) y)
  have HWT := Lib.hid (fun (W : World) (hf : Frm [] w W) (y : Int) => mWait_any (h.frm hf (by simp)) y)
  generalize hv : A.get (mNext tail (S j 1)) = v at hg ⊢
  have HG := Lib.hid hv
  clear hv
  have e0 : (v == 0) = false := by simpa using hg
  have e1 : (v != 0) = true := by simpa using hg
  clear hg
  have hne : Nonempty (HW (fun wx => Frm [lb, ab, wb] w wx ∧ wx.cell? ⟨lb, 0, none⟩ = some (.pointer (some ⟨ab, 0, none⟩)))) := ⟨⟨w, ⟨Frm.refl _ _, l0⟩⟩⟩
  have hz0 : ∀ q : HW (fun wx => Frm [lb, ab, wb] w wx ∧ wx.cell? ⟨lb, 0, none⟩ = some (.pointer (some ⟨ab, 0, none⟩))), q.w.cell? ⟨lb, 0, none⟩ = some (.pointer (some ⟨ab, 0, none⟩)) := fun q => q.h.2
  have hy1 : ∀ q : HW (fun wx => Frm [lb, ab, wb] w wx ∧ wx.cell? ⟨lb, 0, none⟩ = some (.pointer (some ⟨ab, 0, none⟩))), q.w.cell? ⟨sb, j * 4 + 1, none⟩ = some (.int .i64 (S j 1)) := fun q => (h.row.frm q.h.1 (by simp; have := HN.out; omega)).cell (spC_get n S hj (by omega))
  have hy2 : ∀ q : HW (fun wx => Frm [lb, ab, wb] w wx ∧ wx.cell? ⟨lb, 0, none⟩ = some (.pointer (some ⟨ab, 0, none⟩))), q.w.cell? ⟨sb, j * 4 + 2, none⟩ = some (.int .i64 (S j 2)) := fun q => (h.row.frm q.h.1 (by simp; have := HN.out; omega)).cell (spC_get n S hj (by omega))
  have hy3 : ∀ q : HW (fun wx => Frm [lb, ab, wb] w wx ∧ wx.cell? ⟨lb, 0, none⟩ = some (.pointer (some ⟨ab, 0, none⟩))), q.w.cell? ⟨sb, j * 4 + 3, none⟩ = some (.int .i64 (S j 3)) := fun q => (h.row.frm q.h.1 (by simp; have := HN.out; omega)).cell (spC_get n S hj (by omega))
  clear h h0 hj
  go_enter Try.func52, Try.ntmps52
  go_wp2_with fail
  refine held_begin (S := fun wx => Frm [lb, ab, wb] w wx ∧ wx.cell? ⟨lb, 0, none⟩ = some (.pointer (some ⟨ab, 0, none⟩))) (by kernel_rfl) ?_
  refine held_row_at (fuel := 5) (is := [0, 1, 2, 3, 4, 5, 6, 7, 8, 9]) (.cons rfl (.cons rfl (.cons rfl (.cons rfl (.cons rfl (.cons rfl (.cons rfl (.cons rfl (.cons rfl (.cons rfl .nil)))))))))) (by kernel_rfl) (fun _ _ _ _ _ h => h) rfl (by kernel_rfl) ⟨(Frm.refl _ _).drew1, H.out.box.drew1.cell (i := 0) rfl⟩ ?_
  intro K hK
  repeat (go_big_quiet_step (fail))
  refine wpQuiet_nil (hK _ ?_)
  clear hK K
  refine held_call (fuel := 4) (i := 10) rfl (by kernel_rfl) ?_
  go_wp2_with fail
  refine (HNX.out _ ((Frm.refl _ _).drew1) _).mono ?_; rintro e w' ⟨rfl, rfl⟩
  go_wp2_with fail
  refine onNormal_mk ⟨⟨(Frm.refl _ _).drew1, H.out.box.drew1.cell (i := 0) rfl⟩, ?_⟩
  refine held_call (fuel := 3) (i := 11) rfl (by kernel_rfl) ?_
  go_wp2_with fail
  refine (Load_any (H.out.ar.frm (S := []) ((Frm.refl _ _).drew1) (by simp) (by simp)) (mNext tail (S j 1))).mono ?_; rw [HG.out]; rintro e w1 ⟨rfl, hA, hF⟩; have HF1 := Lib.hid (((Frm.refl [ab, wb] w).drew1).trans hF); have H1 := Lib.hid (H.out.ar_ HF1.out hA); have j1 := H1.out.p HJ.out (t := 1) (by omega); have j2 := H1.out.p HJ.out (t := 2) (by omega); have j3 := H1.out.p HJ.out (t := 3) (by omega); have jd := H1.out.box.cell (i := 4) rfl; have jz := H1.out.row.frozen; have jy := H1.out.box.frozen; clear hA hF
  go_wp2_with fail
  refine onNormal_mk ⟨⟨HF1.out.mono (S' := [lb, ab, wb]) (by simp), H1.out.box.cell (i := 0) rfl⟩, ?_⟩
  refine held_row_at (fuel := 1) (is := [12, 13]) (.cons rfl (.cons rfl .nil)) (by kernel_rfl) (fun _ _ _ _ _ h => h) rfl (by kernel_rfl) ⟨HF1.out.mono (S' := [lb, ab, wb]) (by simp), H1.out.box.cell (i := 0) rfl⟩ ?_
  intro K hK
  repeat (go_big_quiet_step (fail))
  refine wpQuiet_nil (hK _ ?_)
  clear hK K
  refine held_call (fuel := 0) (i := 14) rfl (by kernel_rfl) ?_
  go_wp2_with fail
  refine onNormal_mk ⟨⟨(HF1.out.mono (S' := [lb, ab, wb]) (by simp)).set ⟨lb, 4, none⟩ (.int .i64 v) (.inl (by simp)), (H1.out.box.set 4 (.int .i64 v)).cell (i := 0) rfl⟩, ?_⟩
  refine held_end (by kernel_rfl) ?_
  clear hne hz0 hy1 hy2 hy3
  have HB := Lib.hid (H1.out.setD v)
  have HF2 := Lib.hid ((HF1.out.mono (S' := [lb, sb, bb, ab, wb]) (by simp)).set ⟨lb, 4, none⟩ (.int .i64 v) (.inl (by simp)))
  clear H1 HF1 j1 j2 j3 jd jz jy
  generalize (w1.setCell ⟨lb, 4, none⟩ (.int .i64 v)) = W2 at *
  have k0 : W2.cell? ⟨sb, j * 4, none⟩ = some (.int .i64 21) := by rw [← H0.out]; exact HB.out.p0 HJ.out
  have k1 := HB.out.p HJ.out (t := 1) (by omega)
  have m4 := HB.out.box.cell (i := 4) rfl
  have m3 := HB.out.box.cell (i := 3) rfl
  go_wp2_with fail
  obtain ⟨W3, rfl⟩ : ∃ W, W = W2 := ⟨_, rfl⟩
  have hne : Nonempty (HW (fun wx => Frm [bb] W3 wx)) := ⟨⟨W3, Frm.refl _ _⟩⟩
  have hz3 : ∀ q : HW (fun wx => Frm [bb] W3 wx), q.w.cell? ⟨lb, 3, none⟩ = some (.pointer (some ⟨bb, 0, none⟩)) := fun q => q.h.cell m3 (by simp; have := HN.out; omega)
  have hy1 : ∀ q : HW (fun wx => Frm [bb] W3 wx), q.w.cell? ⟨sb, j * 4 + 1, none⟩ = some (.int .i64 (S j 1)) := fun q => q.h.cell k1 (by simp; have := HN.out; omega)
  refine held_begin (S := fun wx => Frm [bb] W3 wx) (by kernel_rfl) ?_
  refine held_row_at (fuel := 1) (is := [0, 1, 2, 3, 4, 5, 6, 7]) (.cons rfl (.cons rfl (.cons rfl (.cons rfl (.cons rfl (.cons rfl (.cons rfl (.cons rfl .nil)))))))) (by kernel_rfl) (fun _ _ _ _ _ h => h) rfl (by kernel_rfl) (Frm.refl _ _).drew1 ?_
  intro K hK
  repeat (go_big_quiet_step (fail))
  refine wpQuiet_nil (hK _ ?_)
  clear hK K
  refine held_call (fuel := 0) (i := 8) rfl (by kernel_rfl) ?_
  go_wp2_with fail
  have HB3 := Lib.hid (HB.out.frm (Frm.refl [] _).drew1 (by simp))
  refine (bPut_any HB3.out.bn (S j 1)).mono ?_
  rintro e w3 ⟨rfl, hB, hF⟩
  have HB4 := Lib.hid (HB3.out.bn_ (hF.mono (by simp)) hB (HB3.out.ar.frm hF (by simp; have := HN.out; omega) (by simp; have := HN.out; omega)))
  have HF3 := Lib.hid (((Frm.refl [bb] W3).drew1).trans hF)
  clear hB hF
  go_wp2_with fail
  refine onNormal_mk ⟨HF3.out, ?_⟩
  refine held_end (by kernel_rfl) ?_
  clear hne hz3 hy1
  have HF4 := Lib.hid (HF2.out.trans (HF3.out.mono (by simp)))
  go_wp2
  go_ret
  exact ⟨rfl, HB4.out, HF4.out⟩
set_option maxRecDepth 100000 in
theorem m_22a (h : MAt w lb sb bb ab wb tail first n bud A B d S) {j : Nat} (hj : j < n) (h0 : S j 0 = 22) (hg : bStepR first A B = true) : Calls Try.prog 52 #[.pointer (some ⟨lb, 0, none⟩), .pointer (some ⟨sb, j * 4, none⟩), .int .i64 ((j : Int) + 1)] w fun e w' => e = .returned (.int .i64 23) ∧
    MAt w' lb sb bb ab wb tail first n bud (bStepA first A B) (bStepB first A B) (d) (S) ∧ Frm [lb, sb, bb, ab, wb] w w' := by
  have HN := Lib.hid h.ne
  have HJ := Lib.hid hj
  have hn32 := h.n32
  have htb := h.tb
  have c0 : w.cell? ⟨sb, j * 4, none⟩ = some (.int .i64 22) := by rw [← h0]; exact h.p0 hj
  have c1 := h.p hj (t := 1) (by omega)
  have c2 := h.p hj (t := 2) (by omega)
  have c3 := h.p hj (t := 3) (by omega)
  have l0 := h.box.cell (i := 0) rfl
  have l1 := h.box.cell (i := 1) rfl
  have l2 := h.box.cell (i := 2) rfl
  have l3 := h.box.cell (i := 3) rfl
  have H := Lib.hid h
  have H0 := Lib.hid h0
  have HNX := Lib.hid (fun (W : World) (hf : Frm [] w W) (y : Int) => mNext_any (h.frm hf (by simp)) y)
  have HWT := Lib.hid (fun (W : World) (hf : Frm [] w W) (y : Int) => mWait_any (h.frm hf (by simp)) y)
  have HG := Lib.hid hg
  clear hg
  clear h h0 hj
  go_enter Try.func52, Try.ntmps52
  go_wp2_with fail
  refine (bStep_any H.out.bn H.out.ar (by have := HN.out; omega)).mono ?_
  rw [HG.out]
  rintro e w1 ⟨rfl, hB, hA, hF⟩
  have HB := Lib.hid (H.out.bn_ hF hB hA)
  have HF2 := Lib.hid (hF.mono (S' := [lb, sb, bb, ab, wb]) (by simp))
  clear hB hA hF
  go_wp2
  go_ret
  exact ⟨rfl, HB.out, HF2.out⟩
set_option maxRecDepth 100000 in
theorem m_22b (h : MAt w lb sb bb ab wb tail first n bud A B d S) {j : Nat} (hj : j < n) (h0 : S j 0 = 22) (hg : bStepR first A B = false) : Calls Try.prog 52 #[.pointer (some ⟨lb, 0, none⟩), .pointer (some ⟨sb, j * 4, none⟩), .int .i64 ((j : Int) + 1)] w fun e w' => e = .returned (.int .i64 22) ∧
    MAt w' lb sb bb ab wb tail first n bud (bStepA first A B) (bStepB first A B) (d) (S) ∧ Frm [lb, sb, bb, ab, wb] w w' := by
  have HN := Lib.hid h.ne
  have HJ := Lib.hid hj
  have hn32 := h.n32
  have htb := h.tb
  have c0 : w.cell? ⟨sb, j * 4, none⟩ = some (.int .i64 22) := by rw [← h0]; exact h.p0 hj
  have c1 := h.p hj (t := 1) (by omega)
  have c2 := h.p hj (t := 2) (by omega)
  have c3 := h.p hj (t := 3) (by omega)
  have l0 := h.box.cell (i := 0) rfl
  have l1 := h.box.cell (i := 1) rfl
  have l2 := h.box.cell (i := 2) rfl
  have l3 := h.box.cell (i := 3) rfl
  have H := Lib.hid h
  have H0 := Lib.hid h0
  have HNX := Lib.hid (fun (W : World) (hf : Frm [] w W) (y : Int) => mNext_any (h.frm hf (by simp)) y)
  have HWT := Lib.hid (fun (W : World) (hf : Frm [] w W) (y : Int) => mWait_any (h.frm hf (by simp)) y)
  have HG := Lib.hid hg
  clear hg
  clear h h0 hj
  go_enter Try.func52, Try.ntmps52
  go_wp2_with fail
  refine (bStep_any H.out.bn H.out.ar (by have := HN.out; omega)).mono ?_
  rw [HG.out]
  rintro e w1 ⟨rfl, hB, hA, hF⟩
  have HB := Lib.hid (H.out.bn_ hF hB hA)
  have HF2 := Lib.hid (hF.mono (S' := [lb, sb, bb, ab, wb]) (by simp))
  clear hB hA hF
  go_wp2
  go_ret
  exact ⟨rfl, HB.out, HF2.out⟩
set_option maxRecDepth 100000 in
theorem m_23 (h : MAt w lb sb bb ab wb tail first n bud A B d S) {j : Nat} (hj : j < n) (h0 : S j 0 = 23) : Calls Try.prog 52 #[.pointer (some ⟨lb, 0, none⟩), .pointer (some ⟨sb, j * 4, none⟩), .int .i64 ((j : Int) + 1)] w fun e w' => e = .returned (.int .i64 0) ∧
    MAt w' lb sb bb ab wb tail first n bud (A.store (mWait tail (d)) 0) (B) (d) (S) ∧ Frm [lb, sb, bb, ab, wb] w w' := by
  have HN := Lib.hid h.ne
  have HJ := Lib.hid hj
  have hn32 := h.n32
  have htb := h.tb
  have c0 : w.cell? ⟨sb, j * 4, none⟩ = some (.int .i64 23) := by rw [← h0]; exact h.p0 hj
  have c1 := h.p hj (t := 1) (by omega)
  have c2 := h.p hj (t := 2) (by omega)
  have c3 := h.p hj (t := 3) (by omega)
  have l0 := h.box.cell (i := 0) rfl
  have l1 := h.box.cell (i := 1) rfl
  have l2 := h.box.cell (i := 2) rfl
  have l3 := h.box.cell (i := 3) rfl
  have H := Lib.hid h
  have H0 := Lib.hid h0
  have HNX := Lib.hid (fun (W : World) (hf : Frm [] w W) (y : Int) => mNext_any (h.frm hf (by simp)) y)
  have HWT := Lib.hid (fun (W : World) (hf : Frm [] w W) (y : Int) => mWait_any (h.frm hf (by simp)) y)
  have l4 := h.box.cell (i := 4) rfl
  have hne : Nonempty (HW (fun wx => Frm [ab, wb] w wx)) := ⟨⟨w, Frm.refl _ _⟩⟩
  have hz0 : ∀ q : HW (fun wx => Frm [ab, wb] w wx), q.w.cell? ⟨lb, 0, none⟩ = some (.pointer (some ⟨ab, 0, none⟩)) := fun q => (h.box.frm q.h (by simp; have := HN.out; omega)).cell (i := 0) rfl
  have hz1 : ∀ q : HW (fun wx => Frm [ab, wb] w wx), q.w.cell? ⟨lb, 1, none⟩ = some (.int .i64 tail) := fun q => (h.box.frm q.h (by simp; have := HN.out; omega)).cell (i := 1) rfl
  have hz2 : ∀ q : HW (fun wx => Frm [ab, wb] w wx), q.w.cell? ⟨lb, 2, none⟩ = some (.int .i64 bud) := fun q => (h.box.frm q.h (by simp; have := HN.out; omega)).cell (i := 2) rfl
  have hz3 : ∀ q : HW (fun wx => Frm [ab, wb] w wx), q.w.cell? ⟨lb, 3, none⟩ = some (.pointer (some ⟨bb, 0, none⟩)) := fun q => (h.box.frm q.h (by simp; have := HN.out; omega)).cell (i := 3) rfl
  have hz4 : ∀ q : HW (fun wx => Frm [ab, wb] w wx), q.w.cell? ⟨lb, 4, none⟩ = some (.int .i64 d) := fun q => (h.box.frm q.h (by simp; have := HN.out; omega)).cell (i := 4) rfl
  have hy1 : ∀ q : HW (fun wx => Frm [ab, wb] w wx), q.w.cell? ⟨sb, j * 4 + 1, none⟩ = some (.int .i64 (S j 1)) := fun q => (h.row.frm q.h (by simp; have := HN.out; omega)).cell (spC_get n S hj (by omega))
  have hy2 : ∀ q : HW (fun wx => Frm [ab, wb] w wx), q.w.cell? ⟨sb, j * 4 + 2, none⟩ = some (.int .i64 (S j 2)) := fun q => (h.row.frm q.h (by simp; have := HN.out; omega)).cell (spC_get n S hj (by omega))
  have hy3 : ∀ q : HW (fun wx => Frm [ab, wb] w wx), q.w.cell? ⟨sb, j * 4 + 3, none⟩ = some (.int .i64 (S j 3)) := fun q => (h.row.frm q.h (by simp; have := HN.out; omega)).cell (spC_get n S hj (by omega))
  clear h h0 hj
  go_enter Try.func52, Try.ntmps52
  go_wp2_with fail
  refine held_begin (S := fun wx => Frm [ab, wb] w wx) (by kernel_rfl) ?_
  refine held_row_at (fuel := 2) (is := [0, 1, 2, 3, 4, 5, 6, 7, 8]) (.cons rfl (.cons rfl (.cons rfl (.cons rfl (.cons rfl (.cons rfl (.cons rfl (.cons rfl (.cons rfl .nil))))))))) (by kernel_rfl) (fun _ _ _ _ _ h => h) rfl (by kernel_rfl) (Frm.refl _ _).drew1 ?_
  intro K hK
  repeat (go_big_quiet_step (fail))
  refine wpQuiet_nil (hK _ ?_)
  clear hK K
  refine held_call (fuel := 1) (i := 9) rfl (by kernel_rfl) ?_
  go_wp2_with fail
  refine (HWT.out _ ((Frm.refl _ _).drew1) _).mono ?_; rintro e w' ⟨rfl, rfl⟩
  go_wp2_with fail
  refine onNormal_mk ⟨(Frm.refl _ _).drew1, ?_⟩
  refine held_call (fuel := 0) (i := 10) rfl (by kernel_rfl) ?_
  go_wp2_with fail
  refine (Store_any (H.out.ar.frm (S := []) ((Frm.refl _ _).drew1) (by simp) (by simp)) (mWait tail (d)) (0)).mono ?_; rintro e w1 ⟨rfl, hA, hF⟩; have HF1 := Lib.hid (((Frm.refl [ab, wb] w).drew1).trans hF); have H1 := Lib.hid (H.out.ar_ HF1.out hA); have j1 := H1.out.p HJ.out (t := 1) (by omega); have j2 := H1.out.p HJ.out (t := 2) (by omega); have j3 := H1.out.p HJ.out (t := 3) (by omega); have jd := H1.out.box.cell (i := 4) rfl; have jz := H1.out.row.frozen; have jy := H1.out.box.frozen; clear hA hF
  go_wp2_with fail
  refine onNormal_mk ⟨HF1.out, ?_⟩
  refine held_end (by kernel_rfl) ?_
  clear hne hz0 hz1 hz2 hz3 hz4 hy1 hy2 hy3
  have HB := Lib.hid H1.out
  have HF2 := Lib.hid (HF1.out.mono (S' := [lb, sb, bb, ab, wb]) (by simp))
  have k0 : w1.cell? ⟨sb, j * 4, none⟩ = some (.int .i64 23) := by rw [← H0.out]; exact HB.out.p0 HJ.out
  have k1 := HB.out.p HJ.out (t := 1) (by omega)
  clear H1 HF1 j1 j2 j3 jd jz jy
  go_wp2
  go_ret
  exact ⟨rfl, HB.out, HF2.out⟩
set_option maxRecDepth 100000 in
theorem m_24 (h : MAt w lb sb bb ab wb tail first n bud A B d S) {j : Nat} (hj : j < n) (h0 : S j 0 = 24) : Calls Try.prog 52 #[.pointer (some ⟨lb, 0, none⟩), .pointer (some ⟨sb, j * 4, none⟩), .int .i64 ((j : Int) + 1)] w fun e w' => e = .returned (.int .i64 0) ∧
    MAt w' lb sb bb ab wb tail first n bud (A.store (mWait tail (S j 1)) 0) (B) (d) (S) ∧ Frm [lb, sb, bb, ab, wb] w w' := by
  have HN := Lib.hid h.ne
  have HJ := Lib.hid hj
  have hn32 := h.n32
  have htb := h.tb
  have c0 : w.cell? ⟨sb, j * 4, none⟩ = some (.int .i64 24) := by rw [← h0]; exact h.p0 hj
  have c1 := h.p hj (t := 1) (by omega)
  have c2 := h.p hj (t := 2) (by omega)
  have c3 := h.p hj (t := 3) (by omega)
  have l0 := h.box.cell (i := 0) rfl
  have l1 := h.box.cell (i := 1) rfl
  have l2 := h.box.cell (i := 2) rfl
  have l3 := h.box.cell (i := 3) rfl
  have H := Lib.hid h
  have H0 := Lib.hid h0
  have HNX := Lib.hid (fun (W : World) (hf : Frm [] w W) (y : Int) => mNext_any (h.frm hf (by simp)) y)
  have HWT := Lib.hid (fun (W : World) (hf : Frm [] w W) (y : Int) => mWait_any (h.frm hf (by simp)) y)
  have hne : Nonempty (HW (fun wx => Frm [ab, wb] w wx)) := ⟨⟨w, Frm.refl _ _⟩⟩
  have hz0 : ∀ q : HW (fun wx => Frm [ab, wb] w wx), q.w.cell? ⟨lb, 0, none⟩ = some (.pointer (some ⟨ab, 0, none⟩)) := fun q => (h.box.frm q.h (by simp; have := HN.out; omega)).cell (i := 0) rfl
  have hz1 : ∀ q : HW (fun wx => Frm [ab, wb] w wx), q.w.cell? ⟨lb, 1, none⟩ = some (.int .i64 tail) := fun q => (h.box.frm q.h (by simp; have := HN.out; omega)).cell (i := 1) rfl
  have hz2 : ∀ q : HW (fun wx => Frm [ab, wb] w wx), q.w.cell? ⟨lb, 2, none⟩ = some (.int .i64 bud) := fun q => (h.box.frm q.h (by simp; have := HN.out; omega)).cell (i := 2) rfl
  have hz3 : ∀ q : HW (fun wx => Frm [ab, wb] w wx), q.w.cell? ⟨lb, 3, none⟩ = some (.pointer (some ⟨bb, 0, none⟩)) := fun q => (h.box.frm q.h (by simp; have := HN.out; omega)).cell (i := 3) rfl
  have hz4 : ∀ q : HW (fun wx => Frm [ab, wb] w wx), q.w.cell? ⟨lb, 4, none⟩ = some (.int .i64 d) := fun q => (h.box.frm q.h (by simp; have := HN.out; omega)).cell (i := 4) rfl
  have hy1 : ∀ q : HW (fun wx => Frm [ab, wb] w wx), q.w.cell? ⟨sb, j * 4 + 1, none⟩ = some (.int .i64 (S j 1)) := fun q => (h.row.frm q.h (by simp; have := HN.out; omega)).cell (spC_get n S hj (by omega))
  have hy2 : ∀ q : HW (fun wx => Frm [ab, wb] w wx), q.w.cell? ⟨sb, j * 4 + 2, none⟩ = some (.int .i64 (S j 2)) := fun q => (h.row.frm q.h (by simp; have := HN.out; omega)).cell (spC_get n S hj (by omega))
  have hy3 : ∀ q : HW (fun wx => Frm [ab, wb] w wx), q.w.cell? ⟨sb, j * 4 + 3, none⟩ = some (.int .i64 (S j 3)) := fun q => (h.row.frm q.h (by simp; have := HN.out; omega)).cell (spC_get n S hj (by omega))
  clear h h0 hj
  go_enter Try.func52, Try.ntmps52
  go_wp2_with fail
  refine held_begin (S := fun wx => Frm [ab, wb] w wx) (by kernel_rfl) ?_
  refine held_row_at (fuel := 2) (is := [0, 1, 2, 3, 4, 5, 6, 7, 8]) (.cons rfl (.cons rfl (.cons rfl (.cons rfl (.cons rfl (.cons rfl (.cons rfl (.cons rfl (.cons rfl .nil))))))))) (by kernel_rfl) (fun _ _ _ _ _ h => h) rfl (by kernel_rfl) (Frm.refl _ _).drew1 ?_
  intro K hK
  repeat (go_big_quiet_step (fail))
  refine wpQuiet_nil (hK _ ?_)
  clear hK K
  refine held_call (fuel := 1) (i := 9) rfl (by kernel_rfl) ?_
  go_wp2_with fail
  refine (HWT.out _ ((Frm.refl _ _).drew1) _).mono ?_; rintro e w' ⟨rfl, rfl⟩
  go_wp2_with fail
  refine onNormal_mk ⟨(Frm.refl _ _).drew1, ?_⟩
  refine held_call (fuel := 0) (i := 10) rfl (by kernel_rfl) ?_
  go_wp2_with fail
  refine (Store_any (H.out.ar.frm (S := []) ((Frm.refl _ _).drew1) (by simp) (by simp)) (mWait tail (S j 1)) (0)).mono ?_; rintro e w1 ⟨rfl, hA, hF⟩; have HF1 := Lib.hid (((Frm.refl [ab, wb] w).drew1).trans hF); have H1 := Lib.hid (H.out.ar_ HF1.out hA); have j1 := H1.out.p HJ.out (t := 1) (by omega); have j2 := H1.out.p HJ.out (t := 2) (by omega); have j3 := H1.out.p HJ.out (t := 3) (by omega); have jd := H1.out.box.cell (i := 4) rfl; have jz := H1.out.row.frozen; have jy := H1.out.box.frozen; clear hA hF
  go_wp2_with fail
  refine onNormal_mk ⟨HF1.out, ?_⟩
  refine held_end (by kernel_rfl) ?_
  clear hne hz0 hz1 hz2 hz3 hz4 hy1 hy2 hy3
  have HB := Lib.hid H1.out
  have HF2 := Lib.hid (HF1.out.mono (S' := [lb, sb, bb, ab, wb]) (by simp))
  have k0 : w1.cell? ⟨sb, j * 4, none⟩ = some (.int .i64 24) := by rw [← H0.out]; exact HB.out.p0 HJ.out
  have k1 := HB.out.p HJ.out (t := 1) (by omega)
  clear H1 HF1 j1 j2 j3 jd jz jy
  go_wp2
  go_ret
  exact ⟨rfl, HB.out, HF2.out⟩
end
end Go.Proofs.Ytacogelejffbhaa
