/- The contracts of package mcs, step by step. (Printed by gen_mcs.py.) -/
import Derived.Test.YteijjhahgabalaaGreatQ06
import Derived.Test.YteijjhahgabalaaGreatQ05
import Derived.Test.YteijjhahgabalaaGreatQ03
namespace Go.Proofs.YteijjhahgabalaaGreat
open Go.RowKit

/-- a row of slots that wait for words of their own: the lock in block lb, its spots in sb, its arena in ab and wb -/
structure McAt (w : World) (lb sb ab wb tail n : Nat) (A : AR) (S : Nat → Nat → Int) : Prop where
  box : HAt w lb [.pointer (some ⟨ab, 0, none⟩), .int .i64 tail, .slice (some ⟨sb, 0, none⟩) n n] 153
  row : HAt w sb (spC n S) 138
  ar : ArAt w ab wb A
  ne : lb ≠ sb ∧ lb ≠ ab ∧ lb ≠ wb ∧ sb ≠ ab ∧ sb ≠ wb
  n1 : 1 ≤ n
  n32 : n ≤ 32
  tb : tail ≤ 4096
section
variable {w w' : World} {lb sb ab wb tail n : Nat} {A A' : AR} {S : Nat → Nat → Int}
theorem McAt.frm (h : McAt w lb sb ab wb tail n A S) {Z : List Nat} (hf : Frm Z w w') (hz : ∀ k ∈ [lb, sb, ab, wb], k ∉ Z) : McAt w' lb sb ab wb tail n A S :=
  { h with box := h.box.frm hf (hz _ (by simp)), row := h.row.frm hf (hz _ (by simp)), ar := h.ar.frm hf (hz _ (by simp)) (hz _ (by simp)) }
theorem McAt.ar_ (h : McAt w lb sb ab wb tail n A S) (hf : Frm [ab, wb] w w') (hA : ArAt w' ab wb A') : McAt w' lb sb ab wb tail n A' S :=
  { h with box := h.box.frm hf (by simp; have := h.ne; omega), row := h.row.frm hf (by simp; have := h.ne; omega), ar := hA }
theorem McAt.put (h : McAt w lb sb ab wb tail n A S) (j : Nat) {t : Nat} (ht : t < 4) (v : Int) :
    McAt (w.setCell ⟨sb, j * 4 + t, none⟩ (.int .i64 v)) lb sb ab wb tail n A (spPut S j t v) := by
  have hr := h.row.set (j * 4 + t) (.int .i64 v)
  rw [spC_putT n S ht v] at hr
  have hf : Frm [sb] w (w.setCell ⟨sb, j * 4 + t, none⟩ (.int .i64 v)) := (Frm.refl _ _).set _ _ (.inl (by simp))
  have hn := h.ne
  exact { h with box := h.box.frm hf (by simp; omega), row := hr, ar := h.ar.frm hf (by simp; omega) (by simp; omega) }
theorem McAt.p (h : McAt w lb sb ab wb tail n A S) {j : Nat} (hj : j < n) {t : Nat} (ht : t < 4) : w.cell? ⟨sb, j * 4 + t, none⟩ = some (.int .i64 (S j t)) := h.row.cell (spC_getT n S hj ht)
theorem McAt.p0 (h : McAt w lb sb ab wb tail n A S) {j : Nat} (hj : j < n) : w.cell? ⟨sb, j * 4, none⟩ = some (.int .i64 (S j 0)) := h.row.cell (spC_getT n S (t := 0) hj (by omega))
/-- the word of who stands behind a slot -/
def cNext (tail : Nat) (y : Int) : Int := wrap64 (wrap64 ((tail : Int) + wrap64 (2 * y)) - 1)
/-- the word that a slot waits for -/
def cWait (tail : Nat) (y : Int) : Int := wrap64 ((tail : Int) + wrap64 (2 * y))
theorem cNext_any (h : McAt w lb sb ab wb tail n A S) (y : Int) : Calls Tryz.prog 205 #[.pointer (some ⟨lb, 0, none⟩), .int .i64 y] w fun e w' => e = .returned (.int .i64 (cNext tail y)) ∧ w = w' := by
  have c1 := h.box.cell (i := 1) rfl
  have htb := h.tb
  clear h
  unfold cNext
  go_enter Tryz.func205, Tryz.ntmps205
  go_wp2
  go_ret
  exact ⟨rfl, rfl⟩
theorem cWait_any (h : McAt w lb sb ab wb tail n A S) (y : Int) : Calls Tryz.prog 206 #[.pointer (some ⟨lb, 0, none⟩), .int .i64 y] w fun e w' => e = .returned (.int .i64 (cWait tail y)) ∧ w = w' := by
  have c1 := h.box.cell (i := 1) rfl
  have htb := h.tb
  clear h
  unfold cWait
  go_enter Tryz.func206, Tryz.ntmps206
  go_wp2
  go_ret
  exact ⟨rfl, rfl⟩
set_option maxRecDepth 100000 in
theorem c_in1 (h : McAt w lb sb ab wb tail n A S) {j : Nat} (hj : j < n) (h0 : S j 0 = 1) : Calls Tryz.prog 203 #[.pointer (some ⟨lb, 0, none⟩), .pointer (some ⟨sb, j * 4, none⟩), .int .i64 ((j : Int) + 1)] w fun e w' => e = .returned (.int .i64 2) ∧
    McAt w' lb sb ab wb tail n (A.store (cNext tail ((j : Int) + 1)) 0) (S) ∧ Frm [sb, ab, wb] w w' := by
  have HN := Lib.hid h.ne
  have HJ := Lib.hid hj
  have hn32 := h.n32
  have htb := h.tb
  have c0 : w.cell? ⟨sb, j * 4, none⟩ = some (.int .i64 1) := by rw [← h0]; exact h.p0 hj
  have c1 := h.p hj (t := 1) (by omega)
  have c2 := h.p hj (t := 2) (by omega)
  have c3 := h.p hj (t := 3) (by omega)
  have l0 := h.box.cell (i := 0) rfl
  have l1 := h.box.cell (i := 1) rfl
  have H := Lib.hid h
  have H0 := Lib.hid h0
  have HNX := Lib.hid (fun (W : World) (hf : Frm [] w W) (y : Int) => cNext_any (h.frm hf (by simp)) y)
  have HWT := Lib.hid (fun (W : World) (hf : Frm [] w W) (y : Int) => cWait_any (h.frm hf (by simp)) y)
  have hne : Nonempty (HW (fun wx => Frm [ab, wb] w wx)) := ⟨⟨w, Frm.refl _ _⟩⟩
  have hz0 : ∀ q : HW (fun wx => Frm [ab, wb] w wx), q.w.cell? ⟨lb, 0, none⟩ = some (.pointer (some ⟨ab, 0, none⟩)) := fun q => (h.box.frm q.h (by simp; have := HN.out; omega)).cell (i := 0) rfl
  have hz1 : ∀ q : HW (fun wx => Frm [ab, wb] w wx), q.w.cell? ⟨lb, 1, none⟩ = some (.int .i64 tail) := fun q => (h.box.frm q.h (by simp; have := HN.out; omega)).cell (i := 1) rfl
  have hy1 : ∀ q : HW (fun wx => Frm [ab, wb] w wx), q.w.cell? ⟨sb, j * 4 + 1, none⟩ = some (.int .i64 (S j 1)) := fun q => (h.row.frm q.h (by simp; have := HN.out; omega)).cell (spC_getT n S hj (by omega))
  have hy2 : ∀ q : HW (fun wx => Frm [ab, wb] w wx), q.w.cell? ⟨sb, j * 4 + 2, none⟩ = some (.int .i64 (S j 2)) := fun q => (h.row.frm q.h (by simp; have := HN.out; omega)).cell (spC_getT n S hj (by omega))
  have hy3 : ∀ q : HW (fun wx => Frm [ab, wb] w wx), q.w.cell? ⟨sb, j * 4 + 3, none⟩ = some (.int .i64 (S j 3)) := fun q => (h.row.frm q.h (by simp; have := HN.out; omega)).cell (spC_getT n S hj (by omega))
  clear h h0 hj
  go_enter Tryz.func203, Tryz.ntmps203
  go_wp2_with fail
  refine held_begin (S := fun wx => Frm [ab, wb] w wx) (by kernel_rfl) ?_
  refine held_row_at (fuel := 2) (is := [0, 1, 2, 3, 4, 5]) (.cons rfl (.cons rfl (.cons rfl (.cons rfl (.cons rfl (.cons rfl .nil)))))) (by kernel_rfl) (fun _ _ _ _ _ h => h) rfl (by kernel_rfl) (Frm.refl _ _).drew1 ?_
  intro K hK
  repeat (go_big_quiet_step (fail))
  refine wpQuiet_nil (hK _ ?_)
  clear hK K
  refine held_call (fuel := 1) (i := 6) rfl (by kernel_rfl) ?_
  go_wp2_with fail
  refine (HNX.out _ ((Frm.refl _ _).drew1) _).mono ?_; rintro e w' ⟨rfl, rfl⟩
  go_wp2_with fail
  refine onNormal_mk ⟨(Frm.refl _ _).drew1, ?_⟩
  refine held_call (fuel := 0) (i := 7) rfl (by kernel_rfl) ?_
  go_wp2_with fail
  refine (Store_any (H.out.ar.frm (S := []) ((Frm.refl _ _).drew1) (by simp) (by simp)) (cNext tail ((j : Int) + 1)) (0)).mono ?_; rintro e w1 ⟨rfl, hA, hF⟩; have HF1 := Lib.hid (((Frm.refl [ab, wb] w).drew1).trans hF); have H1 := Lib.hid (H.out.ar_ HF1.out hA); have j1 := H1.out.p HJ.out (t := 1) (by omega); have j2 := H1.out.p HJ.out (t := 2) (by omega); have j3 := H1.out.p HJ.out (t := 3) (by omega); have jz := H1.out.row.frozen; clear hA hF
  go_wp2_with fail
  refine onNormal_mk ⟨HF1.out, ?_⟩
  refine held_end (by kernel_rfl) ?_
  clear hne hz0 hz1 hy1 hy2 hy3
  have HB := Lib.hid H1.out
  have HF2 := Lib.hid (HF1.out.mono (S' := [sb, ab, wb]) (by simp))
  have k0 : w1.cell? ⟨sb, j * 4, none⟩ = some (.int .i64 1) := by rw [← H0.out]; exact HB.out.p0 HJ.out
  have k1 := HB.out.p HJ.out (t := 1) (by omega)
  clear H1 HF1 j1 j2 j3 jz
  go_wp2
  go_ret
  exact ⟨rfl, HB.out, HF2.out⟩
set_option maxRecDepth 100000 in
theorem c_in2 (h : McAt w lb sb ab wb tail n A S) {j : Nat} (hj : j < n) (h0 : S j 0 = 2) : Calls Tryz.prog 203 #[.pointer (some ⟨lb, 0, none⟩), .pointer (some ⟨sb, j * 4, none⟩), .int .i64 ((j : Int) + 1)] w fun e w' => e = .returned (.int .i64 3) ∧
    McAt w' lb sb ab wb tail n (A.store (cWait tail ((j : Int) + 1)) 1) (S) ∧ Frm [sb, ab, wb] w w' := by
  have HN := Lib.hid h.ne
  have HJ := Lib.hid hj
  have hn32 := h.n32
  have htb := h.tb
  have c0 : w.cell? ⟨sb, j * 4, none⟩ = some (.int .i64 2) := by rw [← h0]; exact h.p0 hj
  have c1 := h.p hj (t := 1) (by omega)
  have c2 := h.p hj (t := 2) (by omega)
  have c3 := h.p hj (t := 3) (by omega)
  have l0 := h.box.cell (i := 0) rfl
  have l1 := h.box.cell (i := 1) rfl
  have H := Lib.hid h
  have H0 := Lib.hid h0
  have HNX := Lib.hid (fun (W : World) (hf : Frm [] w W) (y : Int) => cNext_any (h.frm hf (by simp)) y)
  have HWT := Lib.hid (fun (W : World) (hf : Frm [] w W) (y : Int) => cWait_any (h.frm hf (by simp)) y)
  have hne : Nonempty (HW (fun wx => Frm [ab, wb] w wx)) := ⟨⟨w, Frm.refl _ _⟩⟩
  have hz0 : ∀ q : HW (fun wx => Frm [ab, wb] w wx), q.w.cell? ⟨lb, 0, none⟩ = some (.pointer (some ⟨ab, 0, none⟩)) := fun q => (h.box.frm q.h (by simp; have := HN.out; omega)).cell (i := 0) rfl
  have hz1 : ∀ q : HW (fun wx => Frm [ab, wb] w wx), q.w.cell? ⟨lb, 1, none⟩ = some (.int .i64 tail) := fun q => (h.box.frm q.h (by simp; have := HN.out; omega)).cell (i := 1) rfl
  have hy1 : ∀ q : HW (fun wx => Frm [ab, wb] w wx), q.w.cell? ⟨sb, j * 4 + 1, none⟩ = some (.int .i64 (S j 1)) := fun q => (h.row.frm q.h (by simp; have := HN.out; omega)).cell (spC_getT n S hj (by omega))
  have hy2 : ∀ q : HW (fun wx => Frm [ab, wb] w wx), q.w.cell? ⟨sb, j * 4 + 2, none⟩ = some (.int .i64 (S j 2)) := fun q => (h.row.frm q.h (by simp; have := HN.out; omega)).cell (spC_getT n S hj (by omega))
  have hy3 : ∀ q : HW (fun wx => Frm [ab, wb] w wx), q.w.cell? ⟨sb, j * 4 + 3, none⟩ = some (.int .i64 (S j 3)) := fun q => (h.row.frm q.h (by simp; have := HN.out; omega)).cell (spC_getT n S hj (by omega))
  clear h h0 hj
  go_enter Tryz.func203, Tryz.ntmps203
  go_wp2_with fail
  refine held_begin (S := fun wx => Frm [ab, wb] w wx) (by kernel_rfl) ?_
  refine held_row_at (fuel := 2) (is := [0, 1, 2, 3, 4, 5]) (.cons rfl (.cons rfl (.cons rfl (.cons rfl (.cons rfl (.cons rfl .nil)))))) (by kernel_rfl) (fun _ _ _ _ _ h => h) rfl (by kernel_rfl) (Frm.refl _ _).drew1 ?_
  intro K hK
  repeat (go_big_quiet_step (fail))
  refine wpQuiet_nil (hK _ ?_)
  clear hK K
  refine held_call (fuel := 1) (i := 6) rfl (by kernel_rfl) ?_
  go_wp2_with fail
  refine (HWT.out _ ((Frm.refl _ _).drew1) _).mono ?_; rintro e w' ⟨rfl, rfl⟩
  go_wp2_with fail
  refine onNormal_mk ⟨(Frm.refl _ _).drew1, ?_⟩
  refine held_call (fuel := 0) (i := 7) rfl (by kernel_rfl) ?_
  go_wp2_with fail
  refine (Store_any (H.out.ar.frm (S := []) ((Frm.refl _ _).drew1) (by simp) (by simp)) (cWait tail ((j : Int) + 1)) (1)).mono ?_; rintro e w1 ⟨rfl, hA, hF⟩; have HF1 := Lib.hid (((Frm.refl [ab, wb] w).drew1).trans hF); have H1 := Lib.hid (H.out.ar_ HF1.out hA); have j1 := H1.out.p HJ.out (t := 1) (by omega); have j2 := H1.out.p HJ.out (t := 2) (by omega); have j3 := H1.out.p HJ.out (t := 3) (by omega); have jz := H1.out.row.frozen; clear hA hF
  go_wp2_with fail
  refine onNormal_mk ⟨HF1.out, ?_⟩
  refine held_end (by kernel_rfl) ?_
  clear hne hz0 hz1 hy1 hy2 hy3
  have HB := Lib.hid H1.out
  have HF2 := Lib.hid (HF1.out.mono (S' := [sb, ab, wb]) (by simp))
  have k0 : w1.cell? ⟨sb, j * 4, none⟩ = some (.int .i64 2) := by rw [← H0.out]; exact HB.out.p0 HJ.out
  have k1 := HB.out.p HJ.out (t := 1) (by omega)
  clear H1 HF1 j1 j2 j3 jz
  go_wp2
  go_ret
  exact ⟨rfl, HB.out, HF2.out⟩
set_option maxRecDepth 100000 in
theorem c_in3a (h : McAt w lb sb ab wb tail n A S) {j : Nat} (hj : j < n) (h0 : S j 0 = 3) (hg : A.get tail = 0) : Calls Tryz.prog 203 #[.pointer (some ⟨lb, 0, none⟩), .pointer (some ⟨sb, j * 4, none⟩), .int .i64 ((j : Int) + 1)] w fun e w' => e = .returned (.int .i64 10) ∧
    McAt w' lb sb ab wb tail n (A.swap tail ((j : Int) + 1)) (spPut S j 1 (A.get tail)) ∧ Frm [sb, ab, wb] w w' := by
  have HN := Lib.hid h.ne
  have HJ := Lib.hid hj
  have hn32 := h.n32
  have htb := h.tb
  have c0 : w.cell? ⟨sb, j * 4, none⟩ = some (.int .i64 3) := by rw [← h0]; exact h.p0 hj
  have c1 := h.p hj (t := 1) (by omega)
  have c2 := h.p hj (t := 2) (by omega)
  have c3 := h.p hj (t := 3) (by omega)
  have l0 := h.box.cell (i := 0) rfl
  have l1 := h.box.cell (i := 1) rfl
  have H := Lib.hid h
  have H0 := Lib.hid h0
  have HNX := Lib.hid (fun (W : World) (hf : Frm [] w W) (y : Int) => cNext_any (h.frm hf (by simp)) y)
  have HWT := Lib.hid (fun (W : World) (hf : Frm [] w W) (y : Int) => cWait_any (h.frm hf (by simp)) y)
  have HG := Lib.hid hg
  rw [hg]
  clear hg
  have hne : Nonempty (HW (fun wx => Frm [sb, ab, wb] w wx)) := ⟨⟨w, Frm.refl _ _⟩⟩
  have hz0 : ∀ q : HW (fun wx => Frm [sb, ab, wb] w wx), q.w.cell? ⟨lb, 0, none⟩ = some (.pointer (some ⟨ab, 0, none⟩)) := fun q => (h.box.frm q.h (by simp; have := HN.out; omega)).cell (i := 0) rfl
  have hz1 : ∀ q : HW (fun wx => Frm [sb, ab, wb] w wx), q.w.cell? ⟨lb, 1, none⟩ = some (.int .i64 tail) := fun q => (h.box.frm q.h (by simp; have := HN.out; omega)).cell (i := 1) rfl
  clear h h0 hj
  go_enter Tryz.func203, Tryz.ntmps203
  go_wp2_with fail
  refine held_begin (S := fun wx => Frm [sb, ab, wb] w wx) (by kernel_rfl) ?_
  refine held_row_at (fuel := 4) (is := [0, 1, 2, 3, 4, 5, 6, 7, 8, 9]) (.cons rfl (.cons rfl (.cons rfl (.cons rfl (.cons rfl (.cons rfl (.cons rfl (.cons rfl (.cons rfl (.cons rfl .nil)))))))))) (by kernel_rfl) (fun _ _ _ _ _ h => h) rfl (by kernel_rfl) (Frm.refl _ _).drew1 ?_
  intro K hK
  repeat (go_big_quiet_step (fail))
  refine wpQuiet_nil (hK _ ?_)
  clear hK K
  refine held_call (fuel := 3) (i := 10) rfl (by kernel_rfl) ?_
  go_wp2_with fail
  refine (Swap_any (H.out.ar.frm (S := []) ((Frm.refl _ _).drew1) (by simp) (by simp)) (tail) ((j : Int) + 1)).mono ?_; rw [HG.out]; rintro e w1 ⟨rfl, hA, hF⟩; have HF1 := Lib.hid (((Frm.refl [ab, wb] w).drew1).trans hF); have H1 := Lib.hid (H.out.ar_ HF1.out hA); have j1 := H1.out.p HJ.out (t := 1) (by omega); have j2 := H1.out.p HJ.out (t := 2) (by omega); have j3 := H1.out.p HJ.out (t := 3) (by omega); have jz := H1.out.row.frozen; clear hA hF
  go_wp2_with fail
  refine onNormal_mk ⟨(HF1.out.mono (S' := [sb, ab, wb]) (by simp)), ?_⟩
  refine held_row_at (fuel := 1) (is := [11, 12]) (.cons rfl (.cons rfl .nil)) (by kernel_rfl) (fun _ _ _ _ _ h => h) rfl (by kernel_rfl) (HF1.out.mono (S' := [sb, ab, wb]) (by simp)) ?_
  intro K hK
  repeat (go_big_quiet_step (fail))
  refine wpQuiet_nil (hK _ ?_)
  clear hK K
  refine held_call (fuel := 0) (i := 13) rfl (by kernel_rfl) ?_
  go_wp2_with fail
  refine onNormal_mk ⟨((HF1.out.mono (S' := [sb, ab, wb]) (by simp)).set ⟨sb, j * 4 + 1, none⟩ (.int .i64 0) (.inl (by simp))), ?_⟩
  refine held_end (by kernel_rfl) ?_
  clear hne hz0 hz1
  have HB := Lib.hid (H1.out.put j (t := 1) (by omega) 0)
  have HF2 := Lib.hid ((HF1.out.mono (S' := [sb, ab, wb]) (by simp)).set ⟨sb, j * 4 + 1, none⟩ (.int .i64 0) (.inl (by simp)))
  clear H1 HF1 j1 j2 j3 jz
  generalize (w1.setCell ⟨sb, j * 4 + 1, none⟩ (.int .i64 0)) = W2 at *
  have k0 : W2.cell? ⟨sb, j * 4, none⟩ = some (.int .i64 3) := by rw [← H0.out]; exact (HB.out.p0 HJ.out).trans (by unfold spPut; simp)
  have kt : W2.cell? ⟨sb, j * 4 + 1, none⟩ = some (.int .i64 0) := (HB.out.p HJ.out (t := 1) (by omega)).trans (by unfold spPut; simp)
  go_wp2
  go_ret
  exact ⟨rfl, HB.out, HF2.out⟩
set_option maxRecDepth 100000 in
theorem c_in3b (h : McAt w lb sb ab wb tail n A S) {j : Nat} (hj : j < n) (h0 : S j 0 = 3) (hg : ¬ A.get tail = 0) : Calls Tryz.prog 203 #[.pointer (some ⟨lb, 0, none⟩), .pointer (some ⟨sb, j * 4, none⟩), .int .i64 ((j : Int) + 1)] w fun e w' => e = .returned (.int .i64 4) ∧
    McAt w' lb sb ab wb tail n (A.swap tail ((j : Int) + 1)) (spPut S j 1 (A.get tail)) ∧ Frm [sb, ab, wb] w w' := by
  have HN := Lib.hid h.ne
  have HJ := Lib.hid hj
  have hn32 := h.n32
  have htb := h.tb
  have c0 : w.cell? ⟨sb, j * 4, none⟩ = some (.int .i64 3) := by rw [← h0]; exact h.p0 hj
  have c1 := h.p hj (t := 1) (by omega)
  have c2 := h.p hj (t := 2) (by omega)
  have c3 := h.p hj (t := 3) (by omega)
  have l0 := h.box.cell (i := 0) rfl
  have l1 := h.box.cell (i := 1) rfl
  have H := Lib.hid h
  have H0 := Lib.hid h0
  have HNX := Lib.hid (fun (W : World) (hf : Frm [] w W) (y : Int) => cNext_any (h.frm hf (by simp)) y)
  have HWT := Lib.hid (fun (W : World) (hf : Frm [] w W) (y : Int) => cWait_any (h.frm hf (by simp)) y)
  generalize hv : A.get (tail : Int) = v at hg ⊢
  have HG := Lib.hid hv
  clear hv
  have e0 : (v == 0) = false := by simpa using hg
  have e1 : (v != 0) = true := by simpa using hg
  clear hg
  have hne : Nonempty (HW (fun wx => Frm [sb, ab, wb] w wx)) := ⟨⟨w, Frm.refl _ _⟩⟩
  have hz0 : ∀ q : HW (fun wx => Frm [sb, ab, wb] w wx), q.w.cell? ⟨lb, 0, none⟩ = some (.pointer (some ⟨ab, 0, none⟩)) := fun q => (h.box.frm q.h (by simp; have := HN.out; omega)).cell (i := 0) rfl
  have hz1 : ∀ q : HW (fun wx => Frm [sb, ab, wb] w wx), q.w.cell? ⟨lb, 1, none⟩ = some (.int .i64 tail) := fun q => (h.box.frm q.h (by simp; have := HN.out; omega)).cell (i := 1) rfl
  clear h h0 hj
  go_enter Tryz.func203, Tryz.ntmps203
  go_wp2_with fail
  refine held_begin (S := fun wx => Frm [sb, ab, wb] w wx) (by kernel_rfl) ?_
  refine held_row_at (fuel := 4) (is := [0, 1, 2, 3, 4, 5, 6, 7, 8, 9]) (.cons rfl (.cons rfl (.cons rfl (.cons rfl (.cons rfl (.cons rfl (.cons rfl (.cons rfl (.cons rfl (.cons rfl .nil)))))))))) (by kernel_rfl) (fun _ _ _ _ _ h => h) rfl (by kernel_rfl) (Frm.refl _ _).drew1 ?_
  intro K hK
  repeat (go_big_quiet_step (fail))
  refine wpQuiet_nil (hK _ ?_)
  clear hK K
  refine held_call (fuel := 3) (i := 10) rfl (by kernel_rfl) ?_
  go_wp2_with fail
  refine (Swap_any (H.out.ar.frm (S := []) ((Frm.refl _ _).drew1) (by simp) (by simp)) (tail) ((j : Int) + 1)).mono ?_; rw [HG.out]; rintro e w1 ⟨rfl, hA, hF⟩; have HF1 := Lib.hid (((Frm.refl [ab, wb] w).drew1).trans hF); have H1 := Lib.hid (H.out.ar_ HF1.out hA); have j1 := H1.out.p HJ.out (t := 1) (by omega); have j2 := H1.out.p HJ.out (t := 2) (by omega); have j3 := H1.out.p HJ.out (t := 3) (by omega); have jz := H1.out.row.frozen; clear hA hF
  go_wp2_with fail
  refine onNormal_mk ⟨(HF1.out.mono (S' := [sb, ab, wb]) (by simp)), ?_⟩
  refine held_row_at (fuel := 1) (is := [11, 12]) (.cons rfl (.cons rfl .nil)) (by kernel_rfl) (fun _ _ _ _ _ h => h) rfl (by kernel_rfl) (HF1.out.mono (S' := [sb, ab, wb]) (by simp)) ?_
  intro K hK
  repeat (go_big_quiet_step (fail))
  refine wpQuiet_nil (hK _ ?_)
  clear hK K
  refine held_call (fuel := 0) (i := 13) rfl (by kernel_rfl) ?_
  go_wp2_with fail
  refine onNormal_mk ⟨((HF1.out.mono (S' := [sb, ab, wb]) (by simp)).set ⟨sb, j * 4 + 1, none⟩ (.int .i64 v) (.inl (by simp))), ?_⟩
  refine held_end (by kernel_rfl) ?_
  clear hne hz0 hz1
  have HB := Lib.hid (H1.out.put j (t := 1) (by omega) v)
  have HF2 := Lib.hid ((HF1.out.mono (S' := [sb, ab, wb]) (by simp)).set ⟨sb, j * 4 + 1, none⟩ (.int .i64 v) (.inl (by simp)))
  clear H1 HF1 j1 j2 j3 jz
  generalize (w1.setCell ⟨sb, j * 4 + 1, none⟩ (.int .i64 v)) = W2 at *
  have k0 : W2.cell? ⟨sb, j * 4, none⟩ = some (.int .i64 3) := by rw [← H0.out]; exact (HB.out.p0 HJ.out).trans (by unfold spPut; simp)
  have kt : W2.cell? ⟨sb, j * 4 + 1, none⟩ = some (.int .i64 v) := (HB.out.p HJ.out (t := 1) (by omega)).trans (by unfold spPut; simp)
  go_wp2
  go_ret
  exact ⟨rfl, HB.out, HF2.out⟩
set_option maxRecDepth 100000 in
theorem c_in4 (h : McAt w lb sb ab wb tail n A S) {j : Nat} (hj : j < n) (h0 : S j 0 = 4) : Calls Tryz.prog 203 #[.pointer (some ⟨lb, 0, none⟩), .pointer (some ⟨sb, j * 4, none⟩), .int .i64 ((j : Int) + 1)] w fun e w' => e = .returned (.int .i64 5) ∧
    McAt w' lb sb ab wb tail n (A.store (cNext tail (S j 1)) ((j : Int) + 1)) (S) ∧ Frm [sb, ab, wb] w w' := by
  have HN := Lib.hid h.ne
  have HJ := Lib.hid hj
  have hn32 := h.n32
  have htb := h.tb
  have c0 : w.cell? ⟨sb, j * 4, none⟩ = some (.int .i64 4) := by rw [← h0]; exact h.p0 hj
  have c1 := h.p hj (t := 1) (by omega)
  have c2 := h.p hj (t := 2) (by omega)
  have c3 := h.p hj (t := 3) (by omega)
  have l0 := h.box.cell (i := 0) rfl
  have l1 := h.box.cell (i := 1) rfl
  have H := Lib.hid h
  have H0 := Lib.hid h0
  have HNX := Lib.hid (fun (W : World) (hf : Frm [] w W) (y : Int) => cNext_any (h.frm hf (by simp)) y)
  have HWT := Lib.hid (fun (W : World) (hf : Frm [] w W) (y : Int) => cWait_any (h.frm hf (by simp)) y)
  have hne : Nonempty (HW (fun wx => Frm [ab, wb] w wx)) := ⟨⟨w, Frm.refl _ _⟩⟩
  have hz0 : ∀ q : HW (fun wx => Frm [ab, wb] w wx), q.w.cell? ⟨lb, 0, none⟩ = some (.pointer (some ⟨ab, 0, none⟩)) := fun q => (h.box.frm q.h (by simp; have := HN.out; omega)).cell (i := 0) rfl
  have hz1 : ∀ q : HW (fun wx => Frm [ab, wb] w wx), q.w.cell? ⟨lb, 1, none⟩ = some (.int .i64 tail) := fun q => (h.box.frm q.h (by simp; have := HN.out; omega)).cell (i := 1) rfl
  have hy1 : ∀ q : HW (fun wx => Frm [ab, wb] w wx), q.w.cell? ⟨sb, j * 4 + 1, none⟩ = some (.int .i64 (S j 1)) := fun q => (h.row.frm q.h (by simp; have := HN.out; omega)).cell (spC_getT n S hj (by omega))
  have hy2 : ∀ q : HW (fun wx => Frm [ab, wb] w wx), q.w.cell? ⟨sb, j * 4 + 2, none⟩ = some (.int .i64 (S j 2)) := fun q => (h.row.frm q.h (by simp; have := HN.out; omega)).cell (spC_getT n S hj (by omega))
  have hy3 : ∀ q : HW (fun wx => Frm [ab, wb] w wx), q.w.cell? ⟨sb, j * 4 + 3, none⟩ = some (.int .i64 (S j 3)) := fun q => (h.row.frm q.h (by simp; have := HN.out; omega)).cell (spC_getT n S hj (by omega))
  clear h h0 hj
  go_enter Tryz.func203, Tryz.ntmps203
  go_wp2_with fail
  refine held_begin (S := fun wx => Frm [ab, wb] w wx) (by kernel_rfl) ?_
  refine held_row_at (fuel := 2) (is := [0, 1, 2, 3, 4, 5, 6, 7, 8, 10]) (.cons rfl (.cons rfl (.cons rfl (.cons rfl (.cons rfl (.cons rfl (.cons rfl (.cons rfl (.cons rfl (.cons rfl .nil)))))))))) (by kernel_rfl) (fun _ _ _ _ _ h => h) rfl (by kernel_rfl) (Frm.refl _ _).drew1 ?_
  intro K hK
  repeat (go_big_quiet_step (fail))
  refine wpQuiet_nil (hK _ ?_)
  clear hK K
  refine held_call (fuel := 1) (i := 9) rfl (by kernel_rfl) ?_
  go_wp2_with fail
  refine (HNX.out _ ((Frm.refl _ _).drew1) _).mono ?_; rintro e w' ⟨rfl, rfl⟩
  go_wp2_with fail
  refine onNormal_mk ⟨(Frm.refl _ _).drew1, ?_⟩
  refine held_call (fuel := 0) (i := 11) rfl (by kernel_rfl) ?_
  go_wp2_with fail
  refine (Store_any (H.out.ar.frm (S := []) ((Frm.refl _ _).drew1) (by simp) (by simp)) (cNext tail (S j 1)) ((j : Int) + 1)).mono ?_; rintro e w1 ⟨rfl, hA, hF⟩; have HF1 := Lib.hid (((Frm.refl [ab, wb] w).drew1).trans hF); have H1 := Lib.hid (H.out.ar_ HF1.out hA); have j1 := H1.out.p HJ.out (t := 1) (by omega); have j2 := H1.out.p HJ.out (t := 2) (by omega); have j3 := H1.out.p HJ.out (t := 3) (by omega); have jz := H1.out.row.frozen; clear hA hF
  go_wp2_with fail
  refine onNormal_mk ⟨HF1.out, ?_⟩
  refine held_end (by kernel_rfl) ?_
  clear hne hz0 hz1 hy1 hy2 hy3
  have HB := Lib.hid H1.out
  have HF2 := Lib.hid (HF1.out.mono (S' := [sb, ab, wb]) (by simp))
  have k0 : w1.cell? ⟨sb, j * 4, none⟩ = some (.int .i64 4) := by rw [← H0.out]; exact HB.out.p0 HJ.out
  have k1 := HB.out.p HJ.out (t := 1) (by omega)
  clear H1 HF1 j1 j2 j3 jz
  go_wp2
  go_ret
  exact ⟨rfl, HB.out, HF2.out⟩
set_option maxRecDepth 100000 in
theorem c_in5a (h : McAt w lb sb ab wb tail n A S) {j : Nat} (hj : j < n) (h0 : S j 0 = 5) (hg : A.get (cWait tail ((j : Int) + 1)) = 0) : Calls Tryz.prog 203 #[.pointer (some ⟨lb, 0, none⟩), .pointer (some ⟨sb, j * 4, none⟩), .int .i64 ((j : Int) + 1)] w fun e w' => e = .returned (.int .i64 10) ∧
    McAt w' lb sb ab wb tail n (A.load (cWait tail ((j : Int) + 1))) (S) ∧ Frm [sb, ab, wb] w w' := by
  have HN := Lib.hid h.ne
  have HJ := Lib.hid hj
  have hn32 := h.n32
  have htb := h.tb
  have c0 : w.cell? ⟨sb, j * 4, none⟩ = some (.int .i64 5) := by rw [← h0]; exact h.p0 hj
  have c1 := h.p hj (t := 1) (by omega)
  have c2 := h.p hj (t := 2) (by omega)
  have c3 := h.p hj (t := 3) (by omega)
  have l0 := h.box.cell (i := 0) rfl
  have l1 := h.box.cell (i := 1) rfl
  have H := Lib.hid h
  have H0 := Lib.hid h0
  have HNX := Lib.hid (fun (W : World) (hf : Frm [] w W) (y : Int) => cNext_any (h.frm hf (by simp)) y)
  have HWT := Lib.hid (fun (W : World) (hf : Frm [] w W) (y : Int) => cWait_any (h.frm hf (by simp)) y)
  have HG := Lib.hid hg
  clear hg
  have hne : Nonempty (HW (fun wx => Frm [ab, wb] w wx)) := ⟨⟨w, Frm.refl _ _⟩⟩
  have hz0 : ∀ q : HW (fun wx => Frm [ab, wb] w wx), q.w.cell? ⟨lb, 0, none⟩ = some (.pointer (some ⟨ab, 0, none⟩)) := fun q => (h.box.frm q.h (by simp; have := HN.out; omega)).cell (i := 0) rfl
  have hz1 : ∀ q : HW (fun wx => Frm [ab, wb] w wx), q.w.cell? ⟨lb, 1, none⟩ = some (.int .i64 tail) := fun q => (h.box.frm q.h (by simp; have := HN.out; omega)).cell (i := 1) rfl
  have hy1 : ∀ q : HW (fun wx => Frm [ab, wb] w wx), q.w.cell? ⟨sb, j * 4 + 1, none⟩ = some (.int .i64 (S j 1)) := fun q => (h.row.frm q.h (by simp; have := HN.out; omega)).cell (spC_getT n S hj (by omega))
  have hy2 : ∀ q : HW (fun wx => Frm [ab, wb] w wx), q.w.cell? ⟨sb, j * 4 + 2, none⟩ = some (.int .i64 (S j 2)) := fun q => (h.row.frm q.h (by simp; have := HN.out; omega)).cell (spC_getT n S hj (by omega))
  have hy3 : ∀ q : HW (fun wx => Frm [ab, wb] w wx), q.w.cell? ⟨sb, j * 4 + 3, none⟩ = some (.int .i64 (S j 3)) := fun q => (h.row.frm q.h (by simp; have := HN.out; omega)).cell (spC_getT n S hj (by omega))
  clear h h0 hj
  go_enter Tryz.func203, Tryz.ntmps203
  go_wp2_with fail
  refine held_begin (S := fun wx => Frm [ab, wb] w wx) (by kernel_rfl) ?_
  refine held_row_at (fuel := 3) (is := [0, 1, 2, 3, 4, 5]) (.cons rfl (.cons rfl (.cons rfl (.cons rfl (.cons rfl (.cons rfl .nil)))))) (by kernel_rfl) (fun _ _ _ _ _ h => h) rfl (by kernel_rfl) (Frm.refl _ _).drew1 ?_
  intro K hK
  repeat (go_big_quiet_step (fail))
  refine wpQuiet_nil (hK _ ?_)
  clear hK K
  refine held_call (fuel := 2) (i := 6) rfl (by kernel_rfl) ?_
  go_wp2_with fail
  refine (HWT.out _ ((Frm.refl _ _).drew1) _).mono ?_; rintro e w' ⟨rfl, rfl⟩
  go_wp2_with fail
  refine onNormal_mk ⟨(Frm.refl _ _).drew1, ?_⟩
  refine held_call (fuel := 1) (i := 7) rfl (by kernel_rfl) ?_
  go_wp2_with fail
  refine (Load_any (H.out.ar.frm (S := []) ((Frm.refl _ _).drew1) (by simp) (by simp)) (cWait tail ((j : Int) + 1))).mono ?_; rw [HG.out]; rintro e w1 ⟨rfl, hA, hF⟩; have HF1 := Lib.hid (((Frm.refl [ab, wb] w).drew1).trans hF); have H1 := Lib.hid (H.out.ar_ HF1.out hA); have j1 := H1.out.p HJ.out (t := 1) (by omega); have j2 := H1.out.p HJ.out (t := 2) (by omega); have j3 := H1.out.p HJ.out (t := 3) (by omega); have jz := H1.out.row.frozen; clear hA hF
  go_wp2_with fail
  refine onNormal_mk ⟨HF1.out, ?_⟩
  refine held_row_at (fuel := 0) (is := [8]) (.cons rfl .nil) (by kernel_rfl) (fun _ _ _ _ _ h => h) rfl (by kernel_rfl) HF1.out ?_
  intro K hK
  repeat (go_big_quiet_step (fail))
  refine wpQuiet_nil (hK _ ?_)
  clear hK K
  refine held_end (by kernel_rfl) ?_
  clear hne hz0 hz1 hy1 hy2 hy3
  have HB := Lib.hid H1.out
  have HF2 := Lib.hid (HF1.out.mono (S' := [sb, ab, wb]) (by simp))
  have k0 : w1.cell? ⟨sb, j * 4, none⟩ = some (.int .i64 5) := by rw [← H0.out]; exact HB.out.p0 HJ.out
  have k1 := HB.out.p HJ.out (t := 1) (by omega)
  clear H1 HF1 j1 j2 j3 jz
  go_wp2
  go_ret
  exact ⟨rfl, HB.out, HF2.out⟩
set_option maxRecDepth 100000 in
theorem c_in5b (h : McAt w lb sb ab wb tail n A S) {j : Nat} (hj : j < n) (h0 : S j 0 = 5) (hg : ¬ A.get (cWait tail ((j : Int) + 1)) = 0) : Calls Tryz.prog 203 #[.pointer (some ⟨lb, 0, none⟩), .pointer (some ⟨sb, j * 4, none⟩), .int .i64 ((j : Int) + 1)] w fun e w' => e = .returned (.int .i64 5) ∧
    McAt w' lb sb ab wb tail n (A.load (cWait tail ((j : Int) + 1))) (S) ∧ Frm [sb, ab, wb] w w' := by
  have HN := Lib.hid h.ne
  have HJ := Lib.hid hj
  have hn32 := h.n32
  have htb := h.tb
  have c0 : w.cell? ⟨sb, j * 4, none⟩ = some (.int .i64 5) := by rw [← h0]; exact h.p0 hj
  have c1 := h.p hj (t := 1) (by omega)
  have c2 := h.p hj (t := 2) (by omega)
  have c3 := h.p hj (t := 3) (by omega)
  have l0 := h.box.cell (i := 0) rfl
  have l1 := h.box.cell (i := 1) rfl
  have H := Lib.hid h
  have H0 := Lib.hid h0
  have HNX := Lib.hid (fun (W : World) (hf : Frm [] w W) (y : Int) => cNext_any (h.frm hf (by simp)) y)
  have HWT := Lib.hid (fun (W : World) (hf : Frm [] w W) (y : Int) => cWait_any (h.frm hf (by simp)) y)
  generalize hv : A.get (cWait tail ((j : Int) + 1)) = v at hg ⊢
  have HG := Lib.hid hv
  clear hv
  have e0 : (v == 0) = false := by simpa using hg
  have e1 : (v != 0) = true := by simpa using hg
  clear hg
  have hne : Nonempty (HW (fun wx => Frm [ab, wb] w wx)) := ⟨⟨w, Frm.refl _ _⟩⟩
  have hz0 : ∀ q : HW (fun wx => Frm [ab, wb] w wx), q.w.cell? ⟨lb, 0, none⟩ = some (.pointer (some ⟨ab, 0, none⟩)) := fun q => (h.box.frm q.h (by simp; have := HN.out; omega)).cell (i := 0) rfl
  have hz1 : ∀ q : HW (fun wx => Frm [ab, wb] w wx), q.w.cell? ⟨lb, 1, none⟩ = some (.int .i64 tail) := fun q => (h.box.frm q.h (by simp; have := HN.out; omega)).cell (i := 1) rfl
  have hy1 : ∀ q : HW (fun wx => Frm [ab, wb] w wx), q.w.cell? ⟨sb, j * 4 + 1, none⟩ = some (.int .i64 (S j 1)) := fun q => (h.row.frm q.h (by simp; have := HN.out; omega)).cell (spC_getT n S hj (by omega))
  have hy2 : ∀ q : HW (fun wx => Frm [ab, wb] w wx), q.w.cell? ⟨sb, j * 4 + 2, none⟩ = some (.int .i64 (S j 2)) := fun q => (h.row.frm q.h (by simp; have := HN.out; omega)).cell (spC_getT n S hj (by omega))
  have hy3 : ∀ q : HW (fun wx => Frm [ab, wb] w wx), q.w.cell? ⟨sb, j * 4 + 3, none⟩ = some (.int .i64 (S j 3)) := fun q => (h.row.frm q.h (by simp; have := HN.out; omega)).cell (spC_getT n S hj (by omega))
  clear h h0 hj
  go_enter Tryz.func203, Tryz.ntmps203
  go_wp2_with fail
  refine held_begin (S := fun wx => Frm [ab, wb] w wx) (by kernel_rfl) ?_
  refine held_row_at (fuel := 3) (is := [0, 1, 2, 3, 4, 5]) (.cons rfl (.cons rfl (.cons rfl (.cons rfl (.cons rfl (.cons rfl .nil)))))) (by kernel_rfl) (fun _ _ _ _ _ h => h) rfl (by kernel_rfl) (Frm.refl _ _).drew1 ?_
  intro K hK
  repeat (go_big_quiet_step (fail))
  refine wpQuiet_nil (hK _ ?_)
  clear hK K
  refine held_call (fuel := 2) (i := 6) rfl (by kernel_rfl) ?_
  go_wp2_with fail
  refine (HWT.out _ ((Frm.refl _ _).drew1) _).mono ?_; rintro e w' ⟨rfl, rfl⟩
  go_wp2_with fail
  refine onNormal_mk ⟨(Frm.refl _ _).drew1, ?_⟩
  refine held_call (fuel := 1) (i := 7) rfl (by kernel_rfl) ?_
  go_wp2_with fail
  refine (Load_any (H.out.ar.frm (S := []) ((Frm.refl _ _).drew1) (by simp) (by simp)) (cWait tail ((j : Int) + 1))).mono ?_; rw [HG.out]; rintro e w1 ⟨rfl, hA, hF⟩; have HF1 := Lib.hid (((Frm.refl [ab, wb] w).drew1).trans hF); have H1 := Lib.hid (H.out.ar_ HF1.out hA); have j1 := H1.out.p HJ.out (t := 1) (by omega); have j2 := H1.out.p HJ.out (t := 2) (by omega); have j3 := H1.out.p HJ.out (t := 3) (by omega); have jz := H1.out.row.frozen; clear hA hF
  go_wp2_with fail
  refine onNormal_mk ⟨HF1.out, ?_⟩
  refine held_row_at (fuel := 0) (is := [8]) (.cons rfl .nil) (by kernel_rfl) (fun _ _ _ _ _ h => h) rfl (by kernel_rfl) HF1.out ?_
  intro K hK
  repeat (go_big_quiet_step (fail))
  refine wpQuiet_nil (hK _ ?_)
  clear hK K
  refine held_end (by kernel_rfl) ?_
  clear hne hz0 hz1 hy1 hy2 hy3
  have HB := Lib.hid H1.out
  have HF2 := Lib.hid (HF1.out.mono (S' := [sb, ab, wb]) (by simp))
  have k0 : w1.cell? ⟨sb, j * 4, none⟩ = some (.int .i64 5) := by rw [← H0.out]; exact HB.out.p0 HJ.out
  have k1 := HB.out.p HJ.out (t := 1) (by omega)
  clear H1 HF1 j1 j2 j3 jz
  go_wp2
  go_ret
  exact ⟨rfl, HB.out, HF2.out⟩
set_option maxRecDepth 100000 in
theorem c_11a (h : McAt w lb sb ab wb tail n A S) {j : Nat} (hj : j < n) (h0 : S j 0 = 11) (hg : A.get (cNext tail ((j : Int) + 1)) = 0) : Calls Tryz.prog 204 #[.pointer (some ⟨lb, 0, none⟩), .pointer (some ⟨sb, j * 4, none⟩), .int .i64 ((j : Int) + 1)] w fun e w' => e = .returned (.int .i64 12) ∧
    McAt w' lb sb ab wb tail n (A.load (cNext tail ((j : Int) + 1))) (spPut S j 1 (A.get (cNext tail ((j : Int) + 1)))) ∧ Frm [sb, ab, wb] w w' := by
  have HN := Lib.hid h.ne
  have HJ := Lib.hid hj
  have hn32 := h.n32
  have htb := h.tb
  have c0 : w.cell? ⟨sb, j * 4, none⟩ = some (.int .i64 11) := by rw [← h0]; exact h.p0 hj
  have c1 := h.p hj (t := 1) (by omega)
  have c2 := h.p hj (t := 2) (by omega)
  have c3 := h.p hj (t := 3) (by omega)
  have l0 := h.box.cell (i := 0) rfl
  have l1 := h.box.cell (i := 1) rfl
  have H := Lib.hid h
  have H0 := Lib.hid h0
  have HNX := Lib.hid (fun (W : World) (hf : Frm [] w W) (y : Int) => cNext_any (h.frm hf (by simp)) y)
  have HWT := Lib.hid (fun (W : World) (hf : Frm [] w W) (y : Int) => cWait_any (h.frm hf (by simp)) y)
  have HG := Lib.hid hg
  rw [hg]
  clear hg
  have hne : Nonempty (HW (fun wx => Frm [sb, ab, wb] w wx)) := ⟨⟨w, Frm.refl _ _⟩⟩
  have hz0 : ∀ q : HW (fun wx => Frm [sb, ab, wb] w wx), q.w.cell? ⟨lb, 0, none⟩ = some (.pointer (some ⟨ab, 0, none⟩)) := fun q => (h.box.frm q.h (by simp; have := HN.out; omega)).cell (i := 0) rfl
  have hz1 : ∀ q : HW (fun wx => Frm [sb, ab, wb] w wx), q.w.cell? ⟨lb, 1, none⟩ = some (.int .i64 tail) := fun q => (h.box.frm q.h (by simp; have := HN.out; omega)).cell (i := 1) rfl
  clear h h0 hj
  go_enter Tryz.func204, Tryz.ntmps204
  go_wp2_with fail
  refine held_begin (S := fun wx => Frm [sb, ab, wb] w wx) (by kernel_rfl) ?_
  refine held_row_at (fuel := 5) (is := [0, 1, 2, 3, 4, 5, 6]) (.cons rfl (.cons rfl (.cons rfl (.cons rfl (.cons rfl (.cons rfl (.cons rfl .nil))))))) (by kernel_rfl) (fun _ _ _ _ _ h => h) rfl (by kernel_rfl) (Frm.refl _ _).drew1 ?_
  intro K hK
  repeat (go_big_quiet_step (fail))
  refine wpQuiet_nil (hK _ ?_)
  clear hK K
  refine held_call (fuel := 4) (i := 7) rfl (by kernel_rfl) ?_
  go_wp2_with fail
  refine (HNX.out _ ((Frm.refl _ _).drew1) _).mono ?_; rintro e w' ⟨rfl, rfl⟩
  go_wp2_with fail
  refine onNormal_mk ⟨(Frm.refl _ _).drew1, ?_⟩
  refine held_call (fuel := 3) (i := 8) rfl (by kernel_rfl) ?_
  go_wp2_with fail
  refine (Load_any (H.out.ar.frm (S := []) ((Frm.refl _ _).drew1) (by simp) (by simp)) (cNext tail ((j : Int) + 1))).mono ?_; rw [HG.out]; rintro e w1 ⟨rfl, hA, hF⟩; have HF1 := Lib.hid (((Frm.refl [ab, wb] w).drew1).trans hF); have H1 := Lib.hid (H.out.ar_ HF1.out hA); have j1 := H1.out.p HJ.out (t := 1) (by omega); have j2 := H1.out.p HJ.out (t := 2) (by omega); have j3 := H1.out.p HJ.out (t := 3) (by omega); have jz := H1.out.row.frozen; clear hA hF
  go_wp2_with fail
  refine onNormal_mk ⟨(HF1.out.mono (S' := [sb, ab, wb]) (by simp)), ?_⟩
  refine held_row_at (fuel := 1) (is := [9, 10]) (.cons rfl (.cons rfl .nil)) (by kernel_rfl) (fun _ _ _ _ _ h => h) rfl (by kernel_rfl) (HF1.out.mono (S' := [sb, ab, wb]) (by simp)) ?_
  intro K hK
  repeat (go_big_quiet_step (fail))
  refine wpQuiet_nil (hK _ ?_)
  clear hK K
  refine held_call (fuel := 0) (i := 11) rfl (by kernel_rfl) ?_
  go_wp2_with fail
  refine onNormal_mk ⟨((HF1.out.mono (S' := [sb, ab, wb]) (by simp)).set ⟨sb, j * 4 + 1, none⟩ (.int .i64 0) (.inl (by simp))), ?_⟩
  refine held_end (by kernel_rfl) ?_
  clear hne hz0 hz1
  have HB := Lib.hid (H1.out.put j (t := 1) (by omega) 0)
  have HF2 := Lib.hid ((HF1.out.mono (S' := [sb, ab, wb]) (by simp)).set ⟨sb, j * 4 + 1, none⟩ (.int .i64 0) (.inl (by simp)))
  clear H1 HF1 j1 j2 j3 jz
  generalize (w1.setCell ⟨sb, j * 4 + 1, none⟩ (.int .i64 0)) = W2 at *
  have k0 : W2.cell? ⟨sb, j * 4, none⟩ = some (.int .i64 11) := by rw [← H0.out]; exact (HB.out.p0 HJ.out).trans (by unfold spPut; simp)
  have kt : W2.cell? ⟨sb, j * 4 + 1, none⟩ = some (.int .i64 0) := (HB.out.p HJ.out (t := 1) (by omega)).trans (by unfold spPut; simp)
  go_wp2
  go_ret
  exact ⟨rfl, HB.out, HF2.out⟩
set_option maxRecDepth 100000 in
theorem c_11b (h : McAt w lb sb ab wb tail n A S) {j : Nat} (hj : j < n) (h0 : S j 0 = 11) (hg : ¬ A.get (cNext tail ((j : Int) + 1)) = 0) : Calls Tryz.prog 204 #[.pointer (some ⟨lb, 0, none⟩), .pointer (some ⟨sb, j * 4, none⟩), .int .i64 ((j : Int) + 1)] w fun e w' => e = .returned (.int .i64 14) ∧
    McAt w' lb sb ab wb tail n (A.load (cNext tail ((j : Int) + 1))) (spPut S j 1 (A.get (cNext tail ((j : Int) + 1)))) ∧ Frm [sb, ab, wb] w w' := by
  have HN := Lib.hid h.ne
  have HJ := Lib.hid hj
  have hn32 := h.n32
  have htb := h.tb
  have c0 : w.cell? ⟨sb, j * 4, none⟩ = some (.int .i64 11) := by rw [← h0]; exact h.p0 hj
  have c1 := h.p hj (t := 1) (by omega)
  have c2 := h.p hj (t := 2) (by omega)
  have c3 := h.p hj (t := 3) (by omega)
  have l0 := h.box.cell (i := 0) rfl
  have l1 := h.box.cell (i := 1) rfl
  have H := Lib.hid h
  have H0 := Lib.hid h0
  have HNX := Lib.hid (fun (W : World) (hf : Frm [] w W) (y : Int) => cNext_any (h.frm hf (by simp)) y)
  have HWT := Lib.hid (fun (W : World) (hf : Frm [] w W) (y : Int) => cWait_any (h.frm hf (by simp)) y)
  generalize hv : A.get (cNext tail ((j : Int) + 1)) = v at hg ⊢
  have HG := Lib.hid hv
  clear hv
  have e0 : (v == 0) = false := by simpa using hg
  have e1 : (v != 0) = true := by simpa using hg
  clear hg
  have hne : Nonempty (HW (fun wx => Frm [sb, ab, wb] w wx)) := ⟨⟨w, Frm.refl _ _⟩⟩
  have hz0 : ∀ q : HW (fun wx => Frm [sb, ab, wb] w wx), q.w.cell? ⟨lb, 0, none⟩ = some (.pointer (some ⟨ab, 0, none⟩)) := fun q => (h.box.frm q.h (by simp; have := HN.out; omega)).cell (i := 0) rfl
  have hz1 : ∀ q : HW (fun wx => Frm [sb, ab, wb] w wx), q.w.cell? ⟨lb, 1, none⟩ = some (.int .i64 tail) := fun q => (h.box.frm q.h (by simp; have := HN.out; omega)).cell (i := 1) rfl
  clear h h0 hj
  go_enter Tryz.func204, Tryz.ntmps204
  go_wp2_with fail
  refine held_begin (S := fun wx => Frm [sb, ab, wb] w wx) (by kernel_rfl) ?_
  refine held_row_at (fuel := 5) (is := [0, 1, 2, 3, 4, 5, 6]) (.cons rfl (.cons rfl (.cons rfl (.cons rfl (.cons rfl (.cons rfl (.cons rfl .nil))))))) (by kernel_rfl) (fun _ _ _ _ _ h => h) rfl (by kernel_rfl) (Frm.refl _ _).drew1 ?_
  intro K hK
  repeat (go_big_quiet_step (fail))
  refine wpQuiet_nil (hK _ ?_)
  clear hK K
  refine held_call (fuel := 4) (i := 7) rfl (by kernel_rfl) ?_
  go_wp2_with fail
  refine (HNX.out _ ((Frm.refl _ _).drew1) _).mono ?_; rintro e w' ⟨rfl, rfl⟩
  go_wp2_with fail
  refine onNormal_mk ⟨(Frm.refl _ _).drew1, ?_⟩
  refine held_call (fuel := 3) (i := 8) rfl (by kernel_rfl) ?_
  go_wp2_with fail
  refine (Load_any (H.out.ar.frm (S := []) ((Frm.refl _ _).drew1) (by simp) (by simp)) (cNext tail ((j : Int) + 1))).mono ?_; rw [HG.out]; rintro e w1 ⟨rfl, hA, hF⟩; have HF1 := Lib.hid (((Frm.refl [ab, wb] w).drew1).trans hF); have H1 := Lib.hid (H.out.ar_ HF1.out hA); have j1 := H1.out.p HJ.out (t := 1) (by omega); have j2 := H1.out.p HJ.out (t := 2) (by omega); have j3 := H1.out.p HJ.out (t := 3) (by omega); have jz := H1.out.row.frozen; clear hA hF
  go_wp2_with fail
  refine onNormal_mk ⟨(HF1.out.mono (S' := [sb, ab, wb]) (by simp)), ?_⟩
  refine held_row_at (fuel := 1) (is := [9, 10]) (.cons rfl (.cons rfl .nil)) (by kernel_rfl) (fun _ _ _ _ _ h => h) rfl (by kernel_rfl) (HF1.out.mono (S' := [sb, ab, wb]) (by simp)) ?_
  intro K hK
  repeat (go_big_quiet_step (fail))
  refine wpQuiet_nil (hK _ ?_)
  clear hK K
  refine held_call (fuel := 0) (i := 11) rfl (by kernel_rfl) ?_
  go_wp2_with fail
  refine onNormal_mk ⟨((HF1.out.mono (S' := [sb, ab, wb]) (by simp)).set ⟨sb, j * 4 + 1, none⟩ (.int .i64 v) (.inl (by simp))), ?_⟩
  refine held_end (by kernel_rfl) ?_
  clear hne hz0 hz1
  have HB := Lib.hid (H1.out.put j (t := 1) (by omega) v)
  have HF2 := Lib.hid ((HF1.out.mono (S' := [sb, ab, wb]) (by simp)).set ⟨sb, j * 4 + 1, none⟩ (.int .i64 v) (.inl (by simp)))
  clear H1 HF1 j1 j2 j3 jz
  generalize (w1.setCell ⟨sb, j * 4 + 1, none⟩ (.int .i64 v)) = W2 at *
  have k0 : W2.cell? ⟨sb, j * 4, none⟩ = some (.int .i64 11) := by rw [← H0.out]; exact (HB.out.p0 HJ.out).trans (by unfold spPut; simp)
  have kt : W2.cell? ⟨sb, j * 4 + 1, none⟩ = some (.int .i64 v) := (HB.out.p HJ.out (t := 1) (by omega)).trans (by unfold spPut; simp)
  go_wp2
  go_ret
  exact ⟨rfl, HB.out, HF2.out⟩
set_option maxRecDepth 100000 in
theorem c_13a (h : McAt w lb sb ab wb tail n A S) {j : Nat} (hj : j < n) (h0 : S j 0 = 13) (hg : A.get (cNext tail ((j : Int) + 1)) = 0) : Calls Tryz.prog 204 #[.pointer (some ⟨lb, 0, none⟩), .pointer (some ⟨sb, j * 4, none⟩), .int .i64 ((j : Int) + 1)] w fun e w' => e = .returned (.int .i64 13) ∧
    McAt w' lb sb ab wb tail n (A.load (cNext tail ((j : Int) + 1))) (spPut S j 1 (A.get (cNext tail ((j : Int) + 1)))) ∧ Frm [sb, ab, wb] w w' := by
  have HN := Lib.hid h.ne
  have HJ := Lib.hid hj
  have hn32 := h.n32
  have htb := h.tb
  have c0 : w.cell? ⟨sb, j * 4, none⟩ = some (.int .i64 13) := by rw [← h0]; exact h.p0 hj
  have c1 := h.p hj (t := 1) (by omega)
  have c2 := h.p hj (t := 2) (by omega)
  have c3 := h.p hj (t := 3) (by omega)
  have l0 := h.box.cell (i := 0) rfl
  have l1 := h.box.cell (i := 1) rfl
  have H := Lib.hid h
  have H0 := Lib.hid h0
  have HNX := Lib.hid (fun (W : World) (hf : Frm [] w W) (y : Int) => cNext_any (h.frm hf (by simp)) y)
  have HWT := Lib.hid (fun (W : World) (hf : Frm [] w W) (y : Int) => cWait_any (h.frm hf (by simp)) y)
  have HG := Lib.hid hg
  rw [hg]
  clear hg
  have hne : Nonempty (HW (fun wx => Frm [sb, ab, wb] w wx)) := ⟨⟨w, Frm.refl _ _⟩⟩
  have hz0 : ∀ q : HW (fun wx => Frm [sb, ab, wb] w wx), q.w.cell? ⟨lb, 0, none⟩ = some (.pointer (some ⟨ab, 0, none⟩)) := fun q => (h.box.frm q.h (by simp; have := HN.out; omega)).cell (i := 0) rfl
  have hz1 : ∀ q : HW (fun wx => Frm [sb, ab, wb] w wx), q.w.cell? ⟨lb, 1, none⟩ = some (.int .i64 tail) := fun q => (h.box.frm q.h (by simp; have := HN.out; omega)).cell (i := 1) rfl
  clear h h0 hj
  go_enter Tryz.func204, Tryz.ntmps204
  go_wp2_with fail
  refine held_begin (S := fun wx => Frm [sb, ab, wb] w wx) (by kernel_rfl) ?_
  refine held_row_at (fuel := 5) (is := [0, 1, 2, 3, 4, 5, 6]) (.cons rfl (.cons rfl (.cons rfl (.cons rfl (.cons rfl (.cons rfl (.cons rfl .nil))))))) (by kernel_rfl) (fun _ _ _ _ _ h => h) rfl (by kernel_rfl) (Frm.refl _ _).drew1 ?_
  intro K hK
  repeat (go_big_quiet_step (fail))
  refine wpQuiet_nil (hK _ ?_)
  clear hK K
  refine held_call (fuel := 4) (i := 7) rfl (by kernel_rfl) ?_
  go_wp2_with fail
  refine (HNX.out _ ((Frm.refl _ _).drew1) _).mono ?_; rintro e w' ⟨rfl, rfl⟩
  go_wp2_with fail
  refine onNormal_mk ⟨(Frm.refl _ _).drew1, ?_⟩
  refine held_call (fuel := 3) (i := 8) rfl (by kernel_rfl) ?_
  go_wp2_with fail
  refine (Load_any (H.out.ar.frm (S := []) ((Frm.refl _ _).drew1) (by simp) (by simp)) (cNext tail ((j : Int) + 1))).mono ?_; rw [HG.out]; rintro e w1 ⟨rfl, hA, hF⟩; have HF1 := Lib.hid (((Frm.refl [ab, wb] w).drew1).trans hF); have H1 := Lib.hid (H.out.ar_ HF1.out hA); have j1 := H1.out.p HJ.out (t := 1) (by omega); have j2 := H1.out.p HJ.out (t := 2) (by omega); have j3 := H1.out.p HJ.out (t := 3) (by omega); have jz := H1.out.row.frozen; clear hA hF
  go_wp2_with fail
  refine onNormal_mk ⟨(HF1.out.mono (S' := [sb, ab, wb]) (by simp)), ?_⟩
  refine held_row_at (fuel := 1) (is := [9, 10]) (.cons rfl (.cons rfl .nil)) (by kernel_rfl) (fun _ _ _ _ _ h => h) rfl (by kernel_rfl) (HF1.out.mono (S' := [sb, ab, wb]) (by simp)) ?_
  intro K hK
  repeat (go_big_quiet_step (fail))
  refine wpQuiet_nil (hK _ ?_)
  clear hK K
  refine held_call (fuel := 0) (i := 11) rfl (by kernel_rfl) ?_
  go_wp2_with fail
  refine onNormal_mk ⟨((HF1.out.mono (S' := [sb, ab, wb]) (by simp)).set ⟨sb, j * 4 + 1, none⟩ (.int .i64 0) (.inl (by simp))), ?_⟩
  refine held_end (by kernel_rfl) ?_
  clear hne hz0 hz1
  have HB := Lib.hid (H1.out.put j (t := 1) (by omega) 0)
  have HF2 := Lib.hid ((HF1.out.mono (S' := [sb, ab, wb]) (by simp)).set ⟨sb, j * 4 + 1, none⟩ (.int .i64 0) (.inl (by simp)))
  clear H1 HF1 j1 j2 j3 jz
  generalize (w1.setCell ⟨sb, j * 4 + 1, none⟩ (.int .i64 0)) = W2 at *
  have k0 : W2.cell? ⟨sb, j * 4, none⟩ = some (.int .i64 13) := by rw [← H0.out]; exact (HB.out.p0 HJ.out).trans (by unfold spPut; simp)
  have kt : W2.cell? ⟨sb, j * 4 + 1, none⟩ = some (.int .i64 0) := (HB.out.p HJ.out (t := 1) (by omega)).trans (by unfold spPut; simp)
  go_wp2
  go_ret
  exact ⟨rfl, HB.out, HF2.out⟩
set_option maxRecDepth 100000 in
theorem c_13b (h : McAt w lb sb ab wb tail n A S) {j : Nat} (hj : j < n) (h0 : S j 0 = 13) (hg : ¬ A.get (cNext tail ((j : Int) + 1)) = 0) : Calls Tryz.prog 204 #[.pointer (some ⟨lb, 0, none⟩), .pointer (some ⟨sb, j * 4, none⟩), .int .i64 ((j : Int) + 1)] w fun e w' => e = .returned (.int .i64 14) ∧
    McAt w' lb sb ab wb tail n (A.load (cNext tail ((j : Int) + 1))) (spPut S j 1 (A.get (cNext tail ((j : Int) + 1)))) ∧ Frm [sb, ab, wb] w w' := by
  have HN := Lib.hid h.ne
  have HJ := Lib.hid hj
  have hn32 := h.n32
  have htb := h.tb
  have c0 : w.cell? ⟨sb, j * 4, none⟩ = some (.int .i64 13) := by rw [← h0]; exact h.p0 hj
  have c1 := h.p hj (t := 1) (by omega)
  have c2 := h.p hj (t := 2) (by omega)
  have c3 := h.p hj (t := 3) (by omega)
  have l0 := h.box.cell (i := 0) rfl
  have l1 := h.box.cell (i := 1) rfl
  have H := Lib.hid h
  have H0 := Lib.hid h0
  have HNX := Lib.hid (fun (W : World) (hf : Frm [] w W) (y : Int) => cNext_any (h.frm hf (by simp)) y)
  have HWT := Lib.hid (fun (W : World) (hf : Frm [] w W) (y : Int) => cWait_any (h.frm hf (by simp)) y)
  generalize hv : A.get (cNext tail ((j : Int) + 1)) = v at hg ⊢
  have HG := Lib.hid hv
  clear hv
  have e0 : (v == 0) = false := by simpa using hg
  have e1 : (v != 0) = true := by simpa using hg
  clear hg
  have hne : Nonempty (HW (fun wx => Frm [sb, ab, wb] w wx)) := ⟨⟨w, Frm.refl _ _⟩⟩
  have hz0 : ∀ q : HW (fun wx => Frm [sb, ab, wb] w wx), q.w.cell? ⟨lb, 0, none⟩ = some (.pointer (some ⟨ab, 0, none⟩)) := fun q => (h.box.frm q.h (by simp; have := HN.out; omega)).cell (i := 0) rfl
  have hz1 : ∀ q : HW (fun wx => Frm [sb, ab, wb] w wx), q.w.cell? ⟨lb, 1, none⟩ = some (.int .i64 tail) := fun q => (h.box.frm q.h (by simp; have := HN.out; omega)).cell (i := 1) rfl
  clear h h0 hj
  go_enter Tryz.func204, Tryz.ntmps204
  go_wp2_with fail
  refine held_begin (S := fun wx => Frm [sb, ab, wb] w wx) (by kernel_rfl) ?_
  refine held_row_at (fuel := 5) (is := [0, 1, 2, 3, 4, 5, 6]) (.cons rfl (.cons rfl (.cons rfl (.cons rfl (.cons rfl (.cons rfl (.cons rfl .nil))))))) (by kernel_rfl) (fun _ _ _ _ _ h => h) rfl (by kernel_rfl) (Frm.refl _ _).drew1 ?_
  intro K hK
  repeat (go_big_quiet_step (fail))
  refine wpQuiet_nil (hK _ ?_)
  clear hK K
  refine held_call (fuel := 4) (i := 7) rfl (by kernel_rfl) ?_
  go_wp2_with fail
  refine (HNX.out _ ((Frm.refl _ _).drew1) _).mono ?_; rintro e w' ⟨rfl, rfl⟩
  go_wp2_with fail
  refine onNormal_mk ⟨(Frm.refl _ _).drew1, ?_⟩
  refine held_call (fuel := 3) (i := 8) rfl (by kernel_rfl) ?_
  go_wp2_with fail
  refine (Load_any (H.out.ar.frm (S := []) ((Frm.refl _ _).drew1) (by simp) (by simp)) (cNext tail ((j : Int) + 1))).mono ?_; rw [HG.out]; rintro e w1 ⟨rfl, hA, hF⟩; have HF1 := Lib.hid (((Frm.refl [ab, wb] w).drew1).trans hF); have H1 := Lib.hid (H.out.ar_ HF1.out hA); have j1 := H1.out.p HJ.out (t := 1) (by omega); have j2 := H1.out.p HJ.out (t := 2) (by omega); have j3 := H1.out.p HJ.out (t := 3) (by omega); have jz := H1.out.row.frozen; clear hA hF
  go_wp2_with fail
  refine onNormal_mk ⟨(HF1.out.mono (S' := [sb, ab, wb]) (by simp)), ?_⟩
  refine held_row_at (fuel := 1) (is := [9, 10]) (.cons rfl (.cons rfl .nil)) (by kernel_rfl) (fun _ _ _ _ _ h => h) rfl (by kernel_rfl) (HF1.out.mono (S' := [sb, ab, wb]) (by simp)) ?_
  intro K hK
  repeat (go_big_quiet_step (fail))
  refine wpQuiet_nil (hK _ ?_)
  clear hK K
  refine held_call (fuel := 0) (i := 11) rfl (by kernel_rfl) ?_
  go_wp2_with fail
  refine onNormal_mk ⟨((HF1.out.mono (S' := [sb, ab, wb]) (by simp)).set ⟨sb, j * 4 + 1, none⟩ (.int .i64 v) (.inl (by simp))), ?_⟩
  refine held_end (by kernel_rfl) ?_
  clear hne hz0 hz1
  have HB := Lib.hid (H1.out.put j (t := 1) (by omega) v)
  have HF2 := Lib.hid ((HF1.out.mono (S' := [sb, ab, wb]) (by simp)).set ⟨sb, j * 4 + 1, none⟩ (.int .i64 v) (.inl (by simp)))
  clear H1 HF1 j1 j2 j3 jz
  generalize (w1.setCell ⟨sb, j * 4 + 1, none⟩ (.int .i64 v)) = W2 at *
  have k0 : W2.cell? ⟨sb, j * 4, none⟩ = some (.int .i64 13) := by rw [← H0.out]; exact (HB.out.p0 HJ.out).trans (by unfold spPut; simp)
  have kt : W2.cell? ⟨sb, j * 4 + 1, none⟩ = some (.int .i64 v) := (HB.out.p HJ.out (t := 1) (by omega)).trans (by unfold spPut; simp)
  go_wp2
  go_ret
  exact ⟨rfl, HB.out, HF2.out⟩
set_option maxRecDepth 100000 in
theorem c_12a (h : McAt w lb sb ab wb tail n A S) {j : Nat} (hj : j < n) (h0 : S j 0 = 12) (hg : A.casOk tail ((j : Int) + 1) = true) : Calls Tryz.prog 204 #[.pointer (some ⟨lb, 0, none⟩), .pointer (some ⟨sb, j * 4, none⟩), .int .i64 ((j : Int) + 1)] w fun e w' => e = .returned (.int .i64 0) ∧
    McAt w' lb sb ab wb tail n (A.cas tail ((j : Int) + 1) 0) (S) ∧ Frm [sb, ab, wb] w w' := by
  have HN := Lib.hid h.ne
  have HJ := Lib.hid hj
  have hn32 := h.n32
  have htb := h.tb
  have c0 : w.cell? ⟨sb, j * 4, none⟩ = some (.int .i64 12) := by rw [← h0]; exact h.p0 hj
  have c1 := h.p hj (t := 1) (by omega)
  have c2 := h.p hj (t := 2) (by omega)
  have c3 := h.p hj (t := 3) (by omega)
  have l0 := h.box.cell (i := 0) rfl
  have l1 := h.box.cell (i := 1) rfl
  have H := Lib.hid h
  have H0 := Lib.hid h0
  have HNX := Lib.hid (fun (W : World) (hf : Frm [] w W) (y : Int) => cNext_any (h.frm hf (by simp)) y)
  have HWT := Lib.hid (fun (W : World) (hf : Frm [] w W) (y : Int) => cWait_any (h.frm hf (by simp)) y)
  have HG := Lib.hid hg
  clear hg
  have hne : Nonempty (HW (fun wx => Frm [ab, wb] w wx)) := ⟨⟨w, Frm.refl _ _⟩⟩
  have hz0 : ∀ q : HW (fun wx => Frm [ab, wb] w wx), q.w.cell? ⟨lb, 0, none⟩ = some (.pointer (some ⟨ab, 0, none⟩)) := fun q => (h.box.frm q.h (by simp; have := HN.out; omega)).cell (i := 0) rfl
  have hz1 : ∀ q : HW (fun wx => Frm [ab, wb] w wx), q.w.cell? ⟨lb, 1, none⟩ = some (.int .i64 tail) := fun q => (h.box.frm q.h (by simp; have := HN.out; omega)).cell (i := 1) rfl
  have hy1 : ∀ q : HW (fun wx => Frm [ab, wb] w wx), q.w.cell? ⟨sb, j * 4 + 1, none⟩ = some (.int .i64 (S j 1)) := fun q => (h.row.frm q.h (by simp; have := HN.out; omega)).cell (spC_getT n S hj (by omega))
  have hy2 : ∀ q : HW (fun wx => Frm [ab, wb] w wx), q.w.cell? ⟨sb, j * 4 + 2, none⟩ = some (.int .i64 (S j 2)) := fun q => (h.row.frm q.h (by simp; have := HN.out; omega)).cell (spC_getT n S hj (by omega))
  have hy3 : ∀ q : HW (fun wx => Frm [ab, wb] w wx), q.w.cell? ⟨sb, j * 4 + 3, none⟩ = some (.int .i64 (S j 3)) := fun q => (h.row.frm q.h (by simp; have := HN.out; omega)).cell (spC_getT n S hj (by omega))
  clear h h0 hj
  go_enter Tryz.func204, Tryz.ntmps204
  go_wp2_with fail
  refine held_begin (S := fun wx => Frm [ab, wb] w wx) (by kernel_rfl) ?_
  refine held_row_at (fuel := 1) (is := [0, 1, 2, 3, 4, 5, 6, 7, 8]) (.cons rfl (.cons rfl (.cons rfl (.cons rfl (.cons rfl (.cons rfl (.cons rfl (.cons rfl (.cons rfl .nil))))))))) (by kernel_rfl) (fun _ _ _ _ _ h => h) rfl (by kernel_rfl) (Frm.refl _ _).drew1 ?_
  intro K hK
  repeat (go_big_quiet_step (fail))
  refine wpQuiet_nil (hK _ ?_)
  clear hK K
  refine held_call (fuel := 0) (i := 9) rfl (by kernel_rfl) ?_
  go_wp2_with fail
  refine (Cas_any (H.out.ar.frm (S := []) ((Frm.refl _ _).drew1) (by simp) (by simp)) (tail) ((j : Int) + 1) (0)).mono ?_; rw [HG.out]; rintro e w1 ⟨rfl, hA, hF⟩; have HF1 := Lib.hid (((Frm.refl [ab, wb] w).drew1).trans hF); have H1 := Lib.hid (H.out.ar_ HF1.out hA); have j1 := H1.out.p HJ.out (t := 1) (by omega); have j2 := H1.out.p HJ.out (t := 2) (by omega); have j3 := H1.out.p HJ.out (t := 3) (by omega); have jz := H1.out.row.frozen; clear hA hF
  go_wp2_with fail
  refine onNormal_mk ⟨HF1.out, ?_⟩
  refine held_end (by kernel_rfl) ?_
  clear hne hz0 hz1 hy1 hy2 hy3
  have HB := Lib.hid H1.out
  have HF2 := Lib.hid (HF1.out.mono (S' := [sb, ab, wb]) (by simp))
  have k0 : w1.cell? ⟨sb, j * 4, none⟩ = some (.int .i64 12) := by rw [← H0.out]; exact HB.out.p0 HJ.out
  have k1 := HB.out.p HJ.out (t := 1) (by omega)
  clear H1 HF1 j1 j2 j3 jz
  go_wp2
  go_ret
  exact ⟨rfl, HB.out, HF2.out⟩
set_option maxRecDepth 100000 in
theorem c_12b (h : McAt w lb sb ab wb tail n A S) {j : Nat} (hj : j < n) (h0 : S j 0 = 12) (hg : A.casOk tail ((j : Int) + 1) = false) : Calls Tryz.prog 204 #[.pointer (some ⟨lb, 0, none⟩), .pointer (some ⟨sb, j * 4, none⟩), .int .i64 ((j : Int) + 1)] w fun e w' => e = .returned (.int .i64 13) ∧
    McAt w' lb sb ab wb tail n (A.cas tail ((j : Int) + 1) 0) (S) ∧ Frm [sb, ab, wb] w w' := by
  have HN := Lib.hid h.ne
  have HJ := Lib.hid hj
  have hn32 := h.n32
  have htb := h.tb
  have c0 : w.cell? ⟨sb, j * 4, none⟩ = some (.int .i64 12) := by rw [← h0]; exact h.p0 hj
  have c1 := h.p hj (t := 1) (by omega)
  have c2 := h.p hj (t := 2) (by omega)
  have c3 := h.p hj (t := 3) (by omega)
  have l0 := h.box.cell (i := 0) rfl
  have l1 := h.box.cell (i := 1) rfl
  have H := Lib.hid h
  have H0 := Lib.hid h0
  have HNX := Lib.hid (fun (W : World) (hf : Frm [] w W) (y : Int) => cNext_any (h.frm hf (by simp)) y)
  have HWT := Lib.hid (fun (W : World) (hf : Frm [] w W) (y : Int) => cWait_any (h.frm hf (by simp)) y)
  have HG := Lib.hid hg
  clear hg
  have hne : Nonempty (HW (fun wx => Frm [ab, wb] w wx)) := ⟨⟨w, Frm.refl _ _⟩⟩
  have hz0 : ∀ q : HW (fun wx => Frm [ab, wb] w wx), q.w.cell? ⟨lb, 0, none⟩ = some (.pointer (some ⟨ab, 0, none⟩)) := fun q => (h.box.frm q.h (by simp; have := HN.out; omega)).cell (i := 0) rfl
  have hz1 : ∀ q : HW (fun wx => Frm [ab, wb] w wx), q.w.cell? ⟨lb, 1, none⟩ = some (.int .i64 tail) := fun q => (h.box.frm q.h (by simp; have := HN.out; omega)).cell (i := 1) rfl
  have hy1 : ∀ q : HW (fun wx => Frm [ab, wb] w wx), q.w.cell? ⟨sb, j * 4 + 1, none⟩ = some (.int .i64 (S j 1)) := fun q => (h.row.frm q.h (by simp; have := HN.out; omega)).cell (spC_getT n S hj (by omega))
  have hy2 : ∀ q : HW (fun wx => Frm [ab, wb] w wx), q.w.cell? ⟨sb, j * 4 + 2, none⟩ = some (.int .i64 (S j 2)) := fun q => (h.row.frm q.h (by simp; have := HN.out; omega)).cell (spC_getT n S hj (by omega))
  have hy3 : ∀ q : HW (fun wx => Frm [ab, wb] w wx), q.w.cell? ⟨sb, j * 4 + 3, none⟩ = some (.int .i64 (S j 3)) := fun q => (h.row.frm q.h (by simp; have := HN.out; omega)).cell (spC_getT n S hj (by omega))
  clear h h0 hj
  go_enter Tryz.func204, Tryz.ntmps204
  go_wp2_with fail
  refine held_begin (S := fun wx => Frm [ab, wb] w wx) (by kernel_rfl) ?_
  refine held_row_at (fuel := 1) (is := [0, 1, 2, 3, 4, 5, 6, 7, 8]) (.cons rfl (.cons rfl (.cons rfl (.cons rfl (.cons rfl (.cons rfl (.cons rfl (.cons rfl (.cons rfl .nil))))))))) (by kernel_rfl) (fun _ _ _ _ _ h => h) rfl (by kernel_rfl) (Frm.refl _ _).drew1 ?_
  intro K hK
  repeat (go_big_quiet_step (fail))
  refine wpQuiet_nil (hK _ ?_)
  clear hK K
  refine held_call (fuel := 0) (i := 9) rfl (by kernel_rfl) ?_
  go_wp2_with fail
  refine (Cas_any (H.out.ar.frm (S := []) ((Frm.refl _ _).drew1) (by simp) (by simp)) (tail) ((j : Int) + 1) (0)).mono ?_; rw [HG.out]; rintro e w1 ⟨rfl, hA, hF⟩; have HF1 := Lib.hid (((Frm.refl [ab, wb] w).drew1).trans hF); have H1 := Lib.hid (H.out.ar_ HF1.out hA); have j1 := H1.out.p HJ.out (t := 1) (by omega); have j2 := H1.out.p HJ.out (t := 2) (by omega); have j3 := H1.out.p HJ.out (t := 3) (by omega); have jz := H1.out.row.frozen; clear hA hF
  go_wp2_with fail
  refine onNormal_mk ⟨HF1.out, ?_⟩
  refine held_end (by kernel_rfl) ?_
  clear hne hz0 hz1 hy1 hy2 hy3
  have HB := Lib.hid H1.out
  have HF2 := Lib.hid (HF1.out.mono (S' := [sb, ab, wb]) (by simp))
  have k0 : w1.cell? ⟨sb, j * 4, none⟩ = some (.int .i64 12) := by rw [← H0.out]; exact HB.out.p0 HJ.out
  have k1 := HB.out.p HJ.out (t := 1) (by omega)
  clear H1 HF1 j1 j2 j3 jz
  go_wp2
  go_ret
  exact ⟨rfl, HB.out, HF2.out⟩
set_option maxRecDepth 100000 in
theorem c_14 (h : McAt w lb sb ab wb tail n A S) {j : Nat} (hj : j < n) (h0 : S j 0 = 14) : Calls Tryz.prog 204 #[.pointer (some ⟨lb, 0, none⟩), .pointer (some ⟨sb, j * 4, none⟩), .int .i64 ((j : Int) + 1)] w fun e w' => e = .returned (.int .i64 0) ∧
    McAt w' lb sb ab wb tail n (A.store (cWait tail (S j 1)) 0) (S) ∧ Frm [sb, ab, wb] w w' := by
  have HN := Lib.hid h.ne
  have HJ := Lib.hid hj
  have hn32 := h.n32
  have htb := h.tb
  have c0 : w.cell? ⟨sb, j * 4, none⟩ = some (.int .i64 14) := by rw [← h0]; exact h.p0 hj
  have c1 := h.p hj (t := 1) (by omega)
  have c2 := h.p hj (t := 2) (by omega)
  have c3 := h.p hj (t := 3) (by omega)
  have l0 := h.box.cell (i := 0) rfl
  have l1 := h.box.cell (i := 1) rfl
  have H := Lib.hid h
  have H0 := Lib.hid h0
  have HNX := Lib.hid (fun (W : World) (hf : Frm [] w W) (y : Int) => cNext_any (h.frm hf (by simp)) y)
  have HWT := Lib.hid (fun (W : World) (hf : Frm [] w W) (y : Int) => cWait_any (h.frm hf (by simp)) y)
  have hne : Nonempty (HW (fun wx => Frm [ab, wb] w wx)) := ⟨⟨w, Frm.refl _ _⟩⟩
  have hz0 : ∀ q : HW (fun wx => Frm [ab, wb] w wx), q.w.cell? ⟨lb, 0, none⟩ = some (.pointer (some ⟨ab, 0, none⟩)) := fun q => (h.box.frm q.h (by simp; have := HN.out; omega)).cell (i := 0) rfl
  have hz1 : ∀ q : HW (fun wx => Frm [ab, wb] w wx), q.w.cell? ⟨lb, 1, none⟩ = some (.int .i64 tail) := fun q => (h.box.frm q.h (by simp; have := HN.out; omega)).cell (i := 1) rfl
  have hy1 : ∀ q : HW (fun wx => Frm [ab, wb] w wx), q.w.cell? ⟨sb, j * 4 + 1, none⟩ = some (.int .i64 (S j 1)) := fun q => (h.row.frm q.h (by simp; have := HN.out; omega)).cell (spC_getT n S hj (by omega))
  have hy2 : ∀ q : HW (fun wx => Frm [ab, wb] w wx), q.w.cell? ⟨sb, j * 4 + 2, none⟩ = some (.int .i64 (S j 2)) := fun q => (h.row.frm q.h (by simp; have := HN.out; omega)).cell (spC_getT n S hj (by omega))
  have hy3 : ∀ q : HW (fun wx => Frm [ab, wb] w wx), q.w.cell? ⟨sb, j * 4 + 3, none⟩ = some (.int .i64 (S j 3)) := fun q => (h.row.frm q.h (by simp; have := HN.out; omega)).cell (spC_getT n S hj (by omega))
  clear h h0 hj
  go_enter Tryz.func204, Tryz.ntmps204
  go_wp2_with fail
  refine held_begin (S := fun wx => Frm [ab, wb] w wx) (by kernel_rfl) ?_
  refine held_row_at (fuel := 2) (is := [0, 1, 2, 3, 4, 5, 6, 7, 8]) (.cons rfl (.cons rfl (.cons rfl (.cons rfl (.cons rfl (.cons rfl (.cons rfl (.cons rfl (.cons rfl .nil))))))))) (by kernel_rfl) (fun _ _ _ _ _ h => h) rfl (by kernel_rfl) (Frm.refl _ _).drew1 ?_
  intro K hK
  repeat (go_big_quiet_step (fail))
  refine wpQuiet_nil (hK _ ?_)
  clear hK K
  refine held_call (fuel := 1) (i := 9) rfl (by kernel_rfl) ?_
  go_wp2_with fail
  refine (HWT.out _ ((Frm.refl _ _).drew1) _).mono ?_; rintro e w' ⟨rfl, rfl⟩
  go_wp2_with fail
  refine onNormal_mk ⟨(Frm.refl _ _).drew1, ?_⟩
  refine held_call (fuel := 0) (i := 10) rfl (by kernel_rfl) ?_
  go_wp2_with fail
  refine (Store_any (H.out.ar.frm (S := []) ((Frm.refl _ _).drew1) (by simp) (by simp)) (cWait tail (S j 1)) (0)).mono ?_; rintro e w1 ⟨rfl, hA, hF⟩; have HF1 := Lib.hid (((Frm.refl [ab, wb] w).drew1).trans hF); have H1 := Lib.hid (H.out.ar_ HF1.out hA); have j1 := H1.out.p HJ.out (t := 1) (by omega); have j2 := H1.out.p HJ.out (t := 2) (by omega); have j3 := H1.out.p HJ.out (t := 3) (by omega); have jz := H1.out.row.frozen; clear hA hF
  go_wp2_with fail
  refine onNormal_mk ⟨HF1.out, ?_⟩
  refine held_end (by kernel_rfl) ?_
  clear hne hz0 hz1 hy1 hy2 hy3
  have HB := Lib.hid H1.out
  have HF2 := Lib.hid (HF1.out.mono (S' := [sb, ab, wb]) (by simp))
  have k0 : w1.cell? ⟨sb, j * 4, none⟩ = some (.int .i64 14) := by rw [← H0.out]; exact HB.out.p0 HJ.out
  have k1 := HB.out.p HJ.out (t := 1) (by omega)
  clear H1 HF1 j1 j2 j3 jz
  go_wp2
  go_ret
  exact ⟨rfl, HB.out, HF2.out⟩
end
end Go.Proofs.YteijjhahgabalaaGreat
