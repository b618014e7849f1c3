/- The contracts of package malthus, step by step. (Printed by gen_mal.py.) -/
import Derived.Test.YtacogelejffbhaaBenchNew
import Derived.Test.YtacogelejffbhaaArenaAdd
import Derived.Test.YtacogelejffbhaaArenaCas
import Derived.Test.YtacogelejffbhaaArenaSwap
import Derived.Test.YtacogelejffbhaaSpots
namespace Go.Proofs.Ytacogelejffbhaa
open Go.RowKit

/-- a row of threads that is kept short: the lock in block lb, its spots in sb, its bench in bb, its arena in ab and wb -/
structure MAt (w : World) (lb sb bb ab wb tail first n : Nat) (bud : Int) (A : AR) (B : BK) (d : Int) (S : Nat → Nat → Int) : Prop where
  box : HAt w lb [.pointer (some ⟨ab, 0, none⟩), .int .i64 tail, .int .i64 bud, .pointer (some ⟨bb, 0, none⟩), .int .i64 d, .slice (some ⟨sb, 0, none⟩) n n] 89
  row : HAt w sb (spC n S) 64
  bn : BnAt w bb ab first n B
  ar : ArAt w ab wb A
  ne : lb ≠ sb ∧ lb ≠ bb ∧ lb ≠ ab ∧ lb ≠ wb ∧ sb ≠ bb ∧ sb ≠ ab ∧ sb ≠ wb ∧ bb ≠ ab ∧ bb ≠ wb
  n1 : 1 ≤ n
  n32 : n ≤ 32
  tb : tail ≤ 4096
  b0 : 0 ≤ bud
  b1 : bud ≤ 1000
section
variable {w w' : World} {lb sb bb ab wb tail first n : Nat} {bud : Int} {A A' : AR} {B B' : BK} {d : Int} {S : Nat → Nat → Int}
theorem MAt.frm (h : MAt w lb sb bb ab wb tail first n bud A B d S) {Z : List Nat} (hf : Frm Z w w') (hz : ∀ k ∈ [lb, sb, bb, ab, wb], k ∉ Z) : MAt w' lb sb bb ab wb tail first n bud A B d S :=
  { h with box := h.box.frm hf (hz _ (by simp)), row := h.row.frm hf (hz _ (by simp)), bn := h.bn.frm hf (hz _ (by simp)), ar := h.ar.frm hf (hz _ (by simp)) (hz _ (by simp)) }
theorem MAt.ar_ (h : MAt w lb sb bb ab wb tail first n bud A B d S) (hf : Frm [ab, wb] w w') (hA : ArAt w' ab wb A') : MAt w' lb sb bb ab wb tail first n bud A' B d S :=
  { h with box := h.box.frm hf (by simp; have := h.ne; omega), row := h.row.frm hf (by simp; have := h.ne; omega), bn := h.bn.frm hf (by simp; have := h.ne; omega), ar := hA }
theorem MAt.bn_ (h : MAt w lb sb bb ab wb tail first n bud A B d S) (hf : Frm [bb, ab, wb] w w') (hB : BnAt w' bb ab first n B') (hA : ArAt w' ab wb A') : MAt w' lb sb bb ab wb tail first n bud A' B' d S :=
  { h with box := h.box.frm hf (by simp; have := h.ne; omega), row := h.row.frm hf (by simp; have := h.ne; omega), bn := hB, ar := hA }
theorem MAt.put (h : MAt w lb sb bb ab wb tail first n bud A B d S) (j : Nat) {t : Nat} (ht : t < 4) (v : Int) :
    MAt (w.setCell ⟨sb, j * 4 + t, none⟩ (.int .i64 v)) lb sb bb ab wb tail first n bud A B d (spPut S j t v) := by
  have hr := h.row.set (j * 4 + t) (.int .i64 v)
  rw [spC_put n S ht v] at hr
  have hf : Frm [sb] w (w.setCell ⟨sb, j * 4 + t, none⟩ (.int .i64 v)) := (Frm.refl _ _).set _ _ (.inl (by simp))
  have hn := h.ne
  exact { h with box := h.box.frm hf (by simp; omega), row := hr, bn := h.bn.frm hf (by simp; omega), ar := h.ar.frm hf (by simp; omega) (by simp; omega) }
theorem MAt.setD (h : MAt w lb sb bb ab wb tail first n bud A B d S) (v : Int) : MAt (w.setCell ⟨lb, 4, none⟩ (.int .i64 v)) lb sb bb ab wb tail first n bud A B v S := by
  have hf : Frm [lb] w (w.setCell ⟨lb, 4, none⟩ (.int .i64 v)) := (Frm.refl _ _).set _ _ (.inl (by simp))
  have hn := h.ne
  exact { h with box := h.box.set 4 (.int .i64 v), row := h.row.frm hf (by simp; omega), bn := h.bn.frm hf (by simp; omega), ar := h.ar.frm hf (by simp; omega) (by simp; omega) }
theorem MAt.p (h : MAt w lb sb bb ab wb tail first n bud A B d S) {j : Nat} (hj : j < n) {t : Nat} (ht : t < 4) : w.cell? ⟨sb, j * 4 + t, none⟩ = some (.int .i64 (S j t)) := h.row.cell (spC_get n S hj ht)
theorem MAt.p0 (h : MAt w lb sb bb ab wb tail first n bud A B d S) {j : Nat} (hj : j < n) : w.cell? ⟨sb, j * 4, none⟩ = some (.int .i64 (S j 0)) := h.row.cell (spC_get n S (t := 0) hj (by omega))

/-- the word of who stands behind a thread -/
def mNext (tail : Nat) (y : Int) : Int := wrap64 ((tail : Int) + wrap64 (2 * y))
/-- the word that a thread waits for -/
def mWait (tail : Nat) (y : Int) : Int := wrap64 (wrap64 ((tail : Int) + wrap64 (2 * y)) + 1)
theorem mNext_any (h : MAt w lb sb bb ab wb tail first n bud A B d S) (y : Int) : Calls Try.prog 64 #[.pointer (some ⟨lb, 0, none⟩), .int .i64 y] w fun e w' => e = .returned (.int .i64 (mNext tail y)) ∧ w = w' := by
  have c1 := h.box.cell (i := 1) rfl
  have htb := h.tb
  clear h
  unfold mNext
  go_enter Try.func64, Try.ntmps64
  go_wp2
  go_ret
  exact ⟨rfl, rfl⟩
theorem mWait_any (h : MAt w lb sb bb ab wb tail first n bud A B d S) (y : Int) : Calls Try.prog 65 #[.pointer (some ⟨lb, 0, none⟩), .int .i64 y] w fun e w' => e = .returned (.int .i64 (mWait tail y)) ∧ w = w' := by
  have c1 := h.box.cell (i := 1) rfl
  have htb := h.tb
  clear h
  unfold mWait
  go_enter Try.func65, Try.ntmps65
  go_wp2
  go_ret
  exact ⟨rfl, rfl⟩
set_option maxRecDepth 100000 in
theorem m_in1 (h : MAt w lb sb bb ab wb tail first n bud A B d S) {j : Nat} (hj : j < n) (h0 : S j 0 = 1) : Calls Try.prog 50 #[.pointer (some ⟨lb, 0, none⟩), .pointer (some ⟨sb, j * 4, none⟩), .int .i64 ((j : Int) + 1)] w fun e w' => e = .returned (.int .i64 2) ∧
    MAt w' lb sb bb ab wb tail first n bud (A.store (mNext tail ((j : Int) + 1)) 0) (B) (d) (S) ∧ Frm [lb, sb, bb, ab, wb] w w' := by
  have HN := Lib.hid h.ne
  have HJ := Lib.hid hj
  have hn32 := h.n32
  have htb := h.tb
  have c0 : w.cell? ⟨sb, j * 4, none⟩ = some (.int .i64 1) := by rw [← h0]; exact h.p0 hj
  have c1 := h.p hj (t := 1) (by omega)
  have c2 := h.p hj (t := 2) (by omega)
  have c3 := h.p hj (t := 3) (by omega)
  have l0 := h.box.cell (i := 0) rfl
  have l1 := h.box.cell (i := 1) rfl
  have l2 := h.box.cell (i := 2) rfl
  have l3 := h.box.cell (i := 3) rfl
  have H := Lib.hid h
  have H0 := Lib.hid h0
  have HNX := Lib.hid (fun (W : World) (hf : Frm [] w W) (y : Int) => mNext_any (h.frm hf (by simp)) y)
  have HWT := Lib.hid (fun (W : World) (hf : Frm [] w W) (y : Int) => mWait_any (h.frm hf (by simp)) y)
  have hne : Nonempty (HW (fun wx => Frm [ab, wb] w wx)) := ⟨⟨w, Frm.refl _ _⟩⟩
  have hz0 : ∀ q : HW (fun wx => Frm [ab, wb] w wx), q.w.cell? ⟨lb, 0, none⟩ = some (.pointer (some ⟨ab, 0, none⟩)) := fun q => (h.box.frm q.h (by simp; have := HN.out; omega)).cell (i := 0) rfl
  have hz1 : ∀ q : HW (fun wx => Frm [ab, wb] w wx), q.w.cell? ⟨lb, 1, none⟩ = some (.int .i64 tail) := fun q => (h.box.frm q.h (by simp; have := HN.out; omega)).cell (i := 1) rfl
  have hz2 : ∀ q : HW (fun wx => Frm [ab, wb] w wx), q.w.cell? ⟨lb, 2, none⟩ = some (.int .i64 bud) := fun q => (h.box.frm q.h (by simp; have := HN.out; omega)).cell (i := 2) rfl
  have hz3 : ∀ q : HW (fun wx => Frm [ab, wb] w wx), q.w.cell? ⟨lb, 3, none⟩ = some (.pointer (some ⟨bb, 0, none⟩)) := fun q => (h.box.frm q.h (by simp; have := HN.out; omega)).cell (i := 3) rfl
  have hz4 : ∀ q : HW (fun wx => Frm [ab, wb] w wx), q.w.cell? ⟨lb, 4, none⟩ = some (.int .i64 d) := fun q => (h.box.frm q.h (by simp; have := HN.out; omega)).cell (i := 4) rfl
  have hy1 : ∀ q : HW (fun wx => Frm [ab, wb] w wx), q.w.cell? ⟨sb, j * 4 + 1, none⟩ = some (.int .i64 (S j 1)) := fun q => (h.row.frm q.h (by simp; have := HN.out; omega)).cell (spC_get n S hj (by omega))
  have hy2 : ∀ q : HW (fun wx => Frm [ab, wb] w wx), q.w.cell? ⟨sb, j * 4 + 2, none⟩ = some (.int .i64 (S j 2)) := fun q => (h.row.frm q.h (by simp; have := HN.out; omega)).cell (spC_get n S hj (by omega))
  have hy3 : ∀ q : HW (fun wx => Frm [ab, wb] w wx), q.w.cell? ⟨sb, j * 4 + 3, none⟩ = some (.int .i64 (S j 3)) := fun q => (h.row.frm q.h (by simp; have := HN.out; omega)).cell (spC_get n S hj (by omega))
  clear h h0 hj
  go_enter Try.func50, Try.ntmps50
  go_wp2_with fail
  refine held_begin (S := fun wx => Frm [ab, wb] w wx) (by kernel_rfl) ?_
  refine held_row_at (fuel := 2) (is := [0, 1, 2, 3, 4, 5]) (.cons rfl (.cons rfl (.cons rfl (.cons rfl (.cons rfl (.cons rfl .nil)))))) (by kernel_rfl) (fun _ _ _ _ _ h => h) rfl (by kernel_rfl) (Frm.refl _ _).drew1 ?_
  intro K hK
  repeat (go_big_quiet_step (fail))
  refine wpQuiet_nil (hK _ ?_)
  clear hK K
  refine held_call (fuel := 1) (i := 6) rfl (by kernel_rfl) ?_
  go_wp2_with fail
  refine (HNX.out _ ((Frm.refl _ _).drew1) _).mono ?_; rintro e w' ⟨rfl, rfl⟩
  go_wp2_with fail
  refine onNormal_mk ⟨(Frm.refl _ _).drew1, ?_⟩
  refine held_call (fuel := 0) (i := 7) rfl (by kernel_rfl) ?_
  go_wp2_with fail
  refine (Store_any (H.out.ar.frm (S := []) ((Frm.refl _ _).drew1) (by simp) (by simp)) (mNext tail ((j : Int) + 1)) (0)).mono ?_; rintro e w1 ⟨rfl, hA, hF⟩; have HF1 := Lib.hid (((Frm.refl [ab, wb] w).drew1).trans hF); have H1 := Lib.hid (H.out.ar_ HF1.out hA); have j1 := H1.out.p HJ.out (t := 1) (by omega); have j2 := H1.out.p HJ.out (t := 2) (by omega); have j3 := H1.out.p HJ.out (t := 3) (by omega); have jd := H1.out.box.cell (i := 4) rfl; have jz := H1.out.row.frozen; have jy := H1.out.box.frozen; clear hA hF
  go_wp2_with fail
  refine onNormal_mk ⟨HF1.out, ?_⟩
  refine held_end (by kernel_rfl) ?_
  clear hne hz0 hz1 hz2 hz3 hz4 hy1 hy2 hy3
  have HB := Lib.hid H1.out
  have HF2 := Lib.hid (HF1.out.mono (S' := [lb, sb, bb, ab, wb]) (by simp))
  have k0 : w1.cell? ⟨sb, j * 4, none⟩ = some (.int .i64 1) := by rw [← H0.out]; exact HB.out.p0 HJ.out
  have k1 := HB.out.p HJ.out (t := 1) (by omega)
  clear H1 HF1 j1 j2 j3 jd jz jy
  go_wp2
  go_ret
  exact ⟨rfl, HB.out, HF2.out⟩
set_option maxRecDepth 100000 in
theorem m_in2 (h : MAt w lb sb bb ab wb tail first n bud A B d S) {j : Nat} (hj : j < n) (h0 : S j 0 = 2) : Calls Try.prog 50 #[.pointer (some ⟨lb, 0, none⟩), .pointer (some ⟨sb, j * 4, none⟩), .int .i64 ((j : Int) + 1)] w fun e w' => e = .returned (.int .i64 3) ∧
    MAt w' lb sb bb ab wb tail first n bud (A.store (mWait tail ((j : Int) + 1)) 1) (B) (d) (S) ∧ Frm [lb, sb, bb, ab, wb] w w' := by
  have HN := Lib.hid h.ne
  have HJ := Lib.hid hj
  have hn32 := h.n32
  have htb := h.tb
  have c0 : w.cell? ⟨sb, j * 4, none⟩ = some (.int .i64 2) := by rw [← h0]; exact h.p0 hj
  have c1 := h.p hj (t := 1) (by omega)
  have c2 := h.p hj (t := 2) (by omega)
  have c3 := h.p hj (t := 3) (by omega)
  have l0 := h.box.cell (i := 0) rfl
  have l1 := h.box.cell (i := 1) rfl
  have l2 := h.box.cell (i := 2) rfl
  have l3 := h.box.cell (i := 3) rfl
  have H := Lib.hid h
  have H0 := Lib.hid h0
  have HNX := Lib.hid (fun (W : World) (hf : Frm [] w W) (y : Int) => mNext_any (h.frm hf (by simp)) y)
  have HWT := Lib.hid (fun (W : World) (hf : Frm [] w W) (y : Int) => mWait_any (h.frm hf (by simp)) y)
  have hne : Nonempty (HW (fun wx => Frm [ab, wb] w wx)) := ⟨⟨w, Frm.refl _ _⟩⟩
  have hz0 : ∀ q : HW (fun wx => Frm [ab, wb] w wx), q.w.cell? ⟨lb, 0, none⟩ = some (.pointer (some ⟨ab, 0, none⟩)) := fun q => (h.box.frm q.h (by simp; have := HN.out; omega)).cell (i := 0) rfl
  have hz1 : ∀ q : HW (fun wx => Frm [ab, wb] w wx), q.w.cell? ⟨lb, 1, none⟩ = some (.int .i64 tail) := fun q => (h.box.frm q.h (by simp; have := HN.out; omega)).cell (i := 1) rfl
  have hz2 : ∀ q : HW (fun wx => Frm [ab, wb] w wx), q.w.cell? ⟨lb, 2, none⟩ = some (.int .i64 bud) := fun q => (h.box.frm q.h (by simp; have := HN.out; omega)).cell (i := 2) rfl
  have hz3 : ∀ q : HW (fun wx => Frm [ab, wb] w wx), q.w.cell? ⟨lb, 3, none⟩ = some (.pointer (some ⟨bb, 0, none⟩)) := fun q => (h.box.frm q.h (by simp; have := HN.out; omega)).cell (i := 3) rfl
  have hz4 : ∀ q : HW (fun wx => Frm [ab, wb] w wx), q.w.cell? ⟨lb, 4, none⟩ = some (.int .i64 d) := fun q => (h.box.frm q.h (by simp; have := HN.out; omega)).cell (i := 4) rfl
  have hy1 : ∀ q : HW (fun wx => Frm [ab, wb] w wx), q.w.cell? ⟨sb, j * 4 + 1, none⟩ = some (.int .i64 (S j 1)) := fun q => (h.row.frm q.h (by simp; have := HN.out; omega)).cell (spC_get n S hj (by omega))
  have hy2 : ∀ q : HW (fun wx => Frm [ab, wb] w wx), q.w.cell? ⟨sb, j * 4 + 2, none⟩ = some (.int .i64 (S j 2)) := fun q => (h.row.frm q.h (by simp; have := HN.out; omega)).cell (spC_get n S hj (by omega))
  have hy3 : ∀ q : HW (fun wx => Frm [ab, wb] w wx), q.w.cell? ⟨sb, j * 4 + 3, none⟩ = some (.int .i64 (S j 3)) := fun q => (h.row.frm q.h (by simp; have := HN.out; omega)).cell (spC_get n S hj (by omega))
  clear h h0 hj
  go_enter Try.func50, Try.ntmps50
  go_wp2_with fail
  refine held_begin (S := fun wx => Frm [ab, wb] w wx) (by kernel_rfl) ?_
  refine held_row_at (fuel := 2) (is := [0, 1, 2, 3, 4, 5]) (.cons rfl (.cons rfl (.cons rfl (.cons rfl (.cons rfl (.cons rfl .nil)))))) (by kernel_rfl) (fun _ _ _ _ _ h => h) rfl (by kernel_rfl) (Frm.refl _ _).drew1 ?_
  intro K hK
  repeat (go_big_quiet_step (fail))
  refine wpQuiet_nil (hK _ ?_)
  clear hK K
  refine held_call (fuel := 1) (i := 6) rfl (by kernel_rfl) ?_
  go_wp2_with fail
  refine (HWT.out _ ((Frm.refl _ _).drew1) _).mono ?_; rintro e w' ⟨rfl, rfl⟩
  go_wp2_with fail
  refine onNormal_mk ⟨(Frm.refl _ _).drew1, ?_⟩
  refine held_call (fuel := 0) (i := 7) rfl (by kernel_rfl) ?_
  go_wp2_with fail
  refine (Store_any (H.out.ar.frm (S := []) ((Frm.refl _ _).drew1) (by simp) (by simp)) (mWait tail ((j : Int) + 1)) (1)).mono ?_; rintro e w1 ⟨rfl, hA, hF⟩; have HF1 := Lib.hid (((Frm.refl [ab, wb] w).drew1).trans hF); have H1 := Lib.hid (H.out.ar_ HF1.out hA); have j1 := H1.out.p HJ.out (t := 1) (by omega); have j2 := H1.out.p HJ.out (t := 2) (by omega); have j3 := H1.out.p HJ.out (t := 3) (by omega); have jd := H1.out.box.cell (i := 4) rfl; have jz := H1.out.row.frozen; have jy := H1.out.box.frozen; clear hA hF
  go_wp2_with fail
  refine onNormal_mk ⟨HF1.out, ?_⟩
  refine held_end (by kernel_rfl) ?_
  clear hne hz0 hz1 hz2 hz3 hz4 hy1 hy2 hy3
  have HB := Lib.hid H1.out
  have HF2 := Lib.hid (HF1.out.mono (S' := [lb, sb, bb, ab, wb]) (by simp))
  have k0 : w1.cell? ⟨sb, j * 4, none⟩ = some (.int .i64 2) := by rw [← H0.out]; exact HB.out.p0 HJ.out
  have k1 := HB.out.p HJ.out (t := 1) (by omega)
  clear H1 HF1 j1 j2 j3 jd jz jy
  go_wp2
  go_ret
  exact ⟨rfl, HB.out, HF2.out⟩
set_option maxRecDepth 100000 in
theorem m_in3a (h : MAt w lb sb bb ab wb tail first n bud A B d S) {j : Nat} (hj : j < n) (h0 : S j 0 = 3) (hg : A.get tail = 0) : Calls Try.prog 50 #[.pointer (some ⟨lb, 0, none⟩), .pointer (some ⟨sb, j * 4, none⟩), .int .i64 ((j : Int) + 1)] w fun e w' => e = .returned (.int .i64 10) ∧
    MAt w' lb sb bb ab wb tail first n bud (A.swap tail ((j : Int) + 1)) (B) (d) (spPut S j 1 (A.get tail)) ∧ Frm [lb, sb, bb, ab, wb] w w' := by
  have HN := Lib.hid h.ne
  have HJ := Lib.hid hj
  have hn32 := h.n32
  have htb := h.tb
  have c0 : w.cell? ⟨sb, j * 4, none⟩ = some (.int .i64 3) := by rw [← h0]; exact h.p0 hj
  have c1 := h.p hj (t := 1) (by omega)
  have c2 := h.p hj (t := 2) (by omega)
  have c3 := h.p hj (t := 3) (by omega)
  have l0 := h.box.cell (i := 0) rfl
  have l1 := h.box.cell (i := 1) rfl
  have l2 := h.box.cell (i := 2) rfl
  have l3 := h.box.cell (i := 3) rfl
  have H := Lib.hid h
  have H0 := Lib.hid h0
  have HNX := Lib.hid (fun (W : World) (hf : Frm [] w W) (y : Int) => mNext_any (h.frm hf (by simp)) y)
  have HWT := Lib.hid (fun (W : World) (hf : Frm [] w W) (y : Int) => mWait_any (h.frm hf (by simp)) y)
  have HG := Lib.hid hg
  rw [hg]
  clear hg
  have hne : Nonempty (HW (fun wx => Frm [sb, ab, wb] w wx)) := ⟨⟨w, Frm.refl _ _⟩⟩
  have hz0 : ∀ q : HW (fun wx => Frm [sb, ab, wb] w wx), q.w.cell? ⟨lb, 0, none⟩ = some (.pointer (some ⟨ab, 0, none⟩)) := fun q => (h.box.frm q.h (by simp; have := HN.out; omega)).cell (i := 0) rfl
  have hz1 : ∀ q : HW (fun wx => Frm [sb, ab, wb] w wx), q.w.cell? ⟨lb, 1, none⟩ = some (.int .i64 tail) := fun q => (h.box.frm q.h (by simp; have := HN.out; omega)).cell (i := 1) rfl
  have hz2 : ∀ q : HW (fun wx => Frm [sb, ab, wb] w wx), q.w.cell? ⟨lb, 2, none⟩ = some (.int .i64 bud) := fun q => (h.box.frm q.h (by simp; have := HN.out; omega)).cell (i := 2) rfl
  have hz3 : ∀ q : HW (fun wx => Frm [sb, ab, wb] w wx), q.w.cell? ⟨lb, 3, none⟩ = some (.pointer (some ⟨bb, 0, none⟩)) := fun q => (h.box.frm q.h (by simp; have := HN.out; omega)).cell (i := 3) rfl
  have hz4 : ∀ q : HW (fun wx => Frm [sb, ab, wb] w wx), q.w.cell? ⟨lb, 4, none⟩ = some (.int .i64 d) := fun q => (h.box.frm q.h (by simp; have := HN.out; omega)).cell (i := 4) rfl
  clear h h0 hj
  go_enter Try.func50, Try.ntmps50
  go_wp2_with fail
  refine held_begin (S := fun wx => Frm [sb, ab, wb] w wx) (by kernel_rfl) ?_
  refine held_row_at (fuel := 4) (is := [0, 1, 2, 3, 4, 5, 6, 7, 8, 9]) (.cons rfl (.cons rfl (.cons rfl (.cons rfl (.cons rfl (.cons rfl (.cons rfl (.cons rfl (.cons rfl (.cons rfl .nil)))))))))) (by kernel_rfl) (fun _ _ _ _ _ h => h) rfl (by kernel_rfl) (Frm.refl _ _).drew1 ?_
  intro K hK
  repeat (go_big_quiet_step (fail))
  refine wpQuiet_nil (hK _ ?_)
  clear hK K
  refine held_call (fuel := 3) (i := 10) rfl (by kernel_rfl) ?_
  go_wp2_with fail
  refine (Swap_any (H.out.ar.frm (S := []) ((Frm.refl _ _).drew1) (by simp) (by simp)) (tail) ((j : Int) + 1)).mono ?_; rw [HG.out]; rintro e w1 ⟨rfl, hA, hF⟩; have HF1 := Lib.hid (((Frm.refl [ab, wb] w).drew1).trans hF); have H1 := Lib.hid (H.out.ar_ HF1.out hA); have j1 := H1.out.p HJ.out (t := 1) (by omega); have j2 := H1.out.p HJ.out (t := 2) (by omega); have j3 := H1.out.p HJ.out (t := 3) (by omega); have jd := H1.out.box.cell (i := 4) rfl; have jz := H1.out.row.frozen; have jy := H1.out.box.frozen; clear hA hF
  go_wp2_with fail
  refine onNormal_mk ⟨(HF1.out.mono (S' := [sb, ab, wb]) (by simp)), ?_⟩
  refine held_row_at (fuel := 1) (is := [11, 12]) (.cons rfl (.cons rfl .nil)) (by kernel_rfl) (fun _ _ _ _ _ h => h) rfl (by kernel_rfl) (HF1.out.mono (S' := [sb, ab, wb]) (by simp)) ?_
  intro K hK
  repeat (go_big_quiet_step (fail))
  refine wpQuiet_nil (hK _ ?_)
  clear hK K
  refine held_call (fuel := 0) (i := 13) rfl (by kernel_rfl) ?_
  go_wp2_with fail
  refine onNormal_mk ⟨((HF1.out.mono (S' := [sb, ab, wb]) (by simp)).set ⟨sb, j * 4 + 1, none⟩ (.int .i64 0) (.inl (by simp))), ?_⟩
  refine held_end (by kernel_rfl) ?_
  clear hne hz0 hz1 hz2 hz3 hz4
  have HB := Lib.hid (H1.out.put j (t := 1) (by omega) 0)
  have HF2 := Lib.hid ((HF1.out.mono (S' := [lb, sb, bb, ab, wb]) (by simp)).set ⟨sb, j * 4 + 1, none⟩ (.int .i64 0) (.inl (by simp)))
  clear H1 HF1 j1 j2 j3 jd jz jy
  generalize (w1.setCell ⟨sb, j * 4 + 1, none⟩ (.int .i64 0)) = W2 at *
  have k0 : W2.cell? ⟨sb, j * 4, none⟩ = some (.int .i64 3) := by rw [← H0.out]; exact (HB.out.p0 HJ.out).trans (by unfold spPut; simp)
  have kt : W2.cell? ⟨sb, j * 4 + 1, none⟩ = some (.int .i64 0) := (HB.out.p HJ.out (t := 1) (by omega)).trans (by unfold spPut; simp)
  go_wp2
  go_ret
  exact ⟨rfl, HB.out, HF2.out⟩
set_option maxRecDepth 100000 in
theorem m_in3b (h : MAt w lb sb bb ab wb tail first n bud A B d S) {j : Nat} (hj : j < n) (h0 : S j 0 = 3) (hg : ¬ A.get tail = 0) : Calls Try.prog 50 #[.pointer (some ⟨lb, 0, none⟩), .pointer (some ⟨sb, j * 4, none⟩), .int .i64 ((j : Int) + 1)] w fun e w' => e = .returned (.int .i64 4) ∧
    MAt w' lb sb bb ab wb tail first n bud (A.swap tail ((j : Int) + 1)) (B) (d) (spPut S j 1 (A.get tail)) ∧ Frm [lb, sb, bb, ab, wb] w w' := by
  have HN := Lib.hid h.ne
  have HJ := Lib.hid hj
  have hn32 := h.n32
  have htb := h.tb
  have c0 : w.cell? ⟨sb, j * 4, none⟩ = some (.int .i64 3) := by rw [← h0]; exact h.p0 hj
  have c1 := h.p hj (t := 1) (by omega)
  have c2 := h.p hj (t := 2) (by omega)
  have c3 := h.p hj (t := 3) (by omega)
  have l0 := h.box.cell (i := 0) rfl
  have l1 := h.box.cell (i := 1) rfl
  have l2 := h.box.cell (i := 2) rfl
  have l3 := h.box.cell (i := 3) rfl
  have H := Lib.hid h
  have H0 := Lib.hid h0
  have HNX := Lib.hid (fun (W : World) (hf : Frm [] w W) (y : Int) => mNext_any (h.frm hf (by simp)) y)
  have HWT := Lib.hid (fun (W : World) (hf : Frm [] w W) (y : Int) => mWait_any (h.frm hf (by simp)) y)
  generalize hv : A.get (tail : Int) = v at hg ⊢
  have HG := Lib.hid hv
  clear hv
  have e0 : (v == 0) = false := by simpa using hg
  have e1 : (v != 0) = true := by simpa using hg
  clear hg
  have hne : Nonempty (HW (fun wx => Frm [sb, ab, wb] w wx)) := ⟨⟨w, Frm.refl _ _⟩⟩
  have hz0 : ∀ q : HW (fun wx => Frm [sb, ab, wb] w wx), q.w.cell? ⟨lb, 0, none⟩ = some (.pointer (some ⟨ab, 0, none⟩)) := fun q => (h.box.frm q.h (by simp; have := HN.out; omega)).cell (i := 0) rfl
  have hz1 : ∀ q : HW (fun wx => Frm [sb, ab, wb] w wx), q.w.cell? ⟨lb, 1, none⟩ = some (.int .i64 tail) := fun q => (h.box.frm q.h (by simp; have := HN.out; omega)).cell (i := 1) rfl
  have hz2 : ∀ q : HW (fun wx => Frm [sb, ab, wb] w wx), q.w.cell? ⟨lb, 2, none⟩ = some (.int .i64 bud) := fun q => (h.box.frm q.h (by simp; have := HN.out; omega)).cell (i := 2) rfl
  have hz3 : ∀ q : HW (fun wx => Frm [sb, ab, wb] w wx), q.w.cell? ⟨lb, 3, none⟩ = some (.pointer (some ⟨bb, 0, none⟩)) := fun q => (h.box.frm q.h (by simp; have := HN.out; omega)).cell (i := 3) rfl
  have hz4 : ∀ q : HW (fun wx => Frm [sb, ab, wb] w wx), q.w.cell? ⟨lb, 4, none⟩ = some (.int .i64 d) := fun q => (h.box.frm q.h (by simp; have := HN.out; omega)).cell (i := 4) rfl
  clear h h0 hj
  go_enter Try.func50, Try.ntmps50
  go_wp2_with fail
  refine held_begin (S := fun wx => Frm [sb, ab, wb] w wx) (by kernel_rfl) ?_
  refine held_row_at (fuel := 4) (is := [0, 1, 2, 3, 4, 5, 6, 7, 8, 9]) (.cons rfl (.cons rfl (.cons rfl (.cons rfl (.cons rfl (.cons rfl (.cons rfl (.cons rfl (.cons rfl (.cons rfl .nil)))))))))) (by kernel_rfl) (fun _ _ _ _ _ h => h) rfl (by kernel_rfl) (Frm.refl _ _).drew1 ?_
  intro K hK
  repeat (go_big_quiet_step (fail))
  refine wpQuiet_nil (hK _ ?_)
  clear hK K
  refine held_call (fuel := 3) (i := 10) rfl (by kernel_rfl) ?_
  go_wp2_with fail
  refine (Swap_any (H.out.ar.frm (S := []) ((Frm.refl _ _).drew1) (by simp) (by simp)) (tail) ((j : Int) + 1)).mono ?_; rw [HG.out]; rintro e w1 ⟨rfl, hA, hF⟩; have HF1 := Lib.hid (((Frm.refl [ab, wb] w).drew1).trans hF); have H1 := Lib.hid (H.out.ar_ HF1.out hA); have j1 := H1.out.p HJ.out (t := 1) (by omega); have j2 := H1.out.p HJ.out (t := 2) (by omega); have j3 := H1.out.p HJ.out (t := 3) (by omega); have jd := H1.out.box.cell (i := 4) rfl; have jz := H1.out.row.frozen; have jy := H1.out.box.frozen; clear hA hF
  go_wp2_with fail
  refine onNormal_mk ⟨(HF1.out.mono (S' := [sb, ab, wb]) (by simp)), ?_⟩
  refine held_row_at (fuel := 1) (is := [11, 12]) (.cons rfl (.cons rfl .nil)) (by kernel_rfl) (fun _ _ _ _ _ h => h) rfl (by kernel_rfl) (HF1.out.mono (S' := [sb, ab, wb]) (by simp)) ?_
  intro K hK
  repeat (go_big_quiet_step (fail))
  refine wpQuiet_nil (hK _ ?_)
  clear hK K
  refine held_call (fuel := 0) (i := 13) rfl (by kernel_rfl) ?_
  go_wp2_with fail
  refine onNormal_mk ⟨((HF1.out.mono (S' := [sb, ab, wb]) (by simp)).set ⟨sb, j * 4 + 1, none⟩ (.int .i64 v) (.inl (by simp))), ?_⟩
  refine held_end (by kernel_rfl) ?_
  clear hne hz0 hz1 hz2 hz3 hz4
  have HB := Lib.hid (H1.out.put j (t := 1) (by omega) v)
  have HF2 := Lib.hid ((HF1.out.mono (S' := [lb, sb, bb, ab, wb]) (by simp)).set ⟨sb, j * 4 + 1, none⟩ (.int .i64 v) (.inl (by simp)))
  clear H1 HF1 j1 j2 j3 jd jz jy
  generalize (w1.setCell ⟨sb, j * 4 + 1, none⟩ (.int .i64 v)) = W2 at *
  have k0 : W2.cell? ⟨sb, j * 4, none⟩ = some (.int .i64 3) := by rw [← H0.out]; exact (HB.out.p0 HJ.out).trans (by unfold spPut; simp)
  have kt : W2.cell? ⟨sb, j * 4 + 1, none⟩ = some (.int .i64 v) := (HB.out.p HJ.out (t := 1) (by omega)).trans (by unfold spPut; simp)
  go_wp2
  go_ret
  exact ⟨rfl, HB.out, HF2.out⟩
set_option maxRecDepth 100000 in
theorem m_in4 (h : MAt w lb sb bb ab wb tail first n bud A B d S) {j : Nat} (hj : j < n) (h0 : S j 0 = 4) : Calls Try.prog 50 #[.pointer (some ⟨lb, 0, none⟩), .pointer (some ⟨sb, j * 4, none⟩), .int .i64 ((j : Int) + 1)] w fun e w' => e = .returned (.int .i64 5) ∧
    MAt w' lb sb bb ab wb tail first n bud (A.store (mNext tail (S j 1)) ((j : Int) + 1)) (B) (d) (S) ∧ Frm [lb, sb, bb, ab, wb] w w' := by
  have HN := Lib.hid h.ne
  have HJ := Lib.hid hj
  have hn32 := h.n32
  have htb := h.tb
  have c0 : w.cell? ⟨sb, j * 4, none⟩ = some (.int .i64 4) := by rw [← h0]; exact h.p0 hj
  have c1 := h.p hj (t := 1) (by omega)
  have c2 := h.p hj (t := 2) (by omega)
  have c3 := h.p hj (t := 3) (by omega)
  have l0 := h.box.cell (i := 0) rfl
  have l1 := h.box.cell (i := 1) rfl
  have l2 := h.box.cell (i := 2) rfl
  have l3 := h.box.cell (i := 3) rfl
  have H := Lib.hid h
  have H0 := Lib.hid h0
  have HNX := Lib.hid (fun (W : World) (hf : Frm [] w W) (y : Int) => mNext_any (h.frm hf (by simp)) y)
  have HWT := Lib.hid (fun (W : World) (hf : Frm [] w W) (y : Int) => mWait_any (h.frm hf (by simp)) y)
  have hne : Nonempty (HW (fun wx => Frm [ab, wb] w wx)) := ⟨⟨w, Frm.refl _ _⟩⟩
  have hz0 : ∀ q : HW (fun wx => Frm [ab, wb] w wx), q.w.cell? ⟨lb, 0, none⟩ = some (.pointer (some ⟨ab, 0, none⟩)) := fun q => (h.box.frm q.h (by simp; have := HN.out; omega)).cell (i := 0) rfl
  have hz1 : ∀ q : HW (fun wx => Frm [ab, wb] w wx), q.w.cell? ⟨lb, 1, none⟩ = some (.int .i64 tail) := fun q => (h.box.frm q.h (by simp; have := HN.out; omega)).cell (i := 1) rfl
  have hz2 : ∀ q : HW (fun wx => Frm [ab, wb] w wx), q.w.cell? ⟨lb, 2, none⟩ = some (.int .i64 bud) := fun q => (h.box.frm q.h (by simp; have := HN.out; omega)).cell (i := 2) rfl
  have hz3 : ∀ q : HW (fun wx => Frm [ab, wb] w wx), q.w.cell? ⟨lb, 3, none⟩ = some (.pointer (some ⟨bb, 0, none⟩)) := fun q => (h.box.frm q.h (by simp; have := HN.out; omega)).cell (i := 3) rfl
  have hz4 : ∀ q : HW (fun wx => Frm [ab, wb] w wx), q.w.cell? ⟨lb, 4, none⟩ = some (.int .i64 d) := fun q => (h.box.frm q.h (by simp; have := HN.out; omega)).cell (i := 4) rfl
  have hy1 : ∀ q : HW (fun wx => Frm [ab, wb] w wx), q.w.cell? ⟨sb, j * 4 + 1, none⟩ = some (.int .i64 (S j 1)) := fun q => (h.row.frm q.h (by simp; have := HN.out; omega)).cell (spC_get n S hj (by omega))
  have hy2 : ∀ q : HW (fun wx => Frm [ab, wb] w wx), q.w.cell? ⟨sb, j * 4 + 2, none⟩ = some (.int .i64 (S j 2)) := fun q => (h.row.frm q.h (by simp; have := HN.out; omega)).cell (spC_get n S hj (by omega))
  have hy3 : ∀ q : HW (fun wx => Frm [ab, wb] w wx), q.w.cell? ⟨sb, j * 4 + 3, none⟩ = some (.int .i64 (S j 3)) := fun q => (h.row.frm q.h (by simp; have := HN.out; omega)).cell (spC_get n S hj (by omega))
  clear h h0 hj
  go_enter Try.func50, Try.ntmps50
  go_wp2_with fail
  refine held_begin (S := fun wx => Frm [ab, wb] w wx) (by kernel_rfl) ?_
  refine held_row_at (fuel := 2) (is := [0, 1, 2, 3, 4, 5, 6, 7, 8, 10]) (.cons rfl (.cons rfl (.cons rfl (.cons rfl (.cons rfl (.cons rfl (.cons rfl (.cons rfl (.cons rfl (.cons rfl .nil)))))))))) (by kernel_rfl) (fun _ _ _ _ _ h => h) rfl (by kernel_rfl) (Frm.refl _ _).drew1 ?_
  intro K hK
  repeat (go_big_quiet_step (fail))
  refine wpQuiet_nil (hK _ ?_)
  clear hK K
  refine held_call (fuel := 1) (i := 9) rfl (by kernel_rfl) ?_
  go_wp2_with fail
  refine (HNX.out _ ((Frm.refl _ _).drew1) _).mono ?_; rintro e w' ⟨rfl, rfl⟩
  go_wp2_with fail
  refine onNormal_mk ⟨(Frm.refl _ _).drew1, ?_⟩
  refine held_call (fuel := 0) (i := 11) rfl (by kernel_rfl) ?_
  go_wp2_with fail
  refine (Store_any (H.out.ar.frm (S := []) ((Frm.refl _ _).drew1) (by simp) (by simp)) (mNext tail (S j 1)) ((j : Int) + 1)).mono ?_; rintro e w1 ⟨rfl, hA, hF⟩; have HF1 := Lib.hid (((Frm.refl [ab, wb] w).drew1).trans hF); have H1 := Lib.hid (H.out.ar_ HF1.out hA); have j1 := H1.out.p HJ.out (t := 1) (by omega); have j2 := H1.out.p HJ.out (t := 2) (by omega); have j3 := H1.out.p HJ.out (t := 3) (by omega); have jd := H1.out.box.cell (i := 4) rfl; have jz := H1.out.row.frozen; have jy := H1.out.box.frozen; clear hA hF
  go_wp2_with fail
  refine onNormal_mk ⟨HF1.out, ?_⟩
  refine held_end (by kernel_rfl) ?_
  clear hne hz0 hz1 hz2 hz3 hz4 hy1 hy2 hy3
  have HB := Lib.hid H1.out
  have HF2 := Lib.hid (HF1.out.mono (S' := [lb, sb, bb, ab, wb]) (by simp))
  have k0 : w1.cell? ⟨sb, j * 4, none⟩ = some (.int .i64 4) := by rw [← H0.out]; exact HB.out.p0 HJ.out
  have k1 := HB.out.p HJ.out (t := 1) (by omega)
  clear H1 HF1 j1 j2 j3 jd jz jy
  go_wp2
  go_ret
  exact ⟨rfl, HB.out, HF2.out⟩
set_option maxRecDepth 100000 in
theorem m_in5a (h : MAt w lb sb bb ab wb tail first n bud A B d S) {j : Nat} (hj : j < n) (h0 : S j 0 = 5) (hg : A.get (mWait tail ((j : Int) + 1)) = 0) : Calls Try.prog 50 #[.pointer (some ⟨lb, 0, none⟩), .pointer (some ⟨sb, j * 4, none⟩), .int .i64 ((j : Int) + 1)] w fun e w' => e = .returned (.int .i64 10) ∧
    MAt w' lb sb bb ab wb tail first n bud (A.load (mWait tail ((j : Int) + 1))) (B) (d) (S) ∧ Frm [lb, sb, bb, ab, wb] w w' := by
  have HN := Lib.hid h.ne
  have HJ := Lib.hid hj
  have hn32 := h.n32
  have htb := h.tb
  have c0 : w.cell? ⟨sb, j * 4, none⟩ = some (.int .i64 5) := by rw [← h0]; exact h.p0 hj
  have c1 := h.p hj (t := 1) (by omega)
  have c2 := h.p hj (t := 2) (by omega)
  have c3 := h.p hj (t := 3) (by omega)
  have l0 := h.box.cell (i := 0) rfl
  have l1 := h.box.cell (i := 1) rfl
  have l2 := h.box.cell (i := 2) rfl
  have l3 := h.box.cell (i := 3) rfl
  have H := Lib.hid h
  have H0 := Lib.hid h0
  have HNX := Lib.hid (fun (W : World) (hf : Frm [] w W) (y : Int) => mNext_any (h.frm hf (by simp)) y)
  have HWT := Lib.hid (fun (W : World) (hf : Frm [] w W) (y : Int) => mWait_any (h.frm hf (by simp)) y)
  have HG := Lib.hid hg
  clear hg
  have hne : Nonempty (HW (fun wx => Frm [ab, wb] w wx)) := ⟨⟨w, Frm.refl _ _⟩⟩
  have hz0 : ∀ q : HW (fun wx => Frm [ab, wb] w wx), q.w.cell? ⟨lb, 0, none⟩ = some (.pointer (some ⟨ab, 0, none⟩)) := fun q => (h.box.frm q.h (by simp; have := HN.out; omega)).cell (i := 0) rfl
  have hz1 : ∀ q : HW (fun wx => Frm [ab, wb] w wx), q.w.cell? ⟨lb, 1, none⟩ = some (.int .i64 tail) := fun q => (h.box.frm q.h (by simp; have := HN.out; omega)).cell (i := 1) rfl
  have hz2 : ∀ q : HW (fun wx => Frm [ab, wb] w wx), q.w.cell? ⟨lb, 2, none⟩ = some (.int .i64 bud) := fun q => (h.box.frm q.h (by simp; have := HN.out; omega)).cell (i := 2) rfl
  have hz3 : ∀ q : HW (fun wx => Frm [ab, wb] w wx), q.w.cell? ⟨lb, 3, none⟩ = some (.pointer (some ⟨bb, 0, none⟩)) := fun q => (h.box.frm q.h (by simp; have := HN.out; omega)).cell (i := 3) rfl
  have hz4 : ∀ q : HW (fun wx => Frm [ab, wb] w wx), q.w.cell? ⟨lb, 4, none⟩ = some (.int .i64 d) := fun q => (h.box.frm q.h (by simp; have := HN.out; omega)).cell (i := 4) rfl
  have hy1 : ∀ q : HW (fun wx => Frm [ab, wb] w wx), q.w.cell? ⟨sb, j * 4 + 1, none⟩ = some (.int .i64 (S j 1)) := fun q => (h.row.frm q.h (by simp; have := HN.out; omega)).cell (spC_get n S hj (by omega))
  have hy2 : ∀ q : HW (fun wx => Frm [ab, wb] w wx), q.w.cell? ⟨sb, j * 4 + 2, none⟩ = some (.int .i64 (S j 2)) := fun q => (h.row.frm q.h (by simp; have := HN.out; omega)).cell (spC_get n S hj (by omega))
  have hy3 : ∀ q : HW (fun wx => Frm [ab, wb] w wx), q.w.cell? ⟨sb, j * 4 + 3, none⟩ = some (.int .i64 (S j 3)) := fun q => (h.row.frm q.h (by simp; have := HN.out; omega)).cell (spC_get n S hj (by omega))
  clear h h0 hj
  go_enter Try.func50, Try.ntmps50
  go_wp2_with fail
  refine held_begin (S := fun wx => Frm [ab, wb] w wx) (by kernel_rfl) ?_
  refine held_row_at (fuel := 3) (is := [0, 1, 2, 3, 4, 5]) (.cons rfl (.cons rfl (.cons rfl (.cons rfl (.cons rfl (.cons rfl .nil)))))) (by kernel_rfl) (fun _ _ _ _ _ h => h) rfl (by kernel_rfl) (Frm.refl _ _).drew1 ?_
  intro K hK
  repeat (go_big_quiet_step (fail))
  refine wpQuiet_nil (hK _ ?_)
  clear hK K
  refine held_call (fuel := 2) (i := 6) rfl (by kernel_rfl) ?_
  go_wp2_with fail
  refine (HWT.out _ ((Frm.refl _ _).drew1) _).mono ?_; rintro e w' ⟨rfl, rfl⟩
  go_wp2_with fail
  refine onNormal_mk ⟨(Frm.refl _ _).drew1, ?_⟩
  refine held_call (fuel := 1) (i := 7) rfl (by kernel_rfl) ?_
  go_wp2_with fail
  refine (Load_any (H.out.ar.frm (S := []) ((Frm.refl _ _).drew1) (by simp) (by simp)) (mWait tail ((j : Int) + 1))).mono ?_; rw [HG.out]; rintro e w1 ⟨rfl, hA, hF⟩; have HF1 := Lib.hid (((Frm.refl [ab, wb] w).drew1).trans hF); have H1 := Lib.hid (H.out.ar_ HF1.out hA); have j1 := H1.out.p HJ.out (t := 1) (by omega); have j2 := H1.out.p HJ.out (t := 2) (by omega); have j3 := H1.out.p HJ.out (t := 3) (by omega); have jd := H1.out.box.cell (i := 4) rfl; have jz := H1.out.row.frozen; have jy := H1.out.box.frozen; clear hA hF
  go_wp2_with fail
  refine onNormal_mk ⟨HF1.out, ?_⟩
  refine held_row_at (fuel := 0) (is := [8]) (.cons rfl .nil) (by kernel_rfl) (fun _ _ _ _ _ h => h) rfl (by kernel_rfl) HF1.out ?_
  intro K hK
  repeat (go_big_quiet_step (fail))
  refine wpQuiet_nil (hK _ ?_)
  clear hK K
  refine held_end (by kernel_rfl) ?_
  clear hne hz0 hz1 hz2 hz3 hz4 hy1 hy2 hy3
  have HB := Lib.hid H1.out
  have HF2 := Lib.hid (HF1.out.mono (S' := [lb, sb, bb, ab, wb]) (by simp))
  have k0 : w1.cell? ⟨sb, j * 4, none⟩ = some (.int .i64 5) := by rw [← H0.out]; exact HB.out.p0 HJ.out
  have k1 := HB.out.p HJ.out (t := 1) (by omega)
  clear H1 HF1 j1 j2 j3 jd jz jy
  go_wp2
  go_ret
  exact ⟨rfl, HB.out, HF2.out⟩
set_option maxRecDepth 100000 in
theorem m_in5b (h : MAt w lb sb bb ab wb tail first n bud A B d S) {j : Nat} (hj : j < n) (h0 : S j 0 = 5) (hg : ¬ A.get (mWait tail ((j : Int) + 1)) = 0) : Calls Try.prog 50 #[.pointer (some ⟨lb, 0, none⟩), .pointer (some ⟨sb, j * 4, none⟩), .int .i64 ((j : Int) + 1)] w fun e w' => e = .returned (.int .i64 5) ∧
    MAt w' lb sb bb ab wb tail first n bud (A.load (mWait tail ((j : Int) + 1))) (B) (d) (S) ∧ Frm [lb, sb, bb, ab, wb] w w' := by
  have HN := Lib.hid h.ne
  have HJ := Lib.hid hj
  have hn32 := h.n32
  have htb := h.tb
  have c0 : w.cell? ⟨sb, j * 4, none⟩ = some (.int .i64 5) := by rw [← h0]; exact h.p0 hj
  have c1 := h.p hj (t := 1) (by omega)
  have c2 := h.p hj (t := 2) (by omega)
  have c3 := h.p hj (t := 3) (by omega)
  have l0 := h.box.cell (i := 0) rfl
  have l1 := h.box.cell (i := 1) rfl
  have l2 := h.box.cell (i := 2) rfl
  have l3 := h.box.cell (i := 3) rfl
  have H := Lib.hid h
  have H0 := Lib.hid h0
  have HNX := Lib.hid (fun (W : World) (hf : Frm [] w W) (y : Int) => mNext_any (h.frm hf (by simp)) y)
  have HWT := Lib.hid (fun (W : World) (hf : Frm [] w W) (y : Int) => mWait_any (h.frm hf (by simp)) y)
  generalize hv : A.get (mWait tail ((j : Int) + 1)) = v at hg ⊢
  have HG := Lib.hid hv
  clear hv
  have e0 : (v == 0) = false := by simpa using hg
  have e1 : (v != 0) = true := by simpa using hg
  clear hg
  have hne : Nonempty (HW (fun wx => Frm [ab, wb] w wx)) := ⟨⟨w, Frm.refl _ _⟩⟩
  have hz0 : ∀ q : HW (fun wx => Frm [ab, wb] w wx), q.w.cell? ⟨lb, 0, none⟩ = some (.pointer (some ⟨ab, 0, none⟩)) := fun q => (h.box.frm q.h (by simp; have := HN.out; omega)).cell (i := 0) rfl
  have hz1 : ∀ q : HW (fun wx => Frm [ab, wb] w wx), q.w.cell? ⟨lb, 1, none⟩ = some (.int .i64 tail) := fun q => (h.box.frm q.h (by simp; have := HN.out; omega)).cell (i := 1) rfl
  have hz2 : ∀ q : HW (fun wx => Frm [ab, wb] w wx), q.w.cell? ⟨lb, 2, none⟩ = some (.int .i64 bud) := fun q => (h.box.frm q.h (by simp; have := HN.out; omega)).cell (i := 2) rfl
  have hz3 : ∀ q : HW (fun wx => Frm [ab, wb] w wx), q.w.cell? ⟨lb, 3, none⟩ = some (.pointer (some ⟨bb, 0, none⟩)) := fun q => (h.box.frm q.h (by simp; have := HN.out; omega)).cell (i := 3) rfl
  have hz4 : ∀ q : HW (fun wx => Frm [ab, wb] w wx), q.w.cell? ⟨lb, 4, none⟩ = some (.int .i64 d) := fun q => (h.box.frm q.h (by simp; have := HN.out; omega)).cell (i := 4) rfl
  have hy1 : ∀ q : HW (fun wx => Frm [ab, wb] w wx), q.w.cell? ⟨sb, j * 4 + 1, none⟩ = some (.int .i64 (S j 1)) := fun q => (h.row.frm q.h (by simp; have := HN.out; omega)).cell (spC_get n S hj (by omega))
  have hy2 : ∀ q : HW (fun wx => Frm [ab, wb] w wx), q.w.cell? ⟨sb, j * 4 + 2, none⟩ = some (.int .i64 (S j 2)) := fun q => (h.row.frm q.h (by simp; have := HN.out; omega)).cell (spC_get n S hj (by omega))
  have hy3 : ∀ q : HW (fun wx => Frm [ab, wb] w wx), q.w.cell? ⟨sb, j * 4 + 3, none⟩ = some (.int .i64 (S j 3)) := fun q => (h.row.frm q.h (by simp; have := HN.out; omega)).cell (spC_get n S hj (by omega))
  clear h h0 hj
  go_enter Try.func50, Try.ntmps50
  go_wp2_with fail
  refine held_begin (S := fun wx => Frm [ab, wb] w wx) (by kernel_rfl) ?_
  refine held_row_at (fuel := 3) (is := [0, 1, 2, 3, 4, 5]) (.cons rfl (.cons rfl (.cons rfl (.cons rfl (.cons rfl (.cons rfl .nil)))))) (by kernel_rfl) (fun _ _ _ _ _ h => h) rfl (by kernel_rfl) (Frm.refl _ _).drew1 ?_
  intro K hK
  repeat (go_big_quiet_step (fail))
  refine wpQuiet_nil (hK _ ?_)
  clear hK K
  refine held_call (fuel := 2) (i := 6) rfl (by kernel_rfl) ?_
  go_wp2_with fail
  refine (HWT.out _ ((Frm.refl _ _).drew1) _).mono ?_; rintro e w' ⟨rfl, rfl⟩
  go_wp2_with fail
  refine onNormal_mk ⟨(Frm.refl _ _).drew1, ?_⟩
  refine held_call (fuel := 1) (i := 7) rfl (by kernel_rfl) ?_
  go_wp2_with fail
  refine (Load_any (H.out.ar.frm (S := []) ((Frm.refl _ _).drew1) (by simp) (by simp)) (mWait tail ((j : Int) + 1))).mono ?_; rw [HG.out]; rintro e w1 ⟨rfl, hA, hF⟩; have HF1 := Lib.hid (((Frm.refl [ab, wb] w).drew1).trans hF); have H1 := Lib.hid (H.out.ar_ HF1.out hA); have j1 := H1.out.p HJ.out (t := 1) (by omega); have j2 := H1.out.p HJ.out (t := 2) (by omega); have j3 := H1.out.p HJ.out (t := 3) (by omega); have jd := H1.out.box.cell (i := 4) rfl; have jz := H1.out.row.frozen; have jy := H1.out.box.frozen; clear hA hF
  go_wp2_with fail
  refine onNormal_mk ⟨HF1.out, ?_⟩
  refine held_row_at (fuel := 0) (is := [8]) (.cons rfl .nil) (by kernel_rfl) (fun _ _ _ _ _ h => h) rfl (by kernel_rfl) HF1.out ?_
  intro K hK
  repeat (go_big_quiet_step (fail))
  refine wpQuiet_nil (hK _ ?_)
  clear hK K
  refine held_end (by kernel_rfl) ?_
  clear hne hz0 hz1 hz2 hz3 hz4 hy1 hy2 hy3
  have HB := Lib.hid H1.out
  have HF2 := Lib.hid (HF1.out.mono (S' := [lb, sb, bb, ab, wb]) (by simp))
  have k0 : w1.cell? ⟨sb, j * 4, none⟩ = some (.int .i64 5) := by rw [← H0.out]; exact HB.out.p0 HJ.out
  have k1 := HB.out.p HJ.out (t := 1) (by omega)
  clear H1 HF1 j1 j2 j3 jd jz jy
  go_wp2
  go_ret
  exact ⟨rfl, HB.out, HF2.out⟩
set_option maxRecDepth 100000 in
theorem m_11 (h : MAt w lb sb bb ab wb tail first n bud A B d S) {j : Nat} (hj : j < n) (h0 : S j 0 = 11) : Calls Try.prog 51 #[.pointer (some ⟨lb, 0, none⟩), .pointer (some ⟨sb, j * 4, none⟩), .int .i64 ((j : Int) + 1)] w fun e w' => e = .returned (.int .i64 12) ∧
    MAt w' lb sb bb ab wb tail first n bud (A.add (tail + 1) 1) (B) (d) (spPut S j 3 (A.addRes (tail + 1) 1)) ∧ Frm [lb, sb, bb, ab, wb] w w' := by
  have HN := Lib.hid h.ne
  have HJ := Lib.hid hj
  have hn32 := h.n32
  have htb := h.tb
  have c0 : w.cell? ⟨sb, j * 4, none⟩ = some (.int .i64 11) := by rw [← h0]; exact h.p0 hj
  have c1 := h.p hj (t := 1) (by omega)
  have c2 := h.p hj (t := 2) (by omega)
  have c3 := h.p hj (t := 3) (by omega)
  have l0 := h.box.cell (i := 0) rfl
  have l1 := h.box.cell (i := 1) rfl
  have l2 := h.box.cell (i := 2) rfl
  have l3 := h.box.cell (i := 3) rfl
  have H := Lib.hid h
  have H0 := Lib.hid h0
  have HNX := Lib.hid (fun (W : World) (hf : Frm [] w W) (y : Int) => mNext_any (h.frm hf (by simp)) y)
  have HWT := Lib.hid (fun (W : World) (hf : Frm [] w W) (y : Int) => mWait_any (h.frm hf (by simp)) y)
  have hne : Nonempty (HW (fun wx => Frm [sb, ab, wb] w wx)) := ⟨⟨w, Frm.refl _ _⟩⟩
  have hz0 : ∀ q : HW (fun wx => Frm [sb, ab, wb] w wx), q.w.cell? ⟨lb, 0, none⟩ = some (.pointer (some ⟨ab, 0, none⟩)) := fun q => (h.box.frm q.h (by simp; have := HN.out; omega)).cell (i := 0) rfl
  have hz1 : ∀ q : HW (fun wx => Frm [sb, ab, wb] w wx), q.w.cell? ⟨lb, 1, none⟩ = some (.int .i64 tail) := fun q => (h.box.frm q.h (by simp; have := HN.out; omega)).cell (i := 1) rfl
  have hz2 : ∀ q : HW (fun wx => Frm [sb, ab, wb] w wx), q.w.cell? ⟨lb, 2, none⟩ = some (.int .i64 bud) := fun q => (h.box.frm q.h (by simp; have := HN.out; omega)).cell (i := 2) rfl
  have hz3 : ∀ q : HW (fun wx => Frm [sb, ab, wb] w wx), q.w.cell? ⟨lb, 3, none⟩ = some (.pointer (some ⟨bb, 0, none⟩)) := fun q => (h.box.frm q.h (by simp; have := HN.out; omega)).cell (i := 3) rfl
  have hz4 : ∀ q : HW (fun wx => Frm [sb, ab, wb] w wx), q.w.cell? ⟨lb, 4, none⟩ = some (.int .i64 d) := fun q => (h.box.frm q.h (by simp; have := HN.out; omega)).cell (i := 4) rfl
  clear h h0 hj
  go_enter Try.func51, Try.ntmps51
  go_wp2_with fail
  refine held_begin (S := fun wx => Frm [sb, ab, wb] w wx) (by kernel_rfl) ?_
  refine held_row_at (fuel := 4) (is := [0, 1, 2, 3, 4, 5, 6, 7, 8, 9]) (.cons rfl (.cons rfl (.cons rfl (.cons rfl (.cons rfl (.cons rfl (.cons rfl (.cons rfl (.cons rfl (.cons rfl .nil)))))))))) (by kernel_rfl) (fun _ _ _ _ _ h => h) rfl (by kernel_rfl) (Frm.refl _ _).drew1 ?_
  intro K hK
  repeat (go_big_quiet_step (fail))
  refine wpQuiet_nil (hK _ ?_)
  clear hK K
  refine held_call (fuel := 3) (i := 10) rfl (by kernel_rfl) ?_
  go_wp2_with fail
  refine (Add_any (H.out.ar.frm (S := []) ((Frm.refl _ _).drew1) (by simp) (by simp)) (tail + 1) (1)).mono ?_; rintro e w1 ⟨rfl, hA, hF⟩; have HF1 := Lib.hid (((Frm.refl [ab, wb] w).drew1).trans hF); have H1 := Lib.hid (H.out.ar_ HF1.out hA); have j1 := H1.out.p HJ.out (t := 1) (by omega); have j2 := H1.out.p HJ.out (t := 2) (by omega); have j3 := H1.out.p HJ.out (t := 3) (by omega); have jd := H1.out.box.cell (i := 4) rfl; have jz := H1.out.row.frozen; have jy := H1.out.box.frozen; clear hA hF
  go_wp2_with fail
  refine onNormal_mk ⟨(HF1.out.mono (S' := [sb, ab, wb]) (by simp)), ?_⟩
  refine held_row_at (fuel := 1) (is := [11, 12]) (.cons rfl (.cons rfl .nil)) (by kernel_rfl) (fun _ _ _ _ _ h => h) rfl (by kernel_rfl) (HF1.out.mono (S' := [sb, ab, wb]) (by simp)) ?_
  intro K hK
  repeat (go_big_quiet_step (fail))
  refine wpQuiet_nil (hK _ ?_)
  clear hK K
  refine held_call (fuel := 0) (i := 13) rfl (by kernel_rfl) ?_
  go_wp2_with fail
  refine onNormal_mk ⟨((HF1.out.mono (S' := [sb, ab, wb]) (by simp)).set ⟨sb, j * 4 + 3, none⟩ (.int .i64 (A.addRes (tail + 1) 1)) (.inl (by simp))), ?_⟩
  refine held_end (by kernel_rfl) ?_
  clear hne hz0 hz1 hz2 hz3 hz4
  have HB := Lib.hid (H1.out.put j (t := 3) (by omega) (A.addRes (tail + 1) 1))
  have HF2 := Lib.hid ((HF1.out.mono (S' := [lb, sb, bb, ab, wb]) (by simp)).set ⟨sb, j * 4 + 3, none⟩ (.int .i64 (A.addRes (tail + 1) 1)) (.inl (by simp)))
  clear H1 HF1 j1 j2 j3 jd jz jy
  generalize (w1.setCell ⟨sb, j * 4 + 3, none⟩ (.int .i64 (A.addRes (tail + 1) 1))) = W2 at *
  have k0 : W2.cell? ⟨sb, j * 4, none⟩ = some (.int .i64 11) := by rw [← H0.out]; exact (HB.out.p0 HJ.out).trans (by unfold spPut; simp)
  have kt : W2.cell? ⟨sb, j * 4 + 3, none⟩ = some (.int .i64 (A.addRes (tail + 1) 1)) := (HB.out.p HJ.out (t := 3) (by omega)).trans (by unfold spPut; simp)
  go_wp2
  go_ret
  exact ⟨rfl, HB.out, HF2.out⟩
set_option maxRecDepth 100000 in
theorem m_12a (h : MAt w lb sb bb ab wb tail first n bud A B d S) {j : Nat} (hj : j < n) (h0 : S j 0 = 12) (hg : ¬ A.get (mNext tail ((j : Int) + 1)) = 0) (hm : ¬ (S j 3).tmod (bud + 1) = 0) : Calls Try.prog 51 #[.pointer (some ⟨lb, 0, none⟩), .pointer (some ⟨sb, j * 4, none⟩), .int .i64 ((j : Int) + 1)] w fun e w' => e = .returned (.int .i64 21) ∧
    MAt w' lb sb bb ab wb tail first n bud (A.load (mNext tail ((j : Int) + 1))) (B) (d) (spPut S j 1 (A.get (mNext tail ((j : Int) + 1)))) ∧ Frm [lb, sb, bb, ab, wb] w w' := by
  have HN := Lib.hid h.ne
  have HJ := Lib.hid hj
  have hn32 := h.n32
  have htb := h.tb
  have c0 : w.cell? ⟨sb, j * 4, none⟩ = some (.int .i64 12) := by rw [← h0]; exact h.p0 hj
  have c1 := h.p hj (t := 1) (by omega)
  have c2 := h.p hj (t := 2) (by omega)
  have c3 := h.p hj (t := 3) (by omega)
  have l0 := h.box.cell (i := 0) rfl
  have l1 := h.box.cell (i := 1) rfl
  have l2 := h.box.cell (i := 2) rfl
  have l3 := h.box.cell (i := 3) rfl
  have H := Lib.hid h
  have H0 := Lib.hid h0
  have HNX := Lib.hid (fun (W : World) (hf : Frm [] w W) (y : Int) => mNext_any (h.frm hf (by simp)) y)
  have HWT := Lib.hid (fun (W : World) (hf : Frm [] w W) (y : Int) => mWait_any (h.frm hf (by simp)) y)
  generalize hv : A.get (mNext tail ((j : Int) + 1)) = v at hg ⊢
  have HG := Lib.hid hv
  clear hv
  have e0 : (v == 0) = false := by simpa using hg
  have e1 : (v != 0) = true := by simpa using hg
  clear hg
  have hb0 := h.b0
  have hb1 := h.b1
  have e2 : ((S j 3).tmod (bud + 1) == 0) = false := by simpa using hm
  have e3 : ((S j 3).tmod (bud + 1) != 0) = true := by simpa using hm
  clear hm
  have hne : Nonempty (HW (fun wx => Frm [sb, ab, wb] w wx)) := ⟨⟨w, Frm.refl _ _⟩⟩
  have hz0 : ∀ q : HW (fun wx => Frm [sb, ab, wb] w wx), q.w.cell? ⟨lb, 0, none⟩ = some (.pointer (some ⟨ab, 0, none⟩)) := fun q => (h.box.frm q.h (by simp; have := HN.out; omega)).cell (i := 0) rfl
  have hz1 : ∀ q : HW (fun wx => Frm [sb, ab, wb] w wx), q.w.cell? ⟨lb, 1, none⟩ = some (.int .i64 tail) := fun q => (h.box.frm q.h (by simp; have := HN.out; omega)).cell (i := 1) rfl
  have hz2 : ∀ q : HW (fun wx => Frm [sb, ab, wb] w wx), q.w.cell? ⟨lb, 2, none⟩ = some (.int .i64 bud) := fun q => (h.box.frm q.h (by simp; have := HN.out; omega)).cell (i := 2) rfl
  have hz3 : ∀ q : HW (fun wx => Frm [sb, ab, wb] w wx), q.w.cell? ⟨lb, 3, none⟩ = some (.pointer (some ⟨bb, 0, none⟩)) := fun q => (h.box.frm q.h (by simp; have := HN.out; omega)).cell (i := 3) rfl
  have hz4 : ∀ q : HW (fun wx => Frm [sb, ab, wb] w wx), q.w.cell? ⟨lb, 4, none⟩ = some (.int .i64 d) := fun q => (h.box.frm q.h (by simp; have := HN.out; omega)).cell (i := 4) rfl
  clear h h0 hj
  go_enter Try.func51, Try.ntmps51
  go_wp2_with fail
  refine held_begin (S := fun wx => Frm [sb, ab, wb] w wx) (by kernel_rfl) ?_
  refine held_row_at (fuel := 5) (is := [0, 1, 2, 3, 4, 5, 6]) (.cons rfl (.cons rfl (.cons rfl (.cons rfl (.cons rfl (.cons rfl (.cons rfl .nil))))))) (by kernel_rfl) (fun _ _ _ _ _ h => h) rfl (by kernel_rfl) (Frm.refl _ _).drew1 ?_
  intro K hK
  repeat (go_big_quiet_step (fail))
  refine wpQuiet_nil (hK _ ?_)
  clear hK K
  refine held_call (fuel := 4) (i := 7) rfl (by kernel_rfl) ?_
  go_wp2_with fail
  refine (HNX.out _ ((Frm.refl _ _).drew1) _).mono ?_; rintro e w' ⟨rfl, rfl⟩
  go_wp2_with fail
  refine onNormal_mk ⟨(Frm.refl _ _).drew1, ?_⟩
  refine held_call (fuel := 3) (i := 8) rfl (by kernel_rfl) ?_
  go_wp2_with fail
  refine (Load_any (H.out.ar.frm (S := []) ((Frm.refl _ _).drew1) (by simp) (by simp)) (mNext tail ((j : Int) + 1))).mono ?_; rw [HG.out]; rintro e w1 ⟨rfl, hA, hF⟩; have HF1 := Lib.hid (((Frm.refl [ab, wb] w).drew1).trans hF); have H1 := Lib.hid (H.out.ar_ HF1.out hA); have j1 := H1.out.p HJ.out (t := 1) (by omega); have j2 := H1.out.p HJ.out (t := 2) (by omega); have j3 := H1.out.p HJ.out (t := 3) (by omega); have jd := H1.out.box.cell (i := 4) rfl; have jz := H1.out.row.frozen; have jy := H1.out.box.frozen; clear hA hF
  go_wp2_with fail
  refine onNormal_mk ⟨(HF1.out.mono (S' := [sb, ab, wb]) (by simp)), ?_⟩
  refine held_row_at (fuel := 1) (is := [9, 10]) (.cons rfl (.cons rfl .nil)) (by kernel_rfl) (fun _ _ _ _ _ h => h) rfl (by kernel_rfl) (HF1.out.mono (S' := [sb, ab, wb]) (by simp)) ?_
  intro K hK
  repeat (go_big_quiet_step (fail))
  refine wpQuiet_nil (hK _ ?_)
  clear hK K
  refine held_call (fuel := 0) (i := 11) rfl (by kernel_rfl) ?_
  go_wp2_with fail
  refine onNormal_mk ⟨((HF1.out.mono (S' := [sb, ab, wb]) (by simp)).set ⟨sb, j * 4 + 1, none⟩ (.int .i64 v) (.inl (by simp))), ?_⟩
  refine held_end (by kernel_rfl) ?_
  clear hne hz0 hz1 hz2 hz3 hz4
  have HB := Lib.hid (H1.out.put j (t := 1) (by omega) v)
  have HF2 := Lib.hid ((HF1.out.mono (S' := [lb, sb, bb, ab, wb]) (by simp)).set ⟨sb, j * 4 + 1, none⟩ (.int .i64 v) (.inl (by simp)))
  clear H1 HF1 j1 j2 j3 jd jz jy
  generalize (w1.setCell ⟨sb, j * 4 + 1, none⟩ (.int .i64 v)) = W2 at *
  have k0 : W2.cell? ⟨sb, j * 4, none⟩ = some (.int .i64 12) := by rw [← H0.out]; exact (HB.out.p0 HJ.out).trans (by unfold spPut; simp)
  have kt : W2.cell? ⟨sb, j * 4 + 1, none⟩ = some (.int .i64 v) := (HB.out.p HJ.out (t := 1) (by omega)).trans (by unfold spPut; simp)
  have k3 := (HB.out.p HJ.out (t := 3) (by omega)).trans (show some (Value.int .i64 (spPut S j 1 v j 3)) = some (.int .i64 (S j 3)) by unfold spPut; simp)
  have m2 := HB.out.box.cell (i := 2) rfl
  have m3 := HB.out.box.cell (i := 3) rfl
  go_wp2_with fail
  obtain ⟨W3, rfl⟩ : ∃ W, W = W2 := ⟨_, rfl⟩
  have hne : Nonempty (HW (fun wx => Frm [] W3 wx)) := ⟨⟨W3, Frm.refl _ _⟩⟩
  have hzt : ∀ q : HW (fun wx => Frm [] W3 wx), q.w.cell? ⟨sb, j * 4 + 1, none⟩ = some (.int .i64 v) := fun q => q.h.cell kt (by simp)
  have hz3 : ∀ q : HW (fun wx => Frm [] W3 wx), q.w.cell? ⟨sb, j * 4 + 3, none⟩ = some (.int .i64 (S j 3)) := fun q => q.h.cell k3 (by simp)
  have hzb : ∀ q : HW (fun wx => Frm [] W3 wx), q.w.cell? ⟨lb, 2, none⟩ = some (.int .i64 bud) := fun q => q.h.cell m2 (by simp)
  refine held_begin (S := fun wx => Frm [] W3 wx) (by kernel_rfl) ?_
  refine held_row_at (fuel := 0) (is := [0, 1, 2, 3, 4, 5, 6, 7, 8, 9, 10, 11, 12, 13, 14, 15, 16, 17]) (.cons rfl (.cons rfl (.cons rfl (.cons rfl (.cons rfl (.cons rfl (.cons rfl (.cons rfl (.cons rfl (.cons rfl (.cons rfl (.cons rfl (.cons rfl (.cons rfl (.cons rfl (.cons rfl (.cons rfl (.cons rfl .nil)))))))))))))))))) (by kernel_rfl) (fun _ _ _ _ _ h => h) rfl (by kernel_rfl) (Frm.refl _ _).drew1 ?_
  intro K hK
  repeat (go_big_quiet_step (fail))
  refine wpQuiet_nil (hK _ ?_)
  clear hK K
  refine held_end (by kernel_rfl) ?_
  have HB4 := Lib.hid (HB.out.frm (Frm.refl [] _).drew1 (by simp))
  have HF4 := Lib.hid HF2.out.drew1
  clear hne hzt hz3 hzb HB HF2 kt k3 k0 m2 m3
  generalize W3.drew = W4 at *
  have m3 := HB4.out.box.cell (i := 3) rfl
  obtain ⟨HB, rfl⟩ : ∃ H, H = HB4 := ⟨_, rfl⟩
  obtain ⟨HF2, rfl⟩ : ∃ H, H = HF4 := ⟨_, rfl⟩
  go_wp2_with fail
  go_wp2
  go_ret
  exact ⟨rfl, HB.out, HF2.out⟩
set_option maxRecDepth 100000 in
theorem m_12b (h : MAt w lb sb bb ab wb tail first n bud A B d S) {j : Nat} (hj : j < n) (h0 : S j 0 = 12) (hg : A.get (mNext tail ((j : Int) + 1)) = 0) : Calls Try.prog 51 #[.pointer (some ⟨lb, 0, none⟩), .pointer (some ⟨sb, j * 4, none⟩), .int .i64 ((j : Int) + 1)] w fun e w' => e = .returned (.int .i64 13) ∧
    MAt w' lb sb bb ab wb tail first n bud (A.load (mNext tail ((j : Int) + 1))) (bTakeB B) (d) (spPut S j 1 (A.get (mNext tail ((j : Int) + 1)))) ∧ Frm [lb, sb, bb, ab, wb] w w' := by
  have HN := Lib.hid h.ne
  have HJ := Lib.hid hj
  have hn32 := h.n32
  have htb := h.tb
  have c0 : w.cell? ⟨sb, j * 4, none⟩ = some (.int .i64 12) := by rw [← h0]; exact h.p0 hj
  have c1 := h.p hj (t := 1) (by omega)
  have c2 := h.p hj (t := 2) (by omega)
  have c3 := h.p hj (t := 3) (by omega)
  have l0 := h.box.cell (i := 0) rfl
  have l1 := h.box.cell (i := 1) rfl
  have l2 := h.box.cell (i := 2) rfl
  have l3 := h.box.cell (i := 3) rfl
  have H := Lib.hid h
  have H0 := Lib.hid h0
  have HNX := Lib.hid (fun (W : World) (hf : Frm [] w W) (y : Int) => mNext_any (h.frm hf (by simp)) y)
  have HWT := Lib.hid (fun (W : World) (hf : Frm [] w W) (y : Int) => mWait_any (h.frm hf (by simp)) y)
  have HG := Lib.hid hg
  rw [hg]
  clear hg
  have hne : Nonempty (HW (fun wx => Frm [sb, ab, wb] w wx)) := ⟨⟨w, Frm.refl _ _⟩⟩
  have hz0 : ∀ q : HW (fun wx => Frm [sb, ab, wb] w wx), q.w.cell? ⟨lb, 0, none⟩ = some (.pointer (some ⟨ab, 0, none⟩)) := fun q => (h.box.frm q.h (by simp; have := HN.out; omega)).cell (i := 0) rfl
  have hz1 : ∀ q : HW (fun wx => Frm [sb, ab, wb] w wx), q.w.cell? ⟨lb, 1, none⟩ = some (.int .i64 tail) := fun q => (h.box.frm q.h (by simp; have := HN.out; omega)).cell (i := 1) rfl
  have hz2 : ∀ q : HW (fun wx => Frm [sb, ab, wb] w wx), q.w.cell? ⟨lb, 2, none⟩ = some (.int .i64 bud) := fun q => (h.box.frm q.h (by simp; have := HN.out; omega)).cell (i := 2) rfl
  have hz3 : ∀ q : HW (fun wx => Frm [sb, ab, wb] w wx), q.w.cell? ⟨lb, 3, none⟩ = some (.pointer (some ⟨bb, 0, none⟩)) := fun q => (h.box.frm q.h (by simp; have := HN.out; omega)).cell (i := 3) rfl
  have hz4 : ∀ q : HW (fun wx => Frm [sb, ab, wb] w wx), q.w.cell? ⟨lb, 4, none⟩ = some (.int .i64 d) := fun q => (h.box.frm q.h (by simp; have := HN.out; omega)).cell (i := 4) rfl
  clear h h0 hj
  go_enter Try.func51, Try.ntmps51
  go_wp2_with fail
  refine held_begin (S := fun wx => Frm [sb, ab, wb] w wx) (by kernel_rfl) ?_
  refine held_row_at (fuel := 5) (is := [0, 1, 2, 3, 4, 5, 6]) (.cons rfl (.cons rfl (.cons rfl (.cons rfl (.cons rfl (.cons rfl (.cons rfl .nil))))))) (by kernel_rfl) (fun _ _ _ _ _ h => h) rfl (by kernel_rfl) (Frm.refl _ _).drew1 ?_
  intro K hK
  repeat (go_big_quiet_step (fail))
  refine wpQuiet_nil (hK _ ?_)
  clear hK K
  refine held_call (fuel := 4) (i := 7) rfl (by kernel_rfl) ?_
  go_wp2_with fail
  refine (HNX.out _ ((Frm.refl _ _).drew1) _).mono ?_; rintro e w' ⟨rfl, rfl⟩
  go_wp2_with fail
  refine onNormal_mk ⟨(Frm.refl _ _).drew1, ?_⟩
  refine held_call (fuel := 3) (i := 8) rfl (by kernel_rfl) ?_
  go_wp2_with fail
  refine (Load_any (H.out.ar.frm (S := []) ((Frm.refl _ _).drew1) (by simp) (by simp)) (mNext tail ((j : Int) + 1))).mono ?_; rw [HG.out]; rintro e w1 ⟨rfl, hA, hF⟩; have HF1 := Lib.hid (((Frm.refl [ab, wb] w).drew1).trans hF); have H1 := Lib.hid (H.out.ar_ HF1.out hA); have j1 := H1.out.p HJ.out (t := 1) (by omega); have j2 := H1.out.p HJ.out (t := 2) (by omega); have j3 := H1.out.p HJ.out (t := 3) (by omega); have jd := H1.out.box.cell (i := 4) rfl; have jz := H1.out.row.frozen; have jy := H1.out.box.frozen; clear hA hF
  go_wp2_with fail
  refine onNormal_mk ⟨(HF1.out.mono (S' := [sb, ab, wb]) (by simp)), ?_⟩
  refine held_row_at (fuel := 1) (is := [9, 10]) (.cons rfl (.cons rfl .nil)) (by kernel_rfl) (fun _ _ _ _ _ h => h) rfl (by kernel_rfl) (HF1.out.mono (S' := [sb, ab, wb]) (by simp)) ?_
  intro K hK
  repeat (go_big_quiet_step (fail))
  refine wpQuiet_nil (hK _ ?_)
  clear hK K
  refine held_call (fuel := 0) (i := 11) rfl (by kernel_rfl) ?_
  go_wp2_with fail
  refine onNormal_mk ⟨((HF1.out.mono (S' := [sb, ab, wb]) (by simp)).set ⟨sb, j * 4 + 1, none⟩ (.int .i64 0) (.inl (by simp))), ?_⟩
  refine held_end (by kernel_rfl) ?_
  clear hne hz0 hz1 hz2 hz3 hz4
  have HB := Lib.hid (H1.out.put j (t := 1) (by omega) 0)
  have HF2 := Lib.hid ((HF1.out.mono (S' := [lb, sb, bb, ab, wb]) (by simp)).set ⟨sb, j * 4 + 1, none⟩ (.int .i64 0) (.inl (by simp)))
  clear H1 HF1 j1 j2 j3 jd jz jy
  generalize (w1.setCell ⟨sb, j * 4 + 1, none⟩ (.int .i64 0)) = W2 at *
  have k0 : W2.cell? ⟨sb, j * 4, none⟩ = some (.int .i64 12) := by rw [← H0.out]; exact (HB.out.p0 HJ.out).trans (by unfold spPut; simp)
  have kt : W2.cell? ⟨sb, j * 4 + 1, none⟩ = some (.int .i64 0) := (HB.out.p HJ.out (t := 1) (by omega)).trans (by unfold spPut; simp)
  have k3 := (HB.out.p HJ.out (t := 3) (by omega)).trans (show some (Value.int .i64 (spPut S j 1 0 j 3)) = some (.int .i64 (S j 3)) by unfold spPut; simp)
  have m2 := HB.out.box.cell (i := 2) rfl
  have m3 := HB.out.box.cell (i := 3) rfl
  go_wp2_with fail
  obtain ⟨W3, rfl⟩ : ∃ W, W = W2 := ⟨_, rfl⟩
  have hne : Nonempty (HW (fun wx => Frm [] W3 wx)) := ⟨⟨W3, Frm.refl _ _⟩⟩
  have hzt : ∀ q : HW (fun wx => Frm [] W3 wx), q.w.cell? ⟨sb, j * 4 + 1, none⟩ = some (.int .i64 0) := fun q => q.h.cell kt (by simp)
  have hz3 : ∀ q : HW (fun wx => Frm [] W3 wx), q.w.cell? ⟨sb, j * 4 + 3, none⟩ = some (.int .i64 (S j 3)) := fun q => q.h.cell k3 (by simp)
  have hzb : ∀ q : HW (fun wx => Frm [] W3 wx), q.w.cell? ⟨lb, 2, none⟩ = some (.int .i64 bud) := fun q => q.h.cell m2 (by simp)
  refine held_begin (S := fun wx => Frm [] W3 wx) (by kernel_rfl) ?_
  refine held_row_at (fuel := 0) (is := [0, 1, 2, 3, 4, 5, 6, 7, 8, 9, 10, 11, 12, 13, 14, 15, 16, 17]) (.cons rfl (.cons rfl (.cons rfl (.cons rfl (.cons rfl (.cons rfl (.cons rfl (.cons rfl (.cons rfl (.cons rfl (.cons rfl (.cons rfl (.cons rfl (.cons rfl (.cons rfl (.cons rfl (.cons rfl (.cons rfl .nil)))))))))))))))))) (by kernel_rfl) (fun _ _ _ _ _ h => h) rfl (by kernel_rfl) (Frm.refl _ _).drew1 ?_
  intro K hK
  repeat (go_big_quiet_step (fail))
  refine wpQuiet_nil (hK _ ?_)
  clear hK K
  refine held_end (by kernel_rfl) ?_
  have HB4 := Lib.hid (HB.out.frm (Frm.refl [] _).drew1 (by simp))
  have HF4 := Lib.hid HF2.out.drew1
  clear hne hzt hz3 hzb HB HF2 kt k3 k0 m2 m3
  generalize W3.drew = W4 at *
  have m3 := HB4.out.box.cell (i := 3) rfl
  obtain ⟨HB, rfl⟩ : ∃ H, H = HB4 := ⟨_, rfl⟩
  obtain ⟨HF2, rfl⟩ : ∃ H, H = HF4 := ⟨_, rfl⟩
  go_wp2_with fail
  refine (bTake_any HB.out.bn).mono ?_
  rintro e w3 ⟨rfl, hB, hF⟩
  have HM := Lib.hid (HB.out.bn_ (hF.mono (by simp)) hB (HB.out.ar.frm hF (by simp; have := HN.out; omega) (by simp; have := HN.out; omega)))
  have HF3 := Lib.hid (HF2.out.trans (hF.mono (by simp)))
  clear hB hF
  go_wp2
  go_ret
  exact ⟨rfl, HM.out, HF3.out⟩
set_option maxRecDepth 100000 in
theorem m_12c (h : MAt w lb sb bb ab wb tail first n bud A B d S) {j : Nat} (hj : j < n) (h0 : S j 0 = 12) (hg : ¬ A.get (mNext tail ((j : Int) + 1)) = 0) (hm : (S j 3).tmod (bud + 1) = 0) : Calls Try.prog 51 #[.pointer (some ⟨lb, 0, none⟩), .pointer (some ⟨sb, j * 4, none⟩), .int .i64 ((j : Int) + 1)] w fun e w' => e = .returned (.int .i64 13) ∧
    MAt w' lb sb bb ab wb tail first n bud (A.load (mNext tail ((j : Int) + 1))) (bTakeB B) (d) (spPut S j 1 (A.get (mNext tail ((j : Int) + 1)))) ∧ Frm [lb, sb, bb, ab, wb] w w' := by
  have HN := Lib.hid h.ne
  have HJ := Lib.hid hj
  have hn32 := h.n32
  have htb := h.tb
  have c0 : w.cell? ⟨sb, j * 4, none⟩ = some (.int .i64 12) := by rw [← h0]; exact h.p0 hj
  have c1 := h.p hj (t := 1) (by omega)
  have c2 := h.p hj (t := 2) (by omega)
  have c3 := h.p hj (t := 3) (by omega)
  have l0 := h.box.cell (i := 0) rfl
  have l1 := h.box.cell (i := 1) rfl
  have l2 := h.box.cell (i := 2) rfl
  have l3 := h.box.cell (i := 3) rfl
  have H := Lib.hid h
  have H0 := Lib.hid h0
  have HNX := Lib.hid (fun (W : World) (hf : Frm [] w W) (y : Int) => mNext_any (h.frm hf (by simp)) y)
  have HWT := Lib.hid (fun (W : World) (hf : Frm [] w W) (y : Int) => mWait_any (h.frm hf (by simp)) y)
  generalize hv : A.get (mNext tail ((j : Int) + 1)) = v at hg ⊢
  have HG := Lib.hid hv
  clear hv
  have e0 : (v == 0) = false := by simpa using hg
  have e1 : (v != 0) = true := by simpa using hg
  clear hg
  have hb0 := h.b0
  have hb1 := h.b1
  have e2 : ((S j 3).tmod (bud + 1) == 0) = true := by simpa using hm
  have e3 : ((S j 3).tmod (bud + 1) != 0) = false := by simpa using hm
  clear hm
  have hne : Nonempty (HW (fun wx => Frm [sb, ab, wb] w wx)) := ⟨⟨w, Frm.refl _ _⟩⟩
  have hz0 : ∀ q : HW (fun wx => Frm [sb, ab, wb] w wx), q.w.cell? ⟨lb, 0, none⟩ = some (.pointer (some ⟨ab, 0, none⟩)) := fun q => (h.box.frm q.h (by simp; have := HN.out; omega)).cell (i := 0) rfl
  have hz1 : ∀ q : HW (fun wx => Frm [sb, ab, wb] w wx), q.w.cell? ⟨lb, 1, none⟩ = some (.int .i64 tail) := fun q => (h.box.frm q.h (by simp; have := HN.out; omega)).cell (i := 1) rfl
  have hz2 : ∀ q : HW (fun wx => Frm [sb, ab, wb] w wx), q.w.cell? ⟨lb, 2, none⟩ = some (.int .i64 bud) := fun q => (h.box.frm q.h (by simp; have := HN.out; omega)).cell (i := 2) rfl
  have hz3 : ∀ q : HW (fun wx => Frm [sb, ab, wb] w wx), q.w.cell? ⟨lb, 3, none⟩ = some (.pointer (some ⟨bb, 0, none⟩)) := fun q => (h.box.frm q.h (by simp; have := HN.out; omega)).cell (i := 3) rfl
  have hz4 : ∀ q : HW (fun wx => Frm [sb, ab, wb] w wx), q.w.cell? ⟨lb, 4, none⟩ = some (.int .i64 d) := fun q => (h.box.frm q.h (by simp; have := HN.out; omega)).cell (i := 4) rfl
  clear h h0 hj
  go_enter Try.func51, Try.ntmps51
  go_wp2_with fail
  refine held_begin (S := fun wx => Frm [sb, ab, wb] w wx) (by kernel_rfl) ?_
  refine held_row_at (fuel := 5) (is := [0, 1, 2, 3, 4, 5, 6]) (.cons rfl (.cons rfl (.cons rfl (.cons rfl (.cons rfl (.cons rfl (.cons rfl .nil))))))) (by kernel_rfl) (fun _ _ _ _ _ h => h) rfl (by kernel_rfl) (Frm.refl _ _).drew1 ?_
  intro K hK
  repeat (go_big_quiet_step (fail))
  refine wpQuiet_nil (hK _ ?_)
  clear hK K
  refine held_call (fuel := 4) (i := 7) rfl (by kernel_rfl) ?_
  go_wp2_with fail
  refine (HNX.out _ ((Frm.refl _ _).drew1) _).mono ?_; rintro e w' ⟨rfl, rfl⟩
  go_wp2_with fail
  refine onNormal_mk ⟨(Frm.refl _ _).drew1, ?_⟩
  refine held_call (fuel := 3) (i := 8) rfl (by kernel_rfl) ?_
  go_wp2_with fail
  refine (Load_any (H.out.ar.frm (S := []) ((Frm.refl _ _).drew1) (by simp) (by simp)) (mNext tail ((j : Int) + 1))).mono ?_; rw [HG.out]; rintro e w1 ⟨rfl, hA, hF⟩; have HF1 := Lib.hid (((Frm.refl [ab, wb] w).drew1).trans hF); have H1 := Lib.hid (H.out.ar_ HF1.out hA); have j1 := H1.out.p HJ.out (t := 1) (by omega); have j2 := H1.out.p HJ.out (t := 2) (by omega); have j3 := H1.out.p HJ.out (t := 3) (by omega); have jd := H1.out.box.cell (i := 4) rfl; have jz := H1.out.row.frozen; have jy := H1.out.box.frozen; clear hA hF
  go_wp2_with fail
  refine onNormal_mk ⟨(HF1.out.mono (S' := [sb, ab, wb]) (by simp)), ?_⟩
  refine held_row_at (fuel := 1) (is := [9, 10]) (.cons rfl (.cons rfl .nil)) (by kernel_rfl) (fun _ _ _ _ _ h => h) rfl (by kernel_rfl) (HF1.out.mono (S' := [sb, ab, wb]) (by simp)) ?_
  intro K hK
  repeat (go_big_quiet_step (fail))
  refine wpQuiet_nil (hK _ ?_)
  clear hK K
  refine held_call (fuel := 0) (i := 11) rfl (by kernel_rfl) ?_
  go_wp2_with fail
  refine onNormal_mk ⟨((HF1.out.mono (S' := [sb, ab, wb]) (by simp)).set ⟨sb, j * 4 + 1, none⟩ (.int .i64 v) (.inl (by simp))), ?_⟩
  refine held_end (by kernel_rfl) ?_
  clear hne hz0 hz1 hz2 hz3 hz4
  have HB := Lib.hid (H1.out.put j (t := 1) (by omega) v)
  have HF2 := Lib.hid ((HF1.out.mono (S' := [lb, sb, bb, ab, wb]) (by simp)).set ⟨sb, j * 4 + 1, none⟩ (.int .i64 v) (.inl (by simp)))
  clear H1 HF1 j1 j2 j3 jd jz jy
  generalize (w1.setCell ⟨sb, j * 4 + 1, none⟩ (.int .i64 v)) = W2 at *
  have k0 : W2.cell? ⟨sb, j * 4, none⟩ = some (.int .i64 12) := by rw [← H0.out]; exact (HB.out.p0 HJ.out).trans (by unfold spPut; simp)
  have kt : W2.cell? ⟨sb, j * 4 + 1, none⟩ = some (.int .i64 v) := (HB.out.p HJ.out (t := 1) (by omega)).trans (by unfold spPut; simp)
  have k3 := (HB.out.p HJ.out (t := 3) (by omega)).trans (show some (Value.int .i64 (spPut S j 1 v j 3)) = some (.int .i64 (S j 3)) by unfold spPut; simp)
  have m2 := HB.out.box.cell (i := 2) rfl
  have m3 := HB.out.box.cell (i := 3) rfl
  go_wp2_with fail
  obtain ⟨W3, rfl⟩ : ∃ W, W = W2 := ⟨_, rfl⟩
  have hne : Nonempty (HW (fun wx => Frm [] W3 wx)) := ⟨⟨W3, Frm.refl _ _⟩⟩
  have hzt : ∀ q : HW (fun wx => Frm [] W3 wx), q.w.cell? ⟨sb, j * 4 + 1, none⟩ = some (.int .i64 v) := fun q => q.h.cell kt (by simp)
  have hz3 : ∀ q : HW (fun wx => Frm [] W3 wx), q.w.cell? ⟨sb, j * 4 + 3, none⟩ = some (.int .i64 (S j 3)) := fun q => q.h.cell k3 (by simp)
  have hzb : ∀ q : HW (fun wx => Frm [] W3 wx), q.w.cell? ⟨lb, 2, none⟩ = some (.int .i64 bud) := fun q => q.h.cell m2 (by simp)
  refine held_begin (S := fun wx => Frm [] W3 wx) (by kernel_rfl) ?_
  refine held_row_at (fuel := 0) (is := [0, 1, 2, 3, 4, 5, 6, 7, 8, 9, 10, 11, 12, 13, 14, 15, 16, 17]) (.cons rfl (.cons rfl (.cons rfl (.cons rfl (.cons rfl (.cons rfl (.cons rfl (.cons rfl (.cons rfl (.cons rfl (.cons rfl (.cons rfl (.cons rfl (.cons rfl (.cons rfl (.cons rfl (.cons rfl (.cons rfl .nil)))))))))))))))))) (by kernel_rfl) (fun _ _ _ _ _ h => h) rfl (by kernel_rfl) (Frm.refl _ _).drew1 ?_
  intro K hK
  repeat (go_big_quiet_step (fail))
  refine wpQuiet_nil (hK _ ?_)
  clear hK K
  refine held_end (by kernel_rfl) ?_
  have HB4 := Lib.hid (HB.out.frm (Frm.refl [] _).drew1 (by simp))
  have HF4 := Lib.hid HF2.out.drew1
  clear hne hzt hz3 hzb HB HF2 kt k3 k0 m2 m3
  generalize W3.drew = W4 at *
  have m3 := HB4.out.box.cell (i := 3) rfl
  obtain ⟨HB, rfl⟩ : ∃ H, H = HB4 := ⟨_, rfl⟩
  obtain ⟨HF2, rfl⟩ : ∃ H, H = HF4 := ⟨_, rfl⟩
  go_wp2_with fail
  refine (bTake_any HB.out.bn).mono ?_
  rintro e w3 ⟨rfl, hB, hF⟩
  have HM := Lib.hid (HB.out.bn_ (hF.mono (by simp)) hB (HB.out.ar.frm hF (by simp; have := HN.out; omega) (by simp; have := HN.out; omega)))
  have HF3 := Lib.hid (HF2.out.trans (hF.mono (by simp)))
  clear hB hF
  go_wp2
  go_ret
  exact ⟨rfl, HM.out, HF3.out⟩
end
end Go.Proofs.Ytacogelejffbhaa
