/- A gauge, a drain over it, and what they count: the world of the laws DrainWaits and DrainSure. -/
import Derived.Test.YtakhhbemnodahaaDrainAwake
import Derived.Test.YtakhhbemnodahaaCountN
namespace Go.Proofs.Ytakhhbemnodahaa
open Go.RowKit

theorem DR.step_idle {D : DR} (h : D.busy = false) (vo vi : Int) : D.step vo vi = D ∧ D.stepR vi = false := by
  unfold DR.step DR.stepR; rw [h]; exact ⟨rfl, rfl⟩
theorem DR.step_first (a b : Int) (o : Bool) (out : Int) (c : Bool) (vo vi : Int) : DR.step ⟨a, b, o, true, false, out, c⟩ vo vi = ⟨a, b, o, true, true, vo, c⟩ ∧ DR.stepR ⟨a, b, o, true, false, out, c⟩ vi = false := ⟨rfl, rfl⟩
theorem DR.step_ne (a b out : Int) (c : Bool) {vo vi : Int} (h : vi ≠ out) : DR.step ⟨a, b, false, true, true, out, c⟩ vo vi = ⟨a, b, false, true, false, out, c⟩ ∧ DR.stepR ⟨a, b, false, true, true, out, c⟩ vi = false := by
  constructor
  · unfold DR.step DR.last; simp only [if_true, if_neg h]; rfl
  · unfold DR.stepR DR.lastR; simp only [if_neg h]; rfl
theorem DR.step_on {a s : Nat} {vo out : Int} {c : Bool} (ha : a < 1000) (h : a + 1 ≠ s) : DR.step ⟨a, s, false, true, true, out, c⟩ vo out = ⟨(a + 1 : Nat), s, false, true, false, out, c⟩ ∧ DR.stepR ⟨a, s, false, true, true, out, c⟩ out = false := by
  have hw : wrap64 ((a : Int) + 1) = ((a + 1 : Nat) : Int) := by unfold wrap64; omega
  have hn : ¬ ((a + 1 : Nat) : Int) = (s : Int) := by omega
  constructor
  · unfold DR.step DR.last; simp only [if_true, hw, if_neg hn]
  · unfold DR.stepR DR.lastR; simp only [if_true, hw, decide_eq_false hn]; rfl
theorem DR.step_end {a s : Nat} {vo out : Int} {c : Bool} (ha : a < 1000) (h : a + 1 = s) : DR.step ⟨a, s, false, true, true, out, c⟩ vo out = ⟨s, s, false, false, false, out, true⟩ ∧ DR.stepR ⟨a, s, false, true, true, out, c⟩ out = true := by
  have hw : wrap64 ((a : Int) + 1) = (s : Int) := by unfold wrap64; omega
  constructor
  · unfold DR.step DR.last DR.over; simp only [if_true, hw]
  · unfold DR.stepR DR.lastR; simp only [if_true, hw]; simp

structure DWI (w0 w : World) (wb ab gb db s : Nat) (A : AR) (e x : Nat → Nat) (n : Nat) (D : DR) : Prop where
  ar : ArAt w ab wb A
  gg : GgAt w gb ab 1 s
  dr : DrAt w db (some ⟨gb, 0, none⟩) D
  cnt : CntN A s e x n
  frm : Frm [] w0 w
  o0 : w0.heap.size ≤ wb
  o1 : wb < ab
  o2 : ab < gb
  o3 : gb < db

section
variable {w0 w w1 : World} {wb ab gb db s n : Nat} {A : AR} {e x : Nat → Nat} {D : DR}
theorem DWI.kept (h : DWI w0 w wb ab gb db s A e x n D) (hf : Frm [] w w1) : DWI w0 w1 wb ab gb db s A e x n D :=
  { h with ar := h.ar.frm hf (by simp) (by simp), gg := h.gg.frm hf (by simp), dr := h.dr.frm hf (by simp), frm := h.frm.trans hf }

theorem DWI.enter (h : DWI w0 w wb ab gb db s A e x n D) (hn : n ≤ 1000) {k : Nat} (hk : k < s) : Calls Try.prog 19 #[.pointer (some ⟨gb, 0, none⟩), .int .i64 k] w fun r w' => r = .returned (.tuple #[]) ∧ ∃ B, DWI w0 w' wb ab gb db s B (upN e k) x (n + 1) D := by
  have := h.o0; have := h.o1; have := h.o2; have := h.o3
  refine (gEnter_any h.gg h.ar k).mono fun r w' ⟨h1, h2, h3⟩ => ⟨h1, _, { h with ar := h2, gg := h.gg.frm h3 (by simp; omega), dr := h.dr.frm h3 (by simp; omega), cnt := h.cnt.enter hn hk, frm := h.frm.widen h3 (by simp; omega) }⟩
theorem DWI.exit (h : DWI w0 w wb ab gb db s A e x n D) (hn : n ≤ 1000) {k : Nat} (hk : k < s) : Calls Try.prog 21 #[.pointer (some ⟨gb, 0, none⟩), .int .i64 k] w fun r w' => r = .returned (.tuple #[]) ∧ ∃ B, DWI w0 w' wb ab gb db s B e (upN x k) (n + 1) D := by
  have := h.o0; have := h.o1; have := h.o2; have := h.o3
  refine (gExit_any h.gg h.ar k).mono fun r w' ⟨h1, h2, h3⟩ => ⟨h1, _, { h with ar := h2, gg := h.gg.frm h3 (by simp; omega), dr := h.dr.frm h3 (by simp; omega), cnt := h.cnt.exit hn hk, frm := h.frm.widen h3 (by simp; omega) }⟩
theorem DWI.begin (h : DWI w0 w wb ab gb db s A e x n D) (a b : Int) (o : Bool) : Calls Try.prog 43 #[.pointer (some ⟨db, 0, none⟩), .int .i64 a, .int .i64 b, .bool o] w fun r w' => r = .returned (.bool (decide (b ≤ a))) ∧ DWI w0 w' wb ab gb db s A e x n (D.begins a b o) := by
  have := h.o0; have := h.o1; have := h.o2; have := h.o3
  refine (dBegin_any h.dr a b o).mono fun r w' ⟨h1, h2, h3⟩ => ⟨h1, { h with ar := h.ar.frm h3 (by simp; omega) (by simp; omega), gg := h.gg.frm h3 (by simp; omega), dr := h2, frm := h.frm.widen h3 (by simp; omega) }⟩
/-- a step at node a -/
theorem DWI.step (h : DWI w0 w wb ab gb db s A e x n D) {a : Nat} (ha : D.at_ = (a : Int)) (hlt : a < s) : Calls Try.prog 44 #[.pointer (some ⟨db, 0, none⟩)] w fun r w' => r = .returned (.bool (D.stepR (e a))) ∧ ∃ B, DWI w0 w' wb ab gb db s B e x n (D.step (x a) (e a)) := by
  have := h.o0; have := h.o1; have := h.o2; have := h.o3
  obtain ⟨g1, g2⟩ := h.cnt.get hlt
  have hs := dStep_any h.dr h.gg h.ar (by omega)
  rw [ha, g1, g2] at hs
  refine hs.mono fun r w' ⟨h1, h2, h3, h4, h5⟩ => ⟨h1, _, { h with ar := h3, gg := h4, dr := h2, cnt := ?_, frm := h.frm.widen h5 (by simp; omega) }⟩
  unfold AR.dStep
  split
  · exact h.cnt.load _ _ _ _
  · exact h.cnt
end

end Go.Proofs.Ytakhhbemnodahaa
