/- The contracts of package bench. (Printed by gen_bench.py.) -/
import Derived.Test.YtacogelejffbhaaArenaLoad
import Derived.Test.YtacogelejffbhaaArenaStore
import Derived.Test.YtacogelejffbhaaArenaTake
import Derived.Test.YtacogelejffbhaaArenaNew
import Derived.Test.YtacogelejffbhaaSeg
namespace Go.Proofs.Ytacogelejffbhaa
open Go.RowKit

structure BK where
  step : Int
  x : Int
  n : Int
  got : Int
structure BnAt (w : World) (bb ab first things : Nat) (B : BK) : Prop where
  box : HAt w bb [.pointer (some ⟨ab, 0, none⟩), .int .i64 first, .int .i64 things, .int .i64 B.step, .int .i64 B.x, .int .i64 B.n, .int .i64 B.got] 37
  t1 : 1 ≤ things
  t32 : things ≤ 32
  fb : first ≤ 4096
  st : 0 ≤ B.step ∧ B.step ≤ 8
theorem BnAt.frm {w w' : World} {bb ab first things : Nat} {B : BK} (h : BnAt w bb ab first things B) {Z : List Nat} (hf : Frm Z w w') (h1 : bb ∉ Z) : BnAt w' bb ab first things B := { h with box := h.box.frm hf h1 }
section
variable {w : World} {bb ab first things : Nat} {st x n got : Int}
theorem BnAt.set3 (h : BnAt w bb ab first things ⟨st, x, n, got⟩) (v : Int) (hv : 0 ≤ v ∧ v ≤ 8) : BnAt (w.setCell ⟨bb, 3, none⟩ (.int .i64 v)) bb ab first things ⟨v, x, n, got⟩ := { h with box := h.box.set 3 (.int .i64 v), st := hv }
theorem BnAt.set4 (h : BnAt w bb ab first things ⟨st, x, n, got⟩) (v : Int) : BnAt (w.setCell ⟨bb, 4, none⟩ (.int .i64 v)) bb ab first things ⟨st, v, n, got⟩ := { h with box := h.box.set 4 (.int .i64 v) }
theorem BnAt.set5 (h : BnAt w bb ab first things ⟨st, x, n, got⟩) (v : Int) : BnAt (w.setCell ⟨bb, 5, none⟩ (.int .i64 v)) bb ab first things ⟨st, x, v, got⟩ := { h with box := h.box.set 5 (.int .i64 v) }
theorem BnAt.set6 (h : BnAt w bb ab first things ⟨st, x, n, got⟩) (v : Int) : BnAt (w.setCell ⟨bb, 6, none⟩ (.int .i64 v)) bb ab first things ⟨st, x, n, v⟩ := { h with box := h.box.set 6 (.int .i64 v) }
end
def bLink (first : Nat) (x : Int) : Int := wrap64 ((first : Int) + 1 + x)
section
variable {w : World} {bb ab first things : Nat} {B : BK}
theorem Link_any (h : BnAt w bb ab first things B) (y : Int) : Calls Try.prog 55 #[.pointer (some ⟨bb, 0, none⟩), .int .i64 y] w fun e w' => e = .returned (.int .i64 (bLink first y)) ∧ w = w' := by
  have c1 := h.box.cell (i := 1) rfl
  have hfb := h.fb
  clear h
  unfold bLink
  go_enter Try.func55, Try.ntmps55
  go_wp2
  go_ret
  exact ⟨rfl, rfl⟩
theorem Busy_any (h : BnAt w bb ab first things B) : Calls Try.prog 18 #[.pointer (some ⟨bb, 0, none⟩)] w fun e w' => e = .returned (.bool (B.step != 0)) ∧ w = w' := by
  have c3 := h.box.cell (i := 3) rfl
  clear h
  generalize B.step = st at *
  go_enter Try.func18, Try.ntmps18
  go_wp2
  go_ret
  exact ⟨rfl, rfl⟩
theorem Got_any (h : BnAt w bb ab first things B) : Calls Try.prog 16 #[.pointer (some ⟨bb, 0, none⟩)] w fun e w' => e = .returned (.int .i64 B.got) ∧ w = w' := by
  have c6 := h.box.cell (i := 6) rfl
  clear h
  go_enter Try.func16, Try.ntmps16
  go_wp2
  go_ret
  exact ⟨rfl, rfl⟩
end
section
variable {w : World} {bb ab wb first things : Nat} {A : AR} {st x n got : Int}
theorem over_any (h : BnAt w bb ab first things ⟨st, x, n, got⟩) : Calls Try.prog 57 #[.pointer (some ⟨bb, 0, none⟩)] w fun e w' => e = .returned (.bool true) ∧ BnAt w' bb ab first things ⟨0, x, n, got⟩ ∧ Frm [bb] w w' := by
  have hz := h.box.frozen
  have c3 := h.box.cell (i := 3) rfl
  have H := Lib.hid (h.set3 0 (by omega))
  clear h
  go_enter Try.func57, Try.ntmps57
  go_wp2
  go_ret
  exact ⟨rfl, H.out, (Frm.refl [bb] w).set ⟨bb, 3, none⟩ _ (.inl (by simp))⟩
theorem bput1 (h : BnAt w bb ab first things ⟨1, x, n, got⟩) (hA : ArAt w ab wb A) (hne : bb ≠ ab ∧ bb ≠ wb) : Calls Try.prog 37 #[.pointer (some ⟨bb, 0, none⟩)] w fun e w' => e = .returned (.bool false) ∧
    BnAt w' bb ab first things ⟨2, x, n, got⟩ ∧ ArAt w' ab wb (A.store (bLink first x) 0) ∧ Frm [bb, ab, wb] w w' := by
  obtain ⟨n1, n2⟩ := hne
  have hfb := h.fb
  have c3 := h.box.cell (i := 3) rfl
  have c4 := h.box.cell (i := 4) rfl
  have c5 := h.box.cell (i := 5) rfl
  have c1 := h.box.cell (i := 1) rfl
  have H := Lib.hid h
  have HN := Lib.hid (And.intro n1 n2)
  have hne : Nonempty (HW (fun wx => Frm [ab, wb] w wx)) := ⟨⟨w, Frm.refl _ _⟩⟩
  have hz0 : ∀ q : HW (fun wx => Frm [ab, wb] w wx), q.w.cell? ⟨bb, 0, none⟩ = some (.pointer (some ⟨ab, 0, none⟩)) := fun q => (h.box.frm q.h (by simp; omega)).cell (i := 0) rfl
  have hz1 : ∀ q : HW (fun wx => Frm [ab, wb] w wx), q.w.cell? ⟨bb, 1, none⟩ = some (.int .i64 first) := fun q => (h.box.frm q.h (by simp; omega)).cell (i := 1) rfl
  have hz4 : ∀ q : HW (fun wx => Frm [ab, wb] w wx), q.w.cell? ⟨bb, 4, none⟩ = some (.int .i64 x) := fun q => (h.box.frm q.h (by simp; omega)).cell (i := 4) rfl
  have hz5 : ∀ q : HW (fun wx => Frm [ab, wb] w wx), q.w.cell? ⟨bb, 5, none⟩ = some (.int .i64 n) := fun q => (h.box.frm q.h (by simp; omega)).cell (i := 5) rfl
  have HLK := Lib.hid (fun (W : World) (hf : Frm [] w W) (y : Int) => Link_any (h.frm hf (by simp)) y)
  have HA := Lib.hid hA
  clear h hA n1 n2
  go_enter Try.func37, Try.ntmps37
  go_wp2_with fail
  refine held_begin (S := fun wx => Frm [ab, wb] w wx) (by kernel_rfl) ?_
  refine held_row_at (fuel := 2) (is := [0, 1, 2, 3, 4, 5, 6, 7, 8]) (.cons rfl (.cons rfl (.cons rfl (.cons rfl (.cons rfl (.cons rfl (.cons rfl (.cons rfl (.cons rfl .nil))))))))) (by kernel_rfl) (fun _ _ _ _ _ h => h) rfl (by kernel_rfl) (Frm.refl _ _).drew1 ?_
  intro K hK
  repeat (go_big_quiet_step (fail))
  refine wpQuiet_nil (hK _ ?_)
  clear hK K
  refine held_call (fuel := 1) (i := 9) rfl (by kernel_rfl) ?_
  go_wp2_with fail
  refine (HLK.out _ ((Frm.refl _ _).drew1) _).mono ?_; rintro e w' ⟨rfl, rfl⟩
  go_wp2_with fail
  refine onNormal_mk ⟨(Frm.refl _ _).drew1, ?_⟩
  refine held_call (fuel := 0) (i := 10) rfl (by kernel_rfl) ?_
  go_wp2_with fail
  refine (Store_any (HA.out.frm (S := []) ((Frm.refl _ w).drew1) (by simp) (by simp)) (bLink first x) (0)).mono ?_; rintro e w1 ⟨rfl, hA, hF⟩; have HA1 := Lib.hid hA; have HF1 := Lib.hid (((Frm.refl [ab, wb] w).drew1).trans hF); have H1 := Lib.hid (H.out.frm HF1.out (by simp; have := HN.out; omega)); have k3 := H1.out.box.cell (i := 3) rfl; have k4 := H1.out.box.cell (i := 4) rfl; have k5 := H1.out.box.cell (i := 5) rfl; have kz := H1.out.box.frozen; clear hA hF
  go_wp2_with fail
  refine onNormal_mk ⟨HF1.out, ?_⟩
  refine held_end (by kernel_rfl) ?_
  clear hne hz0 hz1 hz4 hz5
  have hB2 := (H1.out).set3 (2) (by omega)
  have hA2 := (HA1.out).frm ((Frm.refl [bb] _).set ⟨bb, 3, none⟩ (.int .i64 2) (.inl (by simp))) (by simp; have := HN.out; omega) (by simp; have := HN.out; omega)
  have hF2 := (HF1.out.mono (S' := [bb, ab, wb]) (by simp)).set ⟨bb, 3, none⟩ (.int .i64 2) (.inl (by simp))
  have HR := Lib.hid (And.intro hB2 (And.intro hA2 hF2))
  clear hB2 hA2 hF2
  go_wp2
  go_ret
  exact ⟨rfl, HR.out.1, HR.out.2.1, HR.out.2.2⟩
theorem bput2 (h : BnAt w bb ab first things ⟨2, x, n, got⟩) (hA : ArAt w ab wb A) (hne : bb ≠ ab ∧ bb ≠ wb) : Calls Try.prog 37 #[.pointer (some ⟨bb, 0, none⟩)] w fun e w' => e = .returned (.bool false) ∧
    BnAt w' bb ab first things ⟨3, x, A.get (first + 1), got⟩ ∧ ArAt w' ab wb (A.load (first + 1)) ∧ Frm [bb, ab, wb] w w' := by
  obtain ⟨n1, n2⟩ := hne
  have hfb := h.fb
  have c3 := h.box.cell (i := 3) rfl
  have c4 := h.box.cell (i := 4) rfl
  have c5 := h.box.cell (i := 5) rfl
  have c1 := h.box.cell (i := 1) rfl
  have H := Lib.hid h
  have HN := Lib.hid (And.intro n1 n2)
  have hne : Nonempty (HW (fun wx => Frm [bb, ab, wb] w wx ∧ wx.cell? ⟨bb, 0, none⟩ = some (.pointer (some ⟨ab, 0, none⟩)) ∧ wx.cell? ⟨bb, 1, none⟩ = some (.int .i64 first) ∧ wx.cell? ⟨bb, 4, none⟩ = some (.int .i64 x))) := ⟨⟨w, ⟨Frm.refl _ _, h.box.cell (i := 0) rfl, h.box.cell (i := 1) rfl, h.box.cell (i := 4) rfl⟩⟩⟩
  have hz0 : ∀ q : HW (fun wx => Frm [bb, ab, wb] w wx ∧ wx.cell? ⟨bb, 0, none⟩ = some (.pointer (some ⟨ab, 0, none⟩)) ∧ wx.cell? ⟨bb, 1, none⟩ = some (.int .i64 first) ∧ wx.cell? ⟨bb, 4, none⟩ = some (.int .i64 x)), q.w.cell? ⟨bb, 0, none⟩ = some (.pointer (some ⟨ab, 0, none⟩)) := fun q => q.h.2.1
  have hz1 : ∀ q : HW (fun wx => Frm [bb, ab, wb] w wx ∧ wx.cell? ⟨bb, 0, none⟩ = some (.pointer (some ⟨ab, 0, none⟩)) ∧ wx.cell? ⟨bb, 1, none⟩ = some (.int .i64 first) ∧ wx.cell? ⟨bb, 4, none⟩ = some (.int .i64 x)), q.w.cell? ⟨bb, 1, none⟩ = some (.int .i64 first) := fun q => q.h.2.2.1
  have hz4 : ∀ q : HW (fun wx => Frm [bb, ab, wb] w wx ∧ wx.cell? ⟨bb, 0, none⟩ = some (.pointer (some ⟨ab, 0, none⟩)) ∧ wx.cell? ⟨bb, 1, none⟩ = some (.int .i64 first) ∧ wx.cell? ⟨bb, 4, none⟩ = some (.int .i64 x)), q.w.cell? ⟨bb, 4, none⟩ = some (.int .i64 x) := fun q => q.h.2.2.2
  have HLK := Lib.hid (fun (W : World) (hf : Frm [] w W) (y : Int) => Link_any (h.frm hf (by simp)) y)
  have HA := Lib.hid hA
  clear h hA n1 n2
  go_enter Try.func37, Try.ntmps37
  go_wp2_with fail
  refine held_begin (S := fun wx => Frm [bb, ab, wb] w wx ∧ wx.cell? ⟨bb, 0, none⟩ = some (.pointer (some ⟨ab, 0, none⟩)) ∧ wx.cell? ⟨bb, 1, none⟩ = some (.int .i64 first) ∧ wx.cell? ⟨bb, 4, none⟩ = some (.int .i64 x)) (by kernel_rfl) ?_
  refine held_row_at (fuel := 4) (is := [0, 1, 2, 3, 4, 5, 6, 7, 8, 9]) (.cons rfl (.cons rfl (.cons rfl (.cons rfl (.cons rfl (.cons rfl (.cons rfl (.cons rfl (.cons rfl (.cons rfl .nil)))))))))) (by kernel_rfl) (fun _ _ _ _ _ h => h) rfl (by kernel_rfl) ⟨(Frm.refl _ _).drew1, H.out.box.drew1.cell (i := 0) rfl, H.out.box.drew1.cell (i := 1) rfl, H.out.box.drew1.cell (i := 4) rfl⟩ ?_
  intro K hK
  repeat (go_big_quiet_step (fail))
  refine wpQuiet_nil (hK _ ?_)
  clear hK K
  refine held_call (fuel := 3) (i := 10) rfl (by kernel_rfl) ?_
  go_wp2_with fail
  refine (Load_any (HA.out.frm (S := []) ((Frm.refl _ w).drew1) (by simp) (by simp)) (first + 1)).mono ?_; rintro e w1 ⟨rfl, hA, hF⟩; have HA1 := Lib.hid hA; have HF1 := Lib.hid (((Frm.refl [ab, wb] w).drew1).trans hF); have H1 := Lib.hid (H.out.frm HF1.out (by simp; have := HN.out; omega)); have k3 := H1.out.box.cell (i := 3) rfl; have k4 := H1.out.box.cell (i := 4) rfl; have k5 := H1.out.box.cell (i := 5) rfl; have kz := H1.out.box.frozen; clear hA hF
  go_wp2_with fail
  refine onNormal_mk ⟨⟨HF1.out.mono (by simp), H1.out.box.cell (i := 0) rfl, H1.out.box.cell (i := 1) rfl, H1.out.box.cell (i := 4) rfl⟩, ?_⟩
  refine held_row_at (fuel := 1) (is := [11, 12]) (.cons rfl (.cons rfl .nil)) (by kernel_rfl) (fun _ _ _ _ _ h => h) rfl (by kernel_rfl) ⟨HF1.out.mono (by simp), H1.out.box.cell (i := 0) rfl, H1.out.box.cell (i := 1) rfl, H1.out.box.cell (i := 4) rfl⟩ ?_
  intro K hK
  repeat (go_big_quiet_step (fail))
  refine wpQuiet_nil (hK _ ?_)
  clear hK K
  refine held_call (fuel := 0) (i := 13) rfl (by kernel_rfl) ?_
  go_wp2_with fail
  refine onNormal_mk ⟨⟨(HF1.out.mono (S' := [bb, ab, wb]) (by simp)).set ⟨bb, 5, none⟩ (.int .i64 (A.get (first + 1))) (.inl (by simp)), (H1.out.box.set 5 (.int .i64 (A.get (first + 1)))).cell (i := 0) rfl, (H1.out.box.set 5 (.int .i64 (A.get (first + 1)))).cell (i := 1) rfl, (H1.out.box.set 5 (.int .i64 (A.get (first + 1)))).cell (i := 4) rfl⟩, ?_⟩
  refine held_end (by kernel_rfl) ?_
  have HB := Lib.hid ((H1.out).set5 ((A.get (first + 1))))
  have HA2 := Lib.hid ((HA1.out).frm ((Frm.refl [bb] _).set ⟨bb, 5, none⟩ (.int .i64 (A.get (first + 1))) (.inl (by simp))) (by simp; have := HN.out; omega) (by simp; have := HN.out; omega))
  have HF2 := Lib.hid ((HF1.out.mono (S' := [bb, ab, wb]) (by simp)).set ⟨bb, 5, none⟩ (.int .i64 (A.get (first + 1))) (.inl (by simp)))
  clear k3 k4 k5 kz
  generalize (w1.setCell ⟨bb, 5, none⟩ (.int .i64 (A.get (first + 1)))) = W2 at *
  have k3 := HB.out.box.cell (i := 3) rfl
  have k4 := HB.out.box.cell (i := 4) rfl
  have k5 := HB.out.box.cell (i := 5) rfl
  have kz := HB.out.box.frozen
  clear hne hz0 hz1 hz4
  have HR := Lib.hid (And.intro (HB.out.set3 3 (by omega)) (And.intro (HA2.out.frm ((Frm.refl [bb] _).set ⟨bb, 3, none⟩ (.int .i64 3) (.inl (by simp))) (by simp; have := HN.out; omega) (by simp; have := HN.out; omega)) (HF2.out.set ⟨bb, 3, none⟩ (.int .i64 3) (.inl (by simp)))))
  clear HB HA2 HF2 H1 HA1 HF1
  go_wp2
  go_ret
  exact ⟨rfl, HR.out.1, HR.out.2.1, HR.out.2.2⟩
theorem bput3a (h : BnAt w bb ab first things ⟨3, x, n, got⟩) (hA : ArAt w ab wb A) (hne : bb ≠ ab ∧ bb ≠ wb) (hg : ¬ n = 0) : Calls Try.prog 37 #[.pointer (some ⟨bb, 0, none⟩)] w fun e w' => e = .returned (.bool false) ∧
    BnAt w' bb ab first things ⟨4, x, n, got⟩ ∧ ArAt w' ab wb (A.store (bLink first n) x) ∧ Frm [bb, ab, wb] w w' := by
  obtain ⟨n1, n2⟩ := hne
  have e0 : (n != 0) = true := by simpa using hg
  clear hg
  have hfb := h.fb
  have c3 := h.box.cell (i := 3) rfl
  have c4 := h.box.cell (i := 4) rfl
  have c5 := h.box.cell (i := 5) rfl
  have c1 := h.box.cell (i := 1) rfl
  have H := Lib.hid h
  have HN := Lib.hid (And.intro n1 n2)
  have hne : Nonempty (HW (fun wx => Frm [ab, wb] w wx)) := ⟨⟨w, Frm.refl _ _⟩⟩
  have hz0 : ∀ q : HW (fun wx => Frm [ab, wb] w wx), q.w.cell? ⟨bb, 0, none⟩ = some (.pointer (some ⟨ab, 0, none⟩)) := fun q => (h.box.frm q.h (by simp; omega)).cell (i := 0) rfl
  have hz1 : ∀ q : HW (fun wx => Frm [ab, wb] w wx), q.w.cell? ⟨bb, 1, none⟩ = some (.int .i64 first) := fun q => (h.box.frm q.h (by simp; omega)).cell (i := 1) rfl
  have hz4 : ∀ q : HW (fun wx => Frm [ab, wb] w wx), q.w.cell? ⟨bb, 4, none⟩ = some (.int .i64 x) := fun q => (h.box.frm q.h (by simp; omega)).cell (i := 4) rfl
  have hz5 : ∀ q : HW (fun wx => Frm [ab, wb] w wx), q.w.cell? ⟨bb, 5, none⟩ = some (.int .i64 n) := fun q => (h.box.frm q.h (by simp; omega)).cell (i := 5) rfl
  have HLK := Lib.hid (fun (W : World) (hf : Frm [] w W) (y : Int) => Link_any (h.frm hf (by simp)) y)
  have HA := Lib.hid hA
  clear h hA n1 n2
  go_enter Try.func37, Try.ntmps37
  go_wp2_with fail
  refine (HLK.out _ (Frm.refl _ _) _).mono ?_
  rintro e w' ⟨rfl, rfl⟩
  go_wp2_with fail
  refine held_begin (S := fun wx => Frm [ab, wb] w wx) (by kernel_rfl) ?_
  refine held_row_at (fuel := 1) (is := [0, 1, 2, 3, 4, 5, 6, 7, 8]) (.cons rfl (.cons rfl (.cons rfl (.cons rfl (.cons rfl (.cons rfl (.cons rfl (.cons rfl (.cons rfl .nil))))))))) (by kernel_rfl) (fun _ _ _ _ _ h => h) rfl (by kernel_rfl) (Frm.refl _ _).drew1 ?_
  intro K hK
  repeat (go_big_quiet_step (fail))
  refine wpQuiet_nil (hK _ ?_)
  clear hK K
  refine held_call (fuel := 0) (i := 9) rfl (by kernel_rfl) ?_
  go_wp2_with fail
  refine (Store_any (HA.out.frm (S := []) ((Frm.refl _ w).drew1) (by simp) (by simp)) (bLink first n) (x)).mono ?_; rintro e w1 ⟨rfl, hA, hF⟩; have HA1 := Lib.hid hA; have HF1 := Lib.hid (((Frm.refl [ab, wb] w).drew1).trans hF); have H1 := Lib.hid (H.out.frm HF1.out (by simp; have := HN.out; omega)); have k3 := H1.out.box.cell (i := 3) rfl; have k4 := H1.out.box.cell (i := 4) rfl; have k5 := H1.out.box.cell (i := 5) rfl; have kz := H1.out.box.frozen; clear hA hF
  go_wp2_with fail
  refine onNormal_mk ⟨HF1.out, ?_⟩
  refine held_end (by kernel_rfl) ?_
  have HB := Lib.hid (H1.out)
  have HA2 := Lib.hid (HA1.out)
  have HF2 := Lib.hid (HF1.out.mono (S' := [bb, ab, wb]) (by simp))
  clear k3 k4 k5 kz
  have k3 := HB.out.box.cell (i := 3) rfl
  have k4 := HB.out.box.cell (i := 4) rfl
  have k5 := HB.out.box.cell (i := 5) rfl
  have kz := HB.out.box.frozen
  clear hne hz0 hz1 hz4 hz5
  have HR := Lib.hid (And.intro (HB.out.set3 4 (by omega)) (And.intro (HA2.out.frm ((Frm.refl [bb] _).set ⟨bb, 3, none⟩ (.int .i64 4) (.inl (by simp))) (by simp; have := HN.out; omega) (by simp; have := HN.out; omega)) (HF2.out.set ⟨bb, 3, none⟩ (.int .i64 4) (.inl (by simp)))))
  clear HB HA2 HF2 H1 HA1 HF1
  go_wp2
  go_ret
  exact ⟨rfl, HR.out.1, HR.out.2.1, HR.out.2.2⟩
theorem bput3b (h : BnAt w bb ab first things ⟨3, x, n, got⟩) (hA : ArAt w ab wb A) (hne : bb ≠ ab ∧ bb ≠ wb) (hg : n = 0) : Calls Try.prog 37 #[.pointer (some ⟨bb, 0, none⟩)] w fun e w' => e = .returned (.bool false) ∧
    BnAt w' bb ab first things ⟨4, x, n, got⟩ ∧ ArAt w' ab wb (A.store first x) ∧ Frm [bb, ab, wb] w w' := by
  obtain ⟨n1, n2⟩ := hne
  have e0 : (n != 0) = false := by simpa using hg
  clear hg
  have hfb := h.fb
  have c3 := h.box.cell (i := 3) rfl
  have c4 := h.box.cell (i := 4) rfl
  have c5 := h.box.cell (i := 5) rfl
  have c1 := h.box.cell (i := 1) rfl
  have H := Lib.hid h
  have HN := Lib.hid (And.intro n1 n2)
  have hne : Nonempty (HW (fun wx => Frm [ab, wb] w wx)) := ⟨⟨w, Frm.refl _ _⟩⟩
  have hz0 : ∀ q : HW (fun wx => Frm [ab, wb] w wx), q.w.cell? ⟨bb, 0, none⟩ = some (.pointer (some ⟨ab, 0, none⟩)) := fun q => (h.box.frm q.h (by simp; omega)).cell (i := 0) rfl
  have hz1 : ∀ q : HW (fun wx => Frm [ab, wb] w wx), q.w.cell? ⟨bb, 1, none⟩ = some (.int .i64 first) := fun q => (h.box.frm q.h (by simp; omega)).cell (i := 1) rfl
  have hz4 : ∀ q : HW (fun wx => Frm [ab, wb] w wx), q.w.cell? ⟨bb, 4, none⟩ = some (.int .i64 x) := fun q => (h.box.frm q.h (by simp; omega)).cell (i := 4) rfl
  have hz5 : ∀ q : HW (fun wx => Frm [ab, wb] w wx), q.w.cell? ⟨bb, 5, none⟩ = some (.int .i64 n) := fun q => (h.box.frm q.h (by simp; omega)).cell (i := 5) rfl
  have HLK := Lib.hid (fun (W : World) (hf : Frm [] w W) (y : Int) => Link_any (h.frm hf (by simp)) y)
  have HA := Lib.hid hA
  clear h hA n1 n2
  go_enter Try.func37, Try.ntmps37
  go_wp2_with fail
  refine held_begin (S := fun wx => Frm [ab, wb] w wx) (by kernel_rfl) ?_
  refine held_row_at (fuel := 1) (is := [0, 1, 2, 3, 4, 5, 6, 7, 8]) (.cons rfl (.cons rfl (.cons rfl (.cons rfl (.cons rfl (.cons rfl (.cons rfl (.cons rfl (.cons rfl .nil))))))))) (by kernel_rfl) (fun _ _ _ _ _ h => h) rfl (by kernel_rfl) (Frm.refl _ _).drew1 ?_
  intro K hK
  repeat (go_big_quiet_step (fail))
  refine wpQuiet_nil (hK _ ?_)
  clear hK K
  refine held_call (fuel := 0) (i := 9) rfl (by kernel_rfl) ?_
  go_wp2_with fail
  refine (Store_any (HA.out.frm (S := []) ((Frm.refl _ w).drew1) (by simp) (by simp)) (first) (x)).mono ?_; rintro e w1 ⟨rfl, hA, hF⟩; have HA1 := Lib.hid hA; have HF1 := Lib.hid (((Frm.refl [ab, wb] w).drew1).trans hF); have H1 := Lib.hid (H.out.frm HF1.out (by simp; have := HN.out; omega)); have k3 := H1.out.box.cell (i := 3) rfl; have k4 := H1.out.box.cell (i := 4) rfl; have k5 := H1.out.box.cell (i := 5) rfl; have kz := H1.out.box.frozen; clear hA hF
  go_wp2_with fail
  refine onNormal_mk ⟨HF1.out, ?_⟩
  refine held_end (by kernel_rfl) ?_
  have HB := Lib.hid (H1.out)
  have HA2 := Lib.hid (HA1.out)
  have HF2 := Lib.hid (HF1.out.mono (S' := [bb, ab, wb]) (by simp))
  clear k3 k4 k5 kz
  have k3 := HB.out.box.cell (i := 3) rfl
  have k4 := HB.out.box.cell (i := 4) rfl
  have k5 := HB.out.box.cell (i := 5) rfl
  have kz := HB.out.box.frozen
  clear hne hz0 hz1 hz4 hz5
  have HR := Lib.hid (And.intro (HB.out.set3 4 (by omega)) (And.intro (HA2.out.frm ((Frm.refl [bb] _).set ⟨bb, 3, none⟩ (.int .i64 4) (.inl (by simp))) (by simp; have := HN.out; omega) (by simp; have := HN.out; omega)) (HF2.out.set ⟨bb, 3, none⟩ (.int .i64 4) (.inl (by simp)))))
  clear HB HA2 HF2 H1 HA1 HF1
  go_wp2
  go_ret
  exact ⟨rfl, HR.out.1, HR.out.2.1, HR.out.2.2⟩
theorem bput4 (h : BnAt w bb ab first things ⟨4, x, n, got⟩) (hA : ArAt w ab wb A) (hne : bb ≠ ab ∧ bb ≠ wb) : Calls Try.prog 37 #[.pointer (some ⟨bb, 0, none⟩)] w fun e w' => e = .returned (.bool true) ∧
    BnAt w' bb ab first things ⟨0, x, n, got⟩ ∧ ArAt w' ab wb (A.store (first + 1) x) ∧ Frm [bb, ab, wb] w w' := by
  obtain ⟨n1, n2⟩ := hne
  have hfb := h.fb
  have c3 := h.box.cell (i := 3) rfl
  have c4 := h.box.cell (i := 4) rfl
  have c5 := h.box.cell (i := 5) rfl
  have c1 := h.box.cell (i := 1) rfl
  have H := Lib.hid h
  have HN := Lib.hid (And.intro n1 n2)
  have hne : Nonempty (HW (fun wx => Frm [ab, wb] w wx)) := ⟨⟨w, Frm.refl _ _⟩⟩
  have hz0 : ∀ q : HW (fun wx => Frm [ab, wb] w wx), q.w.cell? ⟨bb, 0, none⟩ = some (.pointer (some ⟨ab, 0, none⟩)) := fun q => (h.box.frm q.h (by simp; omega)).cell (i := 0) rfl
  have hz1 : ∀ q : HW (fun wx => Frm [ab, wb] w wx), q.w.cell? ⟨bb, 1, none⟩ = some (.int .i64 first) := fun q => (h.box.frm q.h (by simp; omega)).cell (i := 1) rfl
  have hz4 : ∀ q : HW (fun wx => Frm [ab, wb] w wx), q.w.cell? ⟨bb, 4, none⟩ = some (.int .i64 x) := fun q => (h.box.frm q.h (by simp; omega)).cell (i := 4) rfl
  have hz5 : ∀ q : HW (fun wx => Frm [ab, wb] w wx), q.w.cell? ⟨bb, 5, none⟩ = some (.int .i64 n) := fun q => (h.box.frm q.h (by simp; omega)).cell (i := 5) rfl
  have HLK := Lib.hid (fun (W : World) (hf : Frm [] w W) (y : Int) => Link_any (h.frm hf (by simp)) y)
  have HA := Lib.hid hA
  clear h hA n1 n2
  go_enter Try.func37, Try.ntmps37
  go_wp2_with fail
  refine held_begin (S := fun wx => Frm [ab, wb] w wx) (by kernel_rfl) ?_
  refine held_row_at (fuel := 1) (is := [0, 1, 2, 3, 4, 5, 6, 7, 8, 9, 10, 11, 12]) (.cons rfl (.cons rfl (.cons rfl (.cons rfl (.cons rfl (.cons rfl (.cons rfl (.cons rfl (.cons rfl (.cons rfl (.cons rfl (.cons rfl (.cons rfl .nil))))))))))))) (by kernel_rfl) (fun _ _ _ _ _ h => h) rfl (by kernel_rfl) (Frm.refl _ _).drew1 ?_
  intro K hK
  repeat (go_big_quiet_step (fail))
  refine wpQuiet_nil (hK _ ?_)
  clear hK K
  refine held_call (fuel := 0) (i := 13) rfl (by kernel_rfl) ?_
  go_wp2_with fail
  refine (Store_any (HA.out.frm (S := []) ((Frm.refl _ w).drew1) (by simp) (by simp)) (first + 1) (x)).mono ?_; rintro e w1 ⟨rfl, hA, hF⟩; have HA1 := Lib.hid hA; have HF1 := Lib.hid (((Frm.refl [ab, wb] w).drew1).trans hF); have H1 := Lib.hid (H.out.frm HF1.out (by simp; have := HN.out; omega)); have k3 := H1.out.box.cell (i := 3) rfl; have k4 := H1.out.box.cell (i := 4) rfl; have k5 := H1.out.box.cell (i := 5) rfl; have kz := H1.out.box.frozen; clear hA hF
  go_wp2_with fail
  refine onNormal_mk ⟨HF1.out, ?_⟩
  refine held_end (by kernel_rfl) ?_
  have HB := Lib.hid (H1.out)
  have HA2 := Lib.hid (HA1.out)
  have HF2 := Lib.hid (HF1.out.mono (S' := [bb, ab, wb]) (by simp))
  clear k3 k4 k5 kz
  have k3 := HB.out.box.cell (i := 3) rfl
  have k4 := HB.out.box.cell (i := 4) rfl
  have k5 := HB.out.box.cell (i := 5) rfl
  have kz := HB.out.box.frozen
  clear hne hz0 hz1 hz4 hz5
  go_wp2_with fail
  refine (over_any HB.out).mono ?_
  rintro e w3 ⟨rfl, hB, hF⟩
  have HB3 := Lib.hid hB
  have HF3 := Lib.hid (HF2.out.trans (hF.mono (by simp)))
  have HA3 := Lib.hid (HA2.out.frm hF (by simp; have := HN.out; omega) (by simp; have := HN.out; omega))
  clear hB hF
  go_wp2
  go_ret
  exact ⟨rfl, HB3.out, HA3.out, HF3.out⟩
theorem btake5a (h : BnAt w bb ab first things ⟨5, x, n, got⟩) (hA : ArAt w ab wb A) (hne : bb ≠ ab ∧ bb ≠ wb) (hg : A.get first = 0) : Calls Try.prog 38 #[.pointer (some ⟨bb, 0, none⟩)] w fun e w' => e = .returned (.bool true) ∧
    BnAt w' bb ab first things ⟨0, 0, n, 0⟩ ∧ ArAt w' ab wb (A.load first) ∧ Frm [bb, ab, wb] w w' := by
  obtain ⟨n1, n2⟩ := hne
  have HG := Lib.hid hg
  clear hg
  have hfb := h.fb
  have c3 := h.box.cell (i := 3) rfl
  have c4 := h.box.cell (i := 4) rfl
  have c5 := h.box.cell (i := 5) rfl
  have c1 := h.box.cell (i := 1) rfl
  have H := Lib.hid h
  have HN := Lib.hid (And.intro n1 n2)
  have hne : Nonempty (HW (fun wx => Frm [bb, ab, wb] w wx ∧ wx.cell? ⟨bb, 0, none⟩ = some (.pointer (some ⟨ab, 0, none⟩)) ∧ wx.cell? ⟨bb, 1, none⟩ = some (.int .i64 first))) := ⟨⟨w, ⟨Frm.refl _ _, h.box.cell (i := 0) rfl, h.box.cell (i := 1) rfl⟩⟩⟩
  have hz0 : ∀ q : HW (fun wx => Frm [bb, ab, wb] w wx ∧ wx.cell? ⟨bb, 0, none⟩ = some (.pointer (some ⟨ab, 0, none⟩)) ∧ wx.cell? ⟨bb, 1, none⟩ = some (.int .i64 first)), q.w.cell? ⟨bb, 0, none⟩ = some (.pointer (some ⟨ab, 0, none⟩)) := fun q => q.h.2.1
  have hz1 : ∀ q : HW (fun wx => Frm [bb, ab, wb] w wx ∧ wx.cell? ⟨bb, 0, none⟩ = some (.pointer (some ⟨ab, 0, none⟩)) ∧ wx.cell? ⟨bb, 1, none⟩ = some (.int .i64 first)), q.w.cell? ⟨bb, 1, none⟩ = some (.int .i64 first) := fun q => q.h.2.2
  have HLK := Lib.hid (fun (W : World) (hf : Frm [] w W) (y : Int) => Link_any (h.frm hf (by simp)) y)
  have HA := Lib.hid hA
  clear h hA n1 n2
  go_enter Try.func38, Try.ntmps38
  go_wp2_with fail
  refine held_begin (S := fun wx => Frm [bb, ab, wb] w wx ∧ wx.cell? ⟨bb, 0, none⟩ = some (.pointer (some ⟨ab, 0, none⟩)) ∧ wx.cell? ⟨bb, 1, none⟩ = some (.int .i64 first)) (by kernel_rfl) ?_
  refine held_row_at (fuel := 4) (is := [0, 1, 2, 3, 4, 5, 6, 7, 8]) (.cons rfl (.cons rfl (.cons rfl (.cons rfl (.cons rfl (.cons rfl (.cons rfl (.cons rfl (.cons rfl .nil))))))))) (by kernel_rfl) (fun _ _ _ _ _ h => h) rfl (by kernel_rfl) ⟨(Frm.refl _ _).drew1, H.out.box.drew1.cell (i := 0) rfl, H.out.box.drew1.cell (i := 1) rfl⟩ ?_
  intro K hK
  repeat (go_big_quiet_step (fail))
  refine wpQuiet_nil (hK _ ?_)
  clear hK K
  refine held_call (fuel := 3) (i := 9) rfl (by kernel_rfl) ?_
  go_wp2_with fail
  refine (Load_any (HA.out.frm (S := []) ((Frm.refl _ w).drew1) (by simp) (by simp)) (first)).mono ?_; rw [HG.out]; rintro e w1 ⟨rfl, hA, hF⟩; have HA1 := Lib.hid hA; have HF1 := Lib.hid (((Frm.refl [ab, wb] w).drew1).trans hF); have H1 := Lib.hid (H.out.frm HF1.out (by simp; have := HN.out; omega)); have k3 := H1.out.box.cell (i := 3) rfl; have k4 := H1.out.box.cell (i := 4) rfl; have k5 := H1.out.box.cell (i := 5) rfl; have kz := H1.out.box.frozen; clear hA hF
  go_wp2_with fail
  refine onNormal_mk ⟨⟨HF1.out.mono (by simp), H1.out.box.cell (i := 0) rfl, H1.out.box.cell (i := 1) rfl⟩, ?_⟩
  refine held_row_at (fuel := 1) (is := [10, 11]) (.cons rfl (.cons rfl .nil)) (by kernel_rfl) (fun _ _ _ _ _ h => h) rfl (by kernel_rfl) ⟨HF1.out.mono (by simp), H1.out.box.cell (i := 0) rfl, H1.out.box.cell (i := 1) rfl⟩ ?_
  intro K hK
  repeat (go_big_quiet_step (fail))
  refine wpQuiet_nil (hK _ ?_)
  clear hK K
  refine held_call (fuel := 0) (i := 12) rfl (by kernel_rfl) ?_
  go_wp2_with fail
  refine onNormal_mk ⟨⟨(HF1.out.mono (S' := [bb, ab, wb]) (by simp)).set ⟨bb, 4, none⟩ (.int .i64 0) (.inl (by simp)), (H1.out.box.set 4 (.int .i64 0)).cell (i := 0) rfl, (H1.out.box.set 4 (.int .i64 0)).cell (i := 1) rfl⟩, ?_⟩
  refine held_end (by kernel_rfl) ?_
  have HB := Lib.hid ((H1.out).set4 (0))
  have HA2 := Lib.hid ((HA1.out).frm ((Frm.refl [bb] _).set ⟨bb, 4, none⟩ (.int .i64 0) (.inl (by simp))) (by simp; have := HN.out; omega) (by simp; have := HN.out; omega))
  have HF2 := Lib.hid ((HF1.out.mono (S' := [bb, ab, wb]) (by simp)).set ⟨bb, 4, none⟩ (.int .i64 0) (.inl (by simp)))
  clear k3 k4 k5 kz
  generalize (w1.setCell ⟨bb, 4, none⟩ (.int .i64 0)) = W2 at *
  have k3 := HB.out.box.cell (i := 3) rfl
  have k4 := HB.out.box.cell (i := 4) rfl
  have k5 := HB.out.box.cell (i := 5) rfl
  have kz := HB.out.box.frozen
  clear hne hz0 hz1
  have k6 := HB.out.box.cell (i := 6) rfl
  have HB6 := Lib.hid (HB.out.set6 0)
  have HA6 := Lib.hid (HA2.out.frm ((Frm.refl [bb] _).set ⟨bb, 6, none⟩ (.int .i64 0) (.inl (by simp))) (by simp; have := HN.out; omega) (by simp; have := HN.out; omega))
  have HF6 := Lib.hid (HF2.out.set ⟨bb, 6, none⟩ (.int .i64 0) (.inl (by simp)))
  clear HB HA2 HF2 H1 HA1 HF1
  go_wp2_with fail
  refine (over_any HB6.out).mono ?_
  rintro e w3 ⟨rfl, hB, hF⟩
  have HB3 := Lib.hid hB
  have HF3 := Lib.hid (HF6.out.trans (hF.mono (by simp)))
  have HA3 := Lib.hid (HA6.out.frm hF (by simp; have := HN.out; omega) (by simp; have := HN.out; omega))
  clear hB hF
  go_wp2
  go_ret
  exact ⟨rfl, HB3.out, HA3.out, HF3.out⟩
theorem btake5b (h : BnAt w bb ab first things ⟨5, x, n, got⟩) (hA : ArAt w ab wb A) (hne : bb ≠ ab ∧ bb ≠ wb) (hg : ¬ A.get first = 0) : Calls Try.prog 38 #[.pointer (some ⟨bb, 0, none⟩)] w fun e w' => e = .returned (.bool false) ∧
    BnAt w' bb ab first things ⟨6, A.get first, n, got⟩ ∧ ArAt w' ab wb (A.load first) ∧ Frm [bb, ab, wb] w w' := by
  obtain ⟨n1, n2⟩ := hne
  generalize hv : A.get (first : Int) = v at hg ⊢
  have HG := Lib.hid hv
  clear hv
  have e0 : (v == 0) = false := by simpa using hg
  clear hg
  have hfb := h.fb
  have c3 := h.box.cell (i := 3) rfl
  have c4 := h.box.cell (i := 4) rfl
  have c5 := h.box.cell (i := 5) rfl
  have c1 := h.box.cell (i := 1) rfl
  have H := Lib.hid h
  have HN := Lib.hid (And.intro n1 n2)
  have hne : Nonempty (HW (fun wx => Frm [bb, ab, wb] w wx ∧ wx.cell? ⟨bb, 0, none⟩ = some (.pointer (some ⟨ab, 0, none⟩)) ∧ wx.cell? ⟨bb, 1, none⟩ = some (.int .i64 first))) := ⟨⟨w, ⟨Frm.refl _ _, h.box.cell (i := 0) rfl, h.box.cell (i := 1) rfl⟩⟩⟩
  have hz0 : ∀ q : HW (fun wx => Frm [bb, ab, wb] w wx ∧ wx.cell? ⟨bb, 0, none⟩ = some (.pointer (some ⟨ab, 0, none⟩)) ∧ wx.cell? ⟨bb, 1, none⟩ = some (.int .i64 first)), q.w.cell? ⟨bb, 0, none⟩ = some (.pointer (some ⟨ab, 0, none⟩)) := fun q => q.h.2.1
  have hz1 : ∀ q : HW (fun wx => Frm [bb, ab, wb] w wx ∧ wx.cell? ⟨bb, 0, none⟩ = some (.pointer (some ⟨ab, 0, none⟩)) ∧ wx.cell? ⟨bb, 1, none⟩ = some (.int .i64 first)), q.w.cell? ⟨bb, 1, none⟩ = some (.int .i64 first) := fun q => q.h.2.2
  have HLK := Lib.hid (fun (W : World) (hf : Frm [] w W) (y : Int) => Link_any (h.frm hf (by simp)) y)
  have HA := Lib.hid hA
  clear h hA n1 n2
  go_enter Try.func38, Try.ntmps38
  go_wp2_with fail
  refine held_begin (S := fun wx => Frm [bb, ab, wb] w wx ∧ wx.cell? ⟨bb, 0, none⟩ = some (.pointer (some ⟨ab, 0, none⟩)) ∧ wx.cell? ⟨bb, 1, none⟩ = some (.int .i64 first)) (by kernel_rfl) ?_
  refine held_row_at (fuel := 4) (is := [0, 1, 2, 3, 4, 5, 6, 7, 8]) (.cons rfl (.cons rfl (.cons rfl (.cons rfl (.cons rfl (.cons rfl (.cons rfl (.cons rfl (.cons rfl .nil))))))))) (by kernel_rfl) (fun _ _ _ _ _ h => h) rfl (by kernel_rfl) ⟨(Frm.refl _ _).drew1, H.out.box.drew1.cell (i := 0) rfl, H.out.box.drew1.cell (i := 1) rfl⟩ ?_
  intro K hK
  repeat (go_big_quiet_step (fail))
  refine wpQuiet_nil (hK _ ?_)
  clear hK K
  refine held_call (fuel := 3) (i := 9) rfl (by kernel_rfl) ?_
  go_wp2_with fail
  refine (Load_any (HA.out.frm (S := []) ((Frm.refl _ w).drew1) (by simp) (by simp)) (first)).mono ?_; rw [HG.out]; rintro e w1 ⟨rfl, hA, hF⟩; have HA1 := Lib.hid hA; have HF1 := Lib.hid (((Frm.refl [ab, wb] w).drew1).trans hF); have H1 := Lib.hid (H.out.frm HF1.out (by simp; have := HN.out; omega)); have k3 := H1.out.box.cell (i := 3) rfl; have k4 := H1.out.box.cell (i := 4) rfl; have k5 := H1.out.box.cell (i := 5) rfl; have kz := H1.out.box.frozen; clear hA hF
  go_wp2_with fail
  refine onNormal_mk ⟨⟨HF1.out.mono (by simp), H1.out.box.cell (i := 0) rfl, H1.out.box.cell (i := 1) rfl⟩, ?_⟩
  refine held_row_at (fuel := 1) (is := [10, 11]) (.cons rfl (.cons rfl .nil)) (by kernel_rfl) (fun _ _ _ _ _ h => h) rfl (by kernel_rfl) ⟨HF1.out.mono (by simp), H1.out.box.cell (i := 0) rfl, H1.out.box.cell (i := 1) rfl⟩ ?_
  intro K hK
  repeat (go_big_quiet_step (fail))
  refine wpQuiet_nil (hK _ ?_)
  clear hK K
  refine held_call (fuel := 0) (i := 12) rfl (by kernel_rfl) ?_
  go_wp2_with fail
  refine onNormal_mk ⟨⟨(HF1.out.mono (S' := [bb, ab, wb]) (by simp)).set ⟨bb, 4, none⟩ (.int .i64 v) (.inl (by simp)), (H1.out.box.set 4 (.int .i64 v)).cell (i := 0) rfl, (H1.out.box.set 4 (.int .i64 v)).cell (i := 1) rfl⟩, ?_⟩
  refine held_end (by kernel_rfl) ?_
  have HB := Lib.hid ((H1.out).set4 (v))
  have HA2 := Lib.hid ((HA1.out).frm ((Frm.refl [bb] _).set ⟨bb, 4, none⟩ (.int .i64 v) (.inl (by simp))) (by simp; have := HN.out; omega) (by simp; have := HN.out; omega))
  have HF2 := Lib.hid ((HF1.out.mono (S' := [bb, ab, wb]) (by simp)).set ⟨bb, 4, none⟩ (.int .i64 v) (.inl (by simp)))
  clear k3 k4 k5 kz
  generalize (w1.setCell ⟨bb, 4, none⟩ (.int .i64 v)) = W2 at *
  have k3 := HB.out.box.cell (i := 3) rfl
  have k4 := HB.out.box.cell (i := 4) rfl
  have k5 := HB.out.box.cell (i := 5) rfl
  have kz := HB.out.box.frozen
  clear hne hz0 hz1
  have HR := Lib.hid (And.intro (HB.out.set3 6 (by omega)) (And.intro (HA2.out.frm ((Frm.refl [bb] _).set ⟨bb, 3, none⟩ (.int .i64 6) (.inl (by simp))) (by simp; have := HN.out; omega) (by simp; have := HN.out; omega)) (HF2.out.set ⟨bb, 3, none⟩ (.int .i64 6) (.inl (by simp)))))
  clear HB HA2 HF2 H1 HA1 HF1
  go_wp2
  go_ret
  exact ⟨rfl, HR.out.1, HR.out.2.1, HR.out.2.2⟩
theorem btake6 (h : BnAt w bb ab first things ⟨6, x, n, got⟩) (hA : ArAt w ab wb A) (hne : bb ≠ ab ∧ bb ≠ wb) : Calls Try.prog 38 #[.pointer (some ⟨bb, 0, none⟩)] w fun e w' => e = .returned (.bool false) ∧
    BnAt w' bb ab first things ⟨7, x, A.get (bLink first x), got⟩ ∧ ArAt w' ab wb (A.load (bLink first x)) ∧ Frm [bb, ab, wb] w w' := by
  obtain ⟨n1, n2⟩ := hne
  generalize hv : A.get (bLink first x) = v at ⊢
  have HG := Lib.hid hv
  clear hv
  have hfb := h.fb
  have c3 := h.box.cell (i := 3) rfl
  have c4 := h.box.cell (i := 4) rfl
  have c5 := h.box.cell (i := 5) rfl
  have c1 := h.box.cell (i := 1) rfl
  have H := Lib.hid h
  have HN := Lib.hid (And.intro n1 n2)
  have hne : Nonempty (HW (fun wx => Frm [bb, ab, wb] w wx ∧ wx.cell? ⟨bb, 0, none⟩ = some (.pointer (some ⟨ab, 0, none⟩)) ∧ wx.cell? ⟨bb, 1, none⟩ = some (.int .i64 first) ∧ wx.cell? ⟨bb, 4, none⟩ = some (.int .i64 x))) := ⟨⟨w, ⟨Frm.refl _ _, h.box.cell (i := 0) rfl, h.box.cell (i := 1) rfl, h.box.cell (i := 4) rfl⟩⟩⟩
  have hz0 : ∀ q : HW (fun wx => Frm [bb, ab, wb] w wx ∧ wx.cell? ⟨bb, 0, none⟩ = some (.pointer (some ⟨ab, 0, none⟩)) ∧ wx.cell? ⟨bb, 1, none⟩ = some (.int .i64 first) ∧ wx.cell? ⟨bb, 4, none⟩ = some (.int .i64 x)), q.w.cell? ⟨bb, 0, none⟩ = some (.pointer (some ⟨ab, 0, none⟩)) := fun q => q.h.2.1
  have hz1 : ∀ q : HW (fun wx => Frm [bb, ab, wb] w wx ∧ wx.cell? ⟨bb, 0, none⟩ = some (.pointer (some ⟨ab, 0, none⟩)) ∧ wx.cell? ⟨bb, 1, none⟩ = some (.int .i64 first) ∧ wx.cell? ⟨bb, 4, none⟩ = some (.int .i64 x)), q.w.cell? ⟨bb, 1, none⟩ = some (.int .i64 first) := fun q => q.h.2.2.1
  have hz4 : ∀ q : HW (fun wx => Frm [bb, ab, wb] w wx ∧ wx.cell? ⟨bb, 0, none⟩ = some (.pointer (some ⟨ab, 0, none⟩)) ∧ wx.cell? ⟨bb, 1, none⟩ = some (.int .i64 first) ∧ wx.cell? ⟨bb, 4, none⟩ = some (.int .i64 x)), q.w.cell? ⟨bb, 4, none⟩ = some (.int .i64 x) := fun q => q.h.2.2.2
  have HLK := Lib.hid (fun (W : World) (hf : Frm [] w W) (y : Int) => Link_any (h.frm hf (by simp)) y)
  have HA := Lib.hid hA
  clear h hA n1 n2
  go_enter Try.func38, Try.ntmps38
  go_wp2_with fail
  refine held_begin (S := fun wx => Frm [bb, ab, wb] w wx ∧ wx.cell? ⟨bb, 0, none⟩ = some (.pointer (some ⟨ab, 0, none⟩)) ∧ wx.cell? ⟨bb, 1, none⟩ = some (.int .i64 first) ∧ wx.cell? ⟨bb, 4, none⟩ = some (.int .i64 x)) (by kernel_rfl) ?_
  refine held_row_at (fuel := 5) (is := [0, 1, 2, 3, 4, 5, 6, 7, 8, 9]) (.cons rfl (.cons rfl (.cons rfl (.cons rfl (.cons rfl (.cons rfl (.cons rfl (.cons rfl (.cons rfl (.cons rfl .nil)))))))))) (by kernel_rfl) (fun _ _ _ _ _ h => h) rfl (by kernel_rfl) ⟨(Frm.refl _ _).drew1, H.out.box.drew1.cell (i := 0) rfl, H.out.box.drew1.cell (i := 1) rfl, H.out.box.drew1.cell (i := 4) rfl⟩ ?_
  intro K hK
  repeat (go_big_quiet_step (fail))
  refine wpQuiet_nil (hK _ ?_)
  clear hK K
  refine held_call (fuel := 4) (i := 10) rfl (by kernel_rfl) ?_
  go_wp2_with fail
  refine (HLK.out _ ((Frm.refl _ _).drew1) _).mono ?_; rintro e w' ⟨rfl, rfl⟩
  go_wp2_with fail
  refine onNormal_mk ⟨⟨(Frm.refl _ _).drew1, H.out.box.drew1.cell (i := 0) rfl, H.out.box.drew1.cell (i := 1) rfl, H.out.box.drew1.cell (i := 4) rfl⟩, ?_⟩
  refine held_call (fuel := 3) (i := 11) rfl (by kernel_rfl) ?_
  go_wp2_with fail
  refine (Load_any (HA.out.frm (S := []) ((Frm.refl _ w).drew1) (by simp) (by simp)) (bLink first x)).mono ?_; rw [HG.out]; rintro e w1 ⟨rfl, hA, hF⟩; have HA1 := Lib.hid hA; have HF1 := Lib.hid (((Frm.refl [ab, wb] w).drew1).trans hF); have H1 := Lib.hid (H.out.frm HF1.out (by simp; have := HN.out; omega)); have k3 := H1.out.box.cell (i := 3) rfl; have k4 := H1.out.box.cell (i := 4) rfl; have k5 := H1.out.box.cell (i := 5) rfl; have kz := H1.out.box.frozen; clear hA hF
  go_wp2_with fail
  refine onNormal_mk ⟨⟨HF1.out.mono (by simp), H1.out.box.cell (i := 0) rfl, H1.out.box.cell (i := 1) rfl, H1.out.box.cell (i := 4) rfl⟩, ?_⟩
  refine held_row_at (fuel := 1) (is := [12, 13]) (.cons rfl (.cons rfl .nil)) (by kernel_rfl) (fun _ _ _ _ _ h => h) rfl (by kernel_rfl) ⟨HF1.out.mono (by simp), H1.out.box.cell (i := 0) rfl, H1.out.box.cell (i := 1) rfl, H1.out.box.cell (i := 4) rfl⟩ ?_
  intro K hK
  repeat (go_big_quiet_step (fail))
  refine wpQuiet_nil (hK _ ?_)
  clear hK K
  refine held_call (fuel := 0) (i := 14) rfl (by kernel_rfl) ?_
  go_wp2_with fail
  refine onNormal_mk ⟨⟨(HF1.out.mono (S' := [bb, ab, wb]) (by simp)).set ⟨bb, 5, none⟩ (.int .i64 v) (.inl (by simp)), (H1.out.box.set 5 (.int .i64 v)).cell (i := 0) rfl, (H1.out.box.set 5 (.int .i64 v)).cell (i := 1) rfl, (H1.out.box.set 5 (.int .i64 v)).cell (i := 4) rfl⟩, ?_⟩
  refine held_end (by kernel_rfl) ?_
  have HB := Lib.hid ((H1.out).set5 (v))
  have HA2 := Lib.hid ((HA1.out).frm ((Frm.refl [bb] _).set ⟨bb, 5, none⟩ (.int .i64 v) (.inl (by simp))) (by simp; have := HN.out; omega) (by simp; have := HN.out; omega))
  have HF2 := Lib.hid ((HF1.out.mono (S' := [bb, ab, wb]) (by simp)).set ⟨bb, 5, none⟩ (.int .i64 v) (.inl (by simp)))
  clear k3 k4 k5 kz
  generalize (w1.setCell ⟨bb, 5, none⟩ (.int .i64 v)) = W2 at *
  have k3 := HB.out.box.cell (i := 3) rfl
  have k4 := HB.out.box.cell (i := 4) rfl
  have k5 := HB.out.box.cell (i := 5) rfl
  have kz := HB.out.box.frozen
  clear hne hz0 hz1 hz4
  have HR := Lib.hid (And.intro (HB.out.set3 7 (by omega)) (And.intro (HA2.out.frm ((Frm.refl [bb] _).set ⟨bb, 3, none⟩ (.int .i64 7) (.inl (by simp))) (by simp; have := HN.out; omega) (by simp; have := HN.out; omega)) (HF2.out.set ⟨bb, 3, none⟩ (.int .i64 7) (.inl (by simp)))))
  clear HB HA2 HF2 H1 HA1 HF1
  go_wp2
  go_ret
  exact ⟨rfl, HR.out.1, HR.out.2.1, HR.out.2.2⟩
theorem btake7a (h : BnAt w bb ab first things ⟨7, x, n, got⟩) (hA : ArAt w ab wb A) (hne : bb ≠ ab ∧ bb ≠ wb) (hg : ¬ n = 0) : Calls Try.prog 38 #[.pointer (some ⟨bb, 0, none⟩)] w fun e w' => e = .returned (.bool true) ∧
    BnAt w' bb ab first things ⟨0, x, n, x⟩ ∧ ArAt w' ab wb (A.store first n) ∧ Frm [bb, ab, wb] w w' := by
  obtain ⟨n1, n2⟩ := hne
  have e0 : (n != 0) = true := by simpa using hg
  clear hg
  have hfb := h.fb
  have c3 := h.box.cell (i := 3) rfl
  have c4 := h.box.cell (i := 4) rfl
  have c5 := h.box.cell (i := 5) rfl
  have c1 := h.box.cell (i := 1) rfl
  have H := Lib.hid h
  have HN := Lib.hid (And.intro n1 n2)
  have hne : Nonempty (HW (fun wx => Frm [ab, wb] w wx)) := ⟨⟨w, Frm.refl _ _⟩⟩
  have hz0 : ∀ q : HW (fun wx => Frm [ab, wb] w wx), q.w.cell? ⟨bb, 0, none⟩ = some (.pointer (some ⟨ab, 0, none⟩)) := fun q => (h.box.frm q.h (by simp; omega)).cell (i := 0) rfl
  have hz1 : ∀ q : HW (fun wx => Frm [ab, wb] w wx), q.w.cell? ⟨bb, 1, none⟩ = some (.int .i64 first) := fun q => (h.box.frm q.h (by simp; omega)).cell (i := 1) rfl
  have hz4 : ∀ q : HW (fun wx => Frm [ab, wb] w wx), q.w.cell? ⟨bb, 4, none⟩ = some (.int .i64 x) := fun q => (h.box.frm q.h (by simp; omega)).cell (i := 4) rfl
  have hz5 : ∀ q : HW (fun wx => Frm [ab, wb] w wx), q.w.cell? ⟨bb, 5, none⟩ = some (.int .i64 n) := fun q => (h.box.frm q.h (by simp; omega)).cell (i := 5) rfl
  have HLK := Lib.hid (fun (W : World) (hf : Frm [] w W) (y : Int) => Link_any (h.frm hf (by simp)) y)
  have HA := Lib.hid hA
  clear h hA n1 n2
  go_enter Try.func38, Try.ntmps38
  go_wp2_with fail
  refine held_begin (S := fun wx => Frm [ab, wb] w wx) (by kernel_rfl) ?_
  refine held_row_at (fuel := 1) (is := [0, 1, 2, 3, 4, 5, 6, 7, 8, 9, 10, 11]) (.cons rfl (.cons rfl (.cons rfl (.cons rfl (.cons rfl (.cons rfl (.cons rfl (.cons rfl (.cons rfl (.cons rfl (.cons rfl (.cons rfl .nil)))))))))))) (by kernel_rfl) (fun _ _ _ _ _ h => h) rfl (by kernel_rfl) (Frm.refl _ _).drew1 ?_
  intro K hK
  repeat (go_big_quiet_step (fail))
  refine wpQuiet_nil (hK _ ?_)
  clear hK K
  refine held_call (fuel := 0) (i := 12) rfl (by kernel_rfl) ?_
  go_wp2_with fail
  refine (Store_any (HA.out.frm (S := []) ((Frm.refl _ w).drew1) (by simp) (by simp)) (first) (n)).mono ?_; rintro e w1 ⟨rfl, hA, hF⟩; have HA1 := Lib.hid hA; have HF1 := Lib.hid (((Frm.refl [ab, wb] w).drew1).trans hF); have H1 := Lib.hid (H.out.frm HF1.out (by simp; have := HN.out; omega)); have k3 := H1.out.box.cell (i := 3) rfl; have k4 := H1.out.box.cell (i := 4) rfl; have k5 := H1.out.box.cell (i := 5) rfl; have kz := H1.out.box.frozen; clear hA hF
  go_wp2_with fail
  refine onNormal_mk ⟨HF1.out, ?_⟩
  refine held_end (by kernel_rfl) ?_
  have HB := Lib.hid (H1.out)
  have HA2 := Lib.hid (HA1.out)
  have HF2 := Lib.hid (HF1.out.mono (S' := [bb, ab, wb]) (by simp))
  clear k3 k4 k5 kz
  have k3 := HB.out.box.cell (i := 3) rfl
  have k4 := HB.out.box.cell (i := 4) rfl
  have k5 := HB.out.box.cell (i := 5) rfl
  have kz := HB.out.box.frozen
  clear hne hz0 hz1 hz4 hz5
  have k6 := HB.out.box.cell (i := 6) rfl
  have HB6 := Lib.hid (HB.out.set6 x)
  have HA6 := Lib.hid (HA2.out.frm ((Frm.refl [bb] _).set ⟨bb, 6, none⟩ (.int .i64 x) (.inl (by simp))) (by simp; have := HN.out; omega) (by simp; have := HN.out; omega))
  have HF6 := Lib.hid (HF2.out.set ⟨bb, 6, none⟩ (.int .i64 x) (.inl (by simp)))
  clear HB HA2 HF2 H1 HA1 HF1
  go_wp2_with fail
  refine (over_any HB6.out).mono ?_
  rintro e w3 ⟨rfl, hB, hF⟩
  have HB3 := Lib.hid hB
  have HF3 := Lib.hid (HF6.out.trans (hF.mono (by simp)))
  have HA3 := Lib.hid (HA6.out.frm hF (by simp; have := HN.out; omega) (by simp; have := HN.out; omega))
  clear hB hF
  go_wp2
  go_ret
  exact ⟨rfl, HB3.out, HA3.out, HF3.out⟩
theorem btake7b (h : BnAt w bb ab first things ⟨7, x, n, got⟩) (hA : ArAt w ab wb A) (hne : bb ≠ ab ∧ bb ≠ wb) (hg : n = 0) : Calls Try.prog 38 #[.pointer (some ⟨bb, 0, none⟩)] w fun e w' => e = .returned (.bool false) ∧
    BnAt w' bb ab first things ⟨8, x, n, got⟩ ∧ ArAt w' ab wb (A.store first n) ∧ Frm [bb, ab, wb] w w' := by
  obtain ⟨n1, n2⟩ := hne
  have e0 : (n != 0) = false := by simpa using hg
  clear hg
  have hfb := h.fb
  have c3 := h.box.cell (i := 3) rfl
  have c4 := h.box.cell (i := 4) rfl
  have c5 := h.box.cell (i := 5) rfl
  have c1 := h.box.cell (i := 1) rfl
  have H := Lib.hid h
  have HN := Lib.hid (And.intro n1 n2)
  have hne : Nonempty (HW (fun wx => Frm [ab, wb] w wx)) := ⟨⟨w, Frm.refl _ _⟩⟩
  have hz0 : ∀ q : HW (fun wx => Frm [ab, wb] w wx), q.w.cell? ⟨bb, 0, none⟩ = some (.pointer (some ⟨ab, 0, none⟩)) := fun q => (h.box.frm q.h (by simp; omega)).cell (i := 0) rfl
  have hz1 : ∀ q : HW (fun wx => Frm [ab, wb] w wx), q.w.cell? ⟨bb, 1, none⟩ = some (.int .i64 first) := fun q => (h.box.frm q.h (by simp; omega)).cell (i := 1) rfl
  have hz4 : ∀ q : HW (fun wx => Frm [ab, wb] w wx), q.w.cell? ⟨bb, 4, none⟩ = some (.int .i64 x) := fun q => (h.box.frm q.h (by simp; omega)).cell (i := 4) rfl
  have hz5 : ∀ q : HW (fun wx => Frm [ab, wb] w wx), q.w.cell? ⟨bb, 5, none⟩ = some (.int .i64 n) := fun q => (h.box.frm q.h (by simp; omega)).cell (i := 5) rfl
  have HLK := Lib.hid (fun (W : World) (hf : Frm [] w W) (y : Int) => Link_any (h.frm hf (by simp)) y)
  have HA := Lib.hid hA
  clear h hA n1 n2
  go_enter Try.func38, Try.ntmps38
  go_wp2_with fail
  refine held_begin (S := fun wx => Frm [ab, wb] w wx) (by kernel_rfl) ?_
  refine held_row_at (fuel := 1) (is := [0, 1, 2, 3, 4, 5, 6, 7, 8, 9, 10, 11]) (.cons rfl (.cons rfl (.cons rfl (.cons rfl (.cons rfl (.cons rfl (.cons rfl (.cons rfl (.cons rfl (.cons rfl (.cons rfl (.cons rfl .nil)))))))))))) (by kernel_rfl) (fun _ _ _ _ _ h => h) rfl (by kernel_rfl) (Frm.refl _ _).drew1 ?_
  intro K hK
  repeat (go_big_quiet_step (fail))
  refine wpQuiet_nil (hK _ ?_)
  clear hK K
  refine held_call (fuel := 0) (i := 12) rfl (by kernel_rfl) ?_
  go_wp2_with fail
  refine (Store_any (HA.out.frm (S := []) ((Frm.refl _ w).drew1) (by simp) (by simp)) (first) (n)).mono ?_; rintro e w1 ⟨rfl, hA, hF⟩; have HA1 := Lib.hid hA; have HF1 := Lib.hid (((Frm.refl [ab, wb] w).drew1).trans hF); have H1 := Lib.hid (H.out.frm HF1.out (by simp; have := HN.out; omega)); have k3 := H1.out.box.cell (i := 3) rfl; have k4 := H1.out.box.cell (i := 4) rfl; have k5 := H1.out.box.cell (i := 5) rfl; have kz := H1.out.box.frozen; clear hA hF
  go_wp2_with fail
  refine onNormal_mk ⟨HF1.out, ?_⟩
  refine held_end (by kernel_rfl) ?_
  have HB := Lib.hid (H1.out)
  have HA2 := Lib.hid (HA1.out)
  have HF2 := Lib.hid (HF1.out.mono (S' := [bb, ab, wb]) (by simp))
  clear k3 k4 k5 kz
  have k3 := HB.out.box.cell (i := 3) rfl
  have k4 := HB.out.box.cell (i := 4) rfl
  have k5 := HB.out.box.cell (i := 5) rfl
  have kz := HB.out.box.frozen
  clear hne hz0 hz1 hz4 hz5
  have HR := Lib.hid (And.intro (HB.out.set3 8 (by omega)) (And.intro (HA2.out.frm ((Frm.refl [bb] _).set ⟨bb, 3, none⟩ (.int .i64 8) (.inl (by simp))) (by simp; have := HN.out; omega) (by simp; have := HN.out; omega)) (HF2.out.set ⟨bb, 3, none⟩ (.int .i64 8) (.inl (by simp)))))
  clear HB HA2 HF2 H1 HA1 HF1
  go_wp2
  go_ret
  exact ⟨rfl, HR.out.1, HR.out.2.1, HR.out.2.2⟩
theorem btake8 (h : BnAt w bb ab first things ⟨8, x, n, got⟩) (hA : ArAt w ab wb A) (hne : bb ≠ ab ∧ bb ≠ wb) : Calls Try.prog 38 #[.pointer (some ⟨bb, 0, none⟩)] w fun e w' => e = .returned (.bool true) ∧
    BnAt w' bb ab first things ⟨0, x, n, x⟩ ∧ ArAt w' ab wb (A.store (first + 1) 0) ∧ Frm [bb, ab, wb] w w' := by
  obtain ⟨n1, n2⟩ := hne
  have hfb := h.fb
  have c3 := h.box.cell (i := 3) rfl
  have c4 := h.box.cell (i := 4) rfl
  have c5 := h.box.cell (i := 5) rfl
  have c1 := h.box.cell (i := 1) rfl
  have H := Lib.hid h
  have HN := Lib.hid (And.intro n1 n2)
  have hne : Nonempty (HW (fun wx => Frm [ab, wb] w wx)) := ⟨⟨w, Frm.refl _ _⟩⟩
  have hz0 : ∀ q : HW (fun wx => Frm [ab, wb] w wx), q.w.cell? ⟨bb, 0, none⟩ = some (.pointer (some ⟨ab, 0, none⟩)) := fun q => (h.box.frm q.h (by simp; omega)).cell (i := 0) rfl
  have hz1 : ∀ q : HW (fun wx => Frm [ab, wb] w wx), q.w.cell? ⟨bb, 1, none⟩ = some (.int .i64 first) := fun q => (h.box.frm q.h (by simp; omega)).cell (i := 1) rfl
  have hz4 : ∀ q : HW (fun wx => Frm [ab, wb] w wx), q.w.cell? ⟨bb, 4, none⟩ = some (.int .i64 x) := fun q => (h.box.frm q.h (by simp; omega)).cell (i := 4) rfl
  have hz5 : ∀ q : HW (fun wx => Frm [ab, wb] w wx), q.w.cell? ⟨bb, 5, none⟩ = some (.int .i64 n) := fun q => (h.box.frm q.h (by simp; omega)).cell (i := 5) rfl
  have HLK := Lib.hid (fun (W : World) (hf : Frm [] w W) (y : Int) => Link_any (h.frm hf (by simp)) y)
  have HA := Lib.hid hA
  clear h hA n1 n2
  go_enter Try.func38, Try.ntmps38
  go_wp2_with fail
  refine held_begin (S := fun wx => Frm [ab, wb] w wx) (by kernel_rfl) ?_
  refine held_row_at (fuel := 1) (is := [0, 1, 2, 3, 4, 5, 6, 7, 8]) (.cons rfl (.cons rfl (.cons rfl (.cons rfl (.cons rfl (.cons rfl (.cons rfl (.cons rfl (.cons rfl .nil))))))))) (by kernel_rfl) (fun _ _ _ _ _ h => h) rfl (by kernel_rfl) (Frm.refl _ _).drew1 ?_
  intro K hK
  repeat (go_big_quiet_step (fail))
  refine wpQuiet_nil (hK _ ?_)
  clear hK K
  refine held_call (fuel := 0) (i := 9) rfl (by kernel_rfl) ?_
  go_wp2_with fail
  refine (Store_any (HA.out.frm (S := []) ((Frm.refl _ w).drew1) (by simp) (by simp)) (first + 1) (0)).mono ?_; rintro e w1 ⟨rfl, hA, hF⟩; have HA1 := Lib.hid hA; have HF1 := Lib.hid (((Frm.refl [ab, wb] w).drew1).trans hF); have H1 := Lib.hid (H.out.frm HF1.out (by simp; have := HN.out; omega)); have k3 := H1.out.box.cell (i := 3) rfl; have k4 := H1.out.box.cell (i := 4) rfl; have k5 := H1.out.box.cell (i := 5) rfl; have kz := H1.out.box.frozen; clear hA hF
  go_wp2_with fail
  refine onNormal_mk ⟨HF1.out, ?_⟩
  refine held_end (by kernel_rfl) ?_
  have HB := Lib.hid (H1.out)
  have HA2 := Lib.hid (HA1.out)
  have HF2 := Lib.hid (HF1.out.mono (S' := [bb, ab, wb]) (by simp))
  clear k3 k4 k5 kz
  have k3 := HB.out.box.cell (i := 3) rfl
  have k4 := HB.out.box.cell (i := 4) rfl
  have k5 := HB.out.box.cell (i := 5) rfl
  have kz := HB.out.box.frozen
  clear hne hz0 hz1 hz4 hz5
  have k6 := HB.out.box.cell (i := 6) rfl
  have HB6 := Lib.hid (HB.out.set6 x)
  have HA6 := Lib.hid (HA2.out.frm ((Frm.refl [bb] _).set ⟨bb, 6, none⟩ (.int .i64 x) (.inl (by simp))) (by simp; have := HN.out; omega) (by simp; have := HN.out; omega))
  have HF6 := Lib.hid (HF2.out.set ⟨bb, 6, none⟩ (.int .i64 x) (.inl (by simp)))
  clear HB HA2 HF2 H1 HA1 HF1
  go_wp2_with fail
  refine (over_any HB6.out).mono ?_
  rintro e w3 ⟨rfl, hB, hF⟩
  have HB3 := Lib.hid hB
  have HF3 := Lib.hid (HF6.out.trans (hF.mono (by simp)))
  have HA3 := Lib.hid (HA6.out.frm hF (by simp; have := HN.out; omega) (by simp; have := HN.out; omega))
  clear hB hF
  go_wp2
  go_ret
  exact ⟨rfl, HB3.out, HA3.out, HF3.out⟩
end
end Go.Proofs.Ytacogelejffbhaa
