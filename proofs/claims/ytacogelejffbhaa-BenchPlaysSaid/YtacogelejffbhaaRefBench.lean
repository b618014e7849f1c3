/- The contracts of the bench document's answer. (Printed by gen_refbench.py.) -/
import Derived.Test.YtacogelejffbhaaBenchNew
import Derived.Test.YtacogelejffbhaaRefStore
import Derived.Test.YtacogelejffbhaaRefLoad
import Derived.Test.YtacogelejffbhaaRefTake
namespace Go.Proofs.Ytacogelejffbhaa
open Go.RowKit

structure RbAt (w : World) (yb rb first things : Nat) (B : BK) : Prop where
  box : HAt w yb [.pointer (some ⟨rb, 0, none⟩), .int .i64 first, .int .i64 things, .int .i64 B.step, .int .i64 B.x, .int .i64 B.n, .int .i64 B.got] 49
  t1 : 1 ≤ things
  t32 : things ≤ 32
  fb : first ≤ 4096
  st : 0 ≤ B.step ∧ B.step ≤ 8
theorem RbAt.frm {w w' : World} {yb rb first things : Nat} {B : BK} (h : RbAt w yb rb first things B) {Z : List Nat} (hf : Frm Z w w') (h1 : yb ∉ Z) : RbAt w' yb rb first things B := { h with box := h.box.frm hf h1 }
section
variable {w : World} {yb rb first things : Nat} {st x n got : Int}
theorem RbAt.set3 (h : RbAt w yb rb first things ⟨st, x, n, got⟩) (v : Int) (hv : 0 ≤ v ∧ v ≤ 8) : RbAt (w.setCell ⟨yb, 3, none⟩ (.int .i64 v)) yb rb first things ⟨v, x, n, got⟩ := { h with box := h.box.set 3 (.int .i64 v), st := hv }
theorem RbAt.set4 (h : RbAt w yb rb first things ⟨st, x, n, got⟩) (v : Int) : RbAt (w.setCell ⟨yb, 4, none⟩ (.int .i64 v)) yb rb first things ⟨st, v, n, got⟩ := { h with box := h.box.set 4 (.int .i64 v) }
theorem RbAt.set5 (h : RbAt w yb rb first things ⟨st, x, n, got⟩) (v : Int) : RbAt (w.setCell ⟨yb, 5, none⟩ (.int .i64 v)) yb rb first things ⟨st, x, v, got⟩ := { h with box := h.box.set 5 (.int .i64 v) }
theorem RbAt.set6 (h : RbAt w yb rb first things ⟨st, x, n, got⟩) (v : Int) : RbAt (w.setCell ⟨yb, 6, none⟩ (.int .i64 v)) yb rb first things ⟨st, x, n, v⟩ := { h with box := h.box.set 6 (.int .i64 v) }
end
section
variable {w : World} {yb rb first things : Nat} {A : AR} {v : Value} {x n got : Int}
set_option maxRecDepth 100000 in
theorem rstep1 (h : RbAt w yb rb first things ⟨1, x, n, got⟩) (hA : RfAt w rb v A) (hne : yb ∉ (rb :: vb v)) : Calls Try.prog 21 #[.pointer (some ⟨yb, 0, none⟩)] w fun e w' => e = .returned (.bool false) ∧
    RbAt w' yb rb first things ⟨2, x, n, got⟩ ∧ RfAt w' rb v (A.store (bLink first x) 0) ∧ Frm (yb :: rb :: vb v) w w' := by
  have HNB := Lib.hid hne
  have hfb := h.fb
  have c3 := h.box.cell (i := 3) rfl
  have c4 := h.box.cell (i := 4) rfl
  have c5 := h.box.cell (i := 5) rfl
  have H := Lib.hid h
  have hne : Nonempty (HW (fun wx => Frm (rb :: vb v) w wx)) := ⟨⟨w, Frm.refl _ _⟩⟩
  have hz0 : ∀ q : HW (fun wx => Frm (rb :: vb v) w wx), q.w.cell? ⟨yb, 0, none⟩ = some (.pointer (some ⟨rb, 0, none⟩)) := fun q => (h.box.frm q.h HNB.out).cell (i := 0) rfl
  have hz1 : ∀ q : HW (fun wx => Frm (rb :: vb v) w wx), q.w.cell? ⟨yb, 1, none⟩ = some (.int .i64 first) := fun q => (h.box.frm q.h HNB.out).cell (i := 1) rfl
  have hz4 : ∀ q : HW (fun wx => Frm (rb :: vb v) w wx), q.w.cell? ⟨yb, 4, none⟩ = some (.int .i64 x) := fun q => (h.box.frm q.h HNB.out).cell (i := 4) rfl
  have hz5 : ∀ q : HW (fun wx => Frm (rb :: vb v) w wx), q.w.cell? ⟨yb, 5, none⟩ = some (.int .i64 n) := fun q => (h.box.frm q.h HNB.out).cell (i := 5) rfl
  have HA := Lib.hid hA
  clear h hA
  go_enter Try.func21, Try.ntmps21
  go_wp2_with fail
  refine held_begin (S := fun wx => Frm (rb :: vb v) w wx) (by kernel_rfl) ?_
  refine held_row_at (fuel := 1) (is := [0, 1, 2, 3, 4, 5, 6, 7, 8, 9, 10, 11, 12, 13]) (.cons rfl (.cons rfl (.cons rfl (.cons rfl (.cons rfl (.cons rfl (.cons rfl (.cons rfl (.cons rfl (.cons rfl (.cons rfl (.cons rfl (.cons rfl (.cons rfl .nil)))))))))))))) (by kernel_rfl) (fun _ _ _ _ _ h => h) rfl (by kernel_rfl) (Frm.refl _ _).drew1 ?_
  intro K hK
  repeat (go_big_quiet_step (fail))
  refine wpQuiet_nil (hK _ ?_)
  clear hK K
  refine held_call (fuel := 0) (i := 14) rfl (by kernel_rfl) ?_
  go_wp2_with fail
  refine (rStore_any (HA.out.frm' (S := []) ((Frm.refl _ w).drew1) (by simp) (by simp)) (bLink first x) (0)).mono ?_; rintro e w1 ⟨rfl, hA, hF⟩; have HA1 := Lib.hid hA; have HF1 := Lib.hid (((Frm.refl (rb :: vb v) w).drew1).trans hF); have H1 := Lib.hid (H.out.frm HF1.out HNB.out); have k3 := H1.out.box.cell (i := 3) rfl; have k4 := H1.out.box.cell (i := 4) rfl; have k5 := H1.out.box.cell (i := 5) rfl; have kz := H1.out.box.frozen; clear hA hF
  go_wp2_with fail
  refine onNormal_mk ⟨HF1.out, ?_⟩
  refine held_end (by kernel_rfl) ?_
  clear hne hz0 hz1 hz4 hz5
  have HB := Lib.hid (H1.out)
  have HA2 := Lib.hid (HA1.out)
  have HF2 := Lib.hid ((HF1.out.mono (S' := yb :: rb :: vb v) (fun _ hm => List.mem_cons_of_mem _ hm)))
  clear k3 k4 k5 kz
  have k3 := HB.out.box.cell (i := 3) rfl
  have k4 := HB.out.box.cell (i := 4) rfl
  have k5 := HB.out.box.cell (i := 5) rfl
  have k6 := HB.out.box.cell (i := 6) rfl
  have kz := HB.out.box.frozen
  clear H1 HA1 HF1
  have HR := Lib.hid (And.intro (HB.out.set3 2 (by omega)) (And.intro ((HA2.out).frm' ((Frm.refl [yb] _).set ⟨yb, 3, none⟩ (.int .i64 2) (.inl (by simp))) (fun hm => HNB.out (by simp at hm; simp [hm])) (fun k hk hm => HNB.out (by simp at hm; subst hm; simp [vb, hk]))) (HF2.out.set ⟨yb, 3, none⟩ (.int .i64 2) (.inl (by simp)))))
  clear HB HA2 HF2
  go_wp2
  go_ret
  exact ⟨rfl, HR.out.1, HR.out.2.1, HR.out.2.2⟩
set_option maxRecDepth 100000 in
theorem rstep4 (h : RbAt w yb rb first things ⟨4, x, n, got⟩) (hA : RfAt w rb v A) (hne : yb ∉ (rb :: vb v)) : Calls Try.prog 21 #[.pointer (some ⟨yb, 0, none⟩)] w fun e w' => e = .returned (.bool true) ∧
    RbAt w' yb rb first things ⟨0, x, n, got⟩ ∧ RfAt w' rb v (A.store (first + 1) x) ∧ Frm (yb :: rb :: vb v) w w' := by
  have HNB := Lib.hid hne
  have hfb := h.fb
  have c3 := h.box.cell (i := 3) rfl
  have c4 := h.box.cell (i := 4) rfl
  have c5 := h.box.cell (i := 5) rfl
  have H := Lib.hid h
  have hne : Nonempty (HW (fun wx => Frm (rb :: vb v) w wx)) := ⟨⟨w, Frm.refl _ _⟩⟩
  have hz0 : ∀ q : HW (fun wx => Frm (rb :: vb v) w wx), q.w.cell? ⟨yb, 0, none⟩ = some (.pointer (some ⟨rb, 0, none⟩)) := fun q => (h.box.frm q.h HNB.out).cell (i := 0) rfl
  have hz1 : ∀ q : HW (fun wx => Frm (rb :: vb v) w wx), q.w.cell? ⟨yb, 1, none⟩ = some (.int .i64 first) := fun q => (h.box.frm q.h HNB.out).cell (i := 1) rfl
  have hz4 : ∀ q : HW (fun wx => Frm (rb :: vb v) w wx), q.w.cell? ⟨yb, 4, none⟩ = some (.int .i64 x) := fun q => (h.box.frm q.h HNB.out).cell (i := 4) rfl
  have hz5 : ∀ q : HW (fun wx => Frm (rb :: vb v) w wx), q.w.cell? ⟨yb, 5, none⟩ = some (.int .i64 n) := fun q => (h.box.frm q.h HNB.out).cell (i := 5) rfl
  have HA := Lib.hid hA
  clear h hA
  go_enter Try.func21, Try.ntmps21
  go_wp2_with fail
  refine held_begin (S := fun wx => Frm (rb :: vb v) w wx) (by kernel_rfl) ?_
  refine held_row_at (fuel := 1) (is := [0, 1, 2, 3, 4, 5, 6, 7, 8, 9, 10, 11, 12]) (.cons rfl (.cons rfl (.cons rfl (.cons rfl (.cons rfl (.cons rfl (.cons rfl (.cons rfl (.cons rfl (.cons rfl (.cons rfl (.cons rfl (.cons rfl .nil))))))))))))) (by kernel_rfl) (fun _ _ _ _ _ h => h) rfl (by kernel_rfl) (Frm.refl _ _).drew1 ?_
  intro K hK
  repeat (go_big_quiet_step (fail))
  refine wpQuiet_nil (hK _ ?_)
  clear hK K
  refine held_call (fuel := 0) (i := 13) rfl (by kernel_rfl) ?_
  go_wp2_with fail
  refine (rStore_any (HA.out.frm' (S := []) ((Frm.refl _ w).drew1) (by simp) (by simp)) (first + 1) (x)).mono ?_; rintro e w1 ⟨rfl, hA, hF⟩; have HA1 := Lib.hid hA; have HF1 := Lib.hid (((Frm.refl (rb :: vb v) w).drew1).trans hF); have H1 := Lib.hid (H.out.frm HF1.out HNB.out); have k3 := H1.out.box.cell (i := 3) rfl; have k4 := H1.out.box.cell (i := 4) rfl; have k5 := H1.out.box.cell (i := 5) rfl; have kz := H1.out.box.frozen; clear hA hF
  go_wp2_with fail
  refine onNormal_mk ⟨HF1.out, ?_⟩
  refine held_end (by kernel_rfl) ?_
  clear hne hz0 hz1 hz4 hz5
  have HB := Lib.hid (H1.out)
  have HA2 := Lib.hid (HA1.out)
  have HF2 := Lib.hid ((HF1.out.mono (S' := yb :: rb :: vb v) (fun _ hm => List.mem_cons_of_mem _ hm)))
  clear k3 k4 k5 kz
  have k3 := HB.out.box.cell (i := 3) rfl
  have k4 := HB.out.box.cell (i := 4) rfl
  have k5 := HB.out.box.cell (i := 5) rfl
  have k6 := HB.out.box.cell (i := 6) rfl
  have kz := HB.out.box.frozen
  clear H1 HA1 HF1
  have HR := Lib.hid (And.intro (HB.out.set3 0 (by omega)) (And.intro ((HA2.out).frm' ((Frm.refl [yb] _).set ⟨yb, 3, none⟩ (.int .i64 0) (.inl (by simp))) (fun hm => HNB.out (by simp at hm; simp [hm])) (fun k hk hm => HNB.out (by simp at hm; subst hm; simp [vb, hk]))) (HF2.out.set ⟨yb, 3, none⟩ (.int .i64 0) (.inl (by simp)))))
  clear HB HA2 HF2
  go_wp2
  go_ret
  exact ⟨rfl, HR.out.1, HR.out.2.1, HR.out.2.2⟩
set_option maxRecDepth 100000 in
theorem rstep2 (h : RbAt w yb rb first things ⟨2, x, n, got⟩) (hA : RfAt w rb v A) (hne : yb ∉ (rb :: vb v)) : Calls Try.prog 21 #[.pointer (some ⟨yb, 0, none⟩)] w fun e w' => e = .returned (.bool false) ∧
    RbAt w' yb rb first things ⟨3, x, A.get (first + 1), got⟩ ∧ RfAt w' rb v (A.load (first + 1)) ∧ Frm (yb :: rb :: vb v) w w' := by
  have HNB := Lib.hid hne
  generalize hv : A.get ((first : Int) + 1) = m at ⊢
  have HG := Lib.hid hv
  clear hv
  have hfb := h.fb
  have c3 := h.box.cell (i := 3) rfl
  have c4 := h.box.cell (i := 4) rfl
  have c5 := h.box.cell (i := 5) rfl
  have H := Lib.hid h
  have hne : Nonempty (HW (fun wx => Frm (yb :: rb :: vb v) w wx ∧ wx.cell? ⟨yb, 0, none⟩ = some (.pointer (some ⟨rb, 0, none⟩)) ∧ wx.cell? ⟨yb, 1, none⟩ = some (.int .i64 first) ∧ wx.cell? ⟨yb, 4, none⟩ = some (.int .i64 x))) := ⟨⟨w, ⟨Frm.refl _ _, h.box.cell (i := 0) rfl, h.box.cell (i := 1) rfl, h.box.cell (i := 4) rfl⟩⟩⟩
  have hz0 : ∀ q : HW (fun wx => Frm (yb :: rb :: vb v) w wx ∧ wx.cell? ⟨yb, 0, none⟩ = some (.pointer (some ⟨rb, 0, none⟩)) ∧ wx.cell? ⟨yb, 1, none⟩ = some (.int .i64 first) ∧ wx.cell? ⟨yb, 4, none⟩ = some (.int .i64 x)), q.w.cell? ⟨yb, 0, none⟩ = some (.pointer (some ⟨rb, 0, none⟩)) := fun q => q.h.2.1
  have hz1 : ∀ q : HW (fun wx => Frm (yb :: rb :: vb v) w wx ∧ wx.cell? ⟨yb, 0, none⟩ = some (.pointer (some ⟨rb, 0, none⟩)) ∧ wx.cell? ⟨yb, 1, none⟩ = some (.int .i64 first) ∧ wx.cell? ⟨yb, 4, none⟩ = some (.int .i64 x)), q.w.cell? ⟨yb, 1, none⟩ = some (.int .i64 first) := fun q => q.h.2.2.1
  have hz4 : ∀ q : HW (fun wx => Frm (yb :: rb :: vb v) w wx ∧ wx.cell? ⟨yb, 0, none⟩ = some (.pointer (some ⟨rb, 0, none⟩)) ∧ wx.cell? ⟨yb, 1, none⟩ = some (.int .i64 first) ∧ wx.cell? ⟨yb, 4, none⟩ = some (.int .i64 x)), q.w.cell? ⟨yb, 4, none⟩ = some (.int .i64 x) := fun q => q.h.2.2.2
  have HA := Lib.hid hA
  clear h hA
  go_enter Try.func21, Try.ntmps21
  go_wp2_with fail
  refine held_begin (S := fun wx => Frm (yb :: rb :: vb v) w wx ∧ wx.cell? ⟨yb, 0, none⟩ = some (.pointer (some ⟨rb, 0, none⟩)) ∧ wx.cell? ⟨yb, 1, none⟩ = some (.int .i64 first) ∧ wx.cell? ⟨yb, 4, none⟩ = some (.int .i64 x)) (by kernel_rfl) ?_
  refine held_row_at (fuel := 4) (is := [0, 1, 2, 3, 4, 5, 6, 7, 8, 9]) (.cons rfl (.cons rfl (.cons rfl (.cons rfl (.cons rfl (.cons rfl (.cons rfl (.cons rfl (.cons rfl (.cons rfl .nil)))))))))) (by kernel_rfl) (fun _ _ _ _ _ h => h) rfl (by kernel_rfl) ⟨(Frm.refl _ _).drew1, H.out.box.drew1.cell (i := 0) rfl, H.out.box.drew1.cell (i := 1) rfl, H.out.box.drew1.cell (i := 4) rfl⟩ ?_
  intro K hK
  repeat (go_big_quiet_step (fail))
  refine wpQuiet_nil (hK _ ?_)
  clear hK K
  refine held_call (fuel := 3) (i := 10) rfl (by kernel_rfl) ?_
  go_wp2_with fail
  refine (rLoad_any (HA.out.frm' (S := []) ((Frm.refl _ w).drew1) (by simp) (by simp)) (first + 1)).mono ?_; rw [HG.out]; rintro e w1 ⟨rfl, hA, hF⟩; have HA1 := Lib.hid hA; have HF1 := Lib.hid (((Frm.refl (rb :: vb v) w).drew1).trans hF); have H1 := Lib.hid (H.out.frm HF1.out HNB.out); have k3 := H1.out.box.cell (i := 3) rfl; have k4 := H1.out.box.cell (i := 4) rfl; have k5 := H1.out.box.cell (i := 5) rfl; have kz := H1.out.box.frozen; clear hA hF
  go_wp2_with fail
  refine onNormal_mk ⟨⟨(HF1.out.mono (S' := yb :: rb :: vb v) (fun _ hm => List.mem_cons_of_mem _ hm)), H1.out.box.cell (i := 0) rfl, H1.out.box.cell (i := 1) rfl, H1.out.box.cell (i := 4) rfl⟩, ?_⟩
  refine held_row_at (fuel := 1) (is := [11, 12]) (.cons rfl (.cons rfl .nil)) (by kernel_rfl) (fun _ _ _ _ _ h => h) rfl (by kernel_rfl) ⟨(HF1.out.mono (S' := yb :: rb :: vb v) (fun _ hm => List.mem_cons_of_mem _ hm)), H1.out.box.cell (i := 0) rfl, H1.out.box.cell (i := 1) rfl, H1.out.box.cell (i := 4) rfl⟩ ?_
  intro K hK
  repeat (go_big_quiet_step (fail))
  refine wpQuiet_nil (hK _ ?_)
  clear hK K
  refine held_call (fuel := 0) (i := 13) rfl (by kernel_rfl) ?_
  go_wp2_with fail
  refine onNormal_mk ⟨⟨(HF1.out.mono (S' := yb :: rb :: vb v) (fun _ hm => List.mem_cons_of_mem _ hm)).set ⟨yb, 5, none⟩ (.int .i64 m) (.inl (by simp)), (H1.out.box.set 5 (.int .i64 m)).cell (i := 0) rfl, (H1.out.box.set 5 (.int .i64 m)).cell (i := 1) rfl, (H1.out.box.set 5 (.int .i64 m)).cell (i := 4) rfl⟩, ?_⟩
  refine held_end (by kernel_rfl) ?_
  clear hne hz0 hz1 hz4
  have HB := Lib.hid ((H1.out).set5 (m))
  have HA2 := Lib.hid ((HA1.out).frm' ((Frm.refl [yb] _).set ⟨yb, 5, none⟩ (.int .i64 m) (.inl (by simp))) (fun hm => HNB.out (by simp at hm; simp [hm])) (fun k hk hm => HNB.out (by simp at hm; subst hm; simp [vb, hk])))
  have HF2 := Lib.hid (((HF1.out.mono (S' := yb :: rb :: vb v) (fun _ hm => List.mem_cons_of_mem _ hm))).set ⟨yb, 5, none⟩ (.int .i64 m) (.inl (by simp)))
  clear k3 k4 k5 kz
  generalize (w1.setCell ⟨yb, 5, none⟩ (.int .i64 m)) = W2 at *
  have k3 := HB.out.box.cell (i := 3) rfl
  have k4 := HB.out.box.cell (i := 4) rfl
  have k5 := HB.out.box.cell (i := 5) rfl
  have k6 := HB.out.box.cell (i := 6) rfl
  have kz := HB.out.box.frozen
  clear H1 HA1 HF1
  have HR := Lib.hid (And.intro (HB.out.set3 3 (by omega)) (And.intro ((HA2.out).frm' ((Frm.refl [yb] _).set ⟨yb, 3, none⟩ (.int .i64 3) (.inl (by simp))) (fun hm => HNB.out (by simp at hm; simp [hm])) (fun k hk hm => HNB.out (by simp at hm; subst hm; simp [vb, hk]))) (HF2.out.set ⟨yb, 3, none⟩ (.int .i64 3) (.inl (by simp)))))
  clear HB HA2 HF2
  go_wp2
  go_ret
  exact ⟨rfl, HR.out.1, HR.out.2.1, HR.out.2.2⟩
set_option maxRecDepth 100000 in
theorem rstep3a (h : RbAt w yb rb first things ⟨3, x, n, got⟩) (hA : RfAt w rb v A) (hne : yb ∉ (rb :: vb v)) (hg : ¬ n = 0) : Calls Try.prog 21 #[.pointer (some ⟨yb, 0, none⟩)] w fun e w' => e = .returned (.bool false) ∧
    RbAt w' yb rb first things ⟨4, x, n, got⟩ ∧ RfAt w' rb v (A.store (bLink first n) x) ∧ Frm (yb :: rb :: vb v) w w' := by
  have HNB := Lib.hid hne
  have e0 : (n == 0) = false := by simpa using hg
  clear hg
  have hfb := h.fb
  have c3 := h.box.cell (i := 3) rfl
  have c4 := h.box.cell (i := 4) rfl
  have c5 := h.box.cell (i := 5) rfl
  have H := Lib.hid h
  have hne : Nonempty (HW (fun wx => Frm (rb :: vb v) w wx)) := ⟨⟨w, Frm.refl _ _⟩⟩
  have hz0 : ∀ q : HW (fun wx => Frm (rb :: vb v) w wx), q.w.cell? ⟨yb, 0, none⟩ = some (.pointer (some ⟨rb, 0, none⟩)) := fun q => (h.box.frm q.h HNB.out).cell (i := 0) rfl
  have hz1 : ∀ q : HW (fun wx => Frm (rb :: vb v) w wx), q.w.cell? ⟨yb, 1, none⟩ = some (.int .i64 first) := fun q => (h.box.frm q.h HNB.out).cell (i := 1) rfl
  have hz4 : ∀ q : HW (fun wx => Frm (rb :: vb v) w wx), q.w.cell? ⟨yb, 4, none⟩ = some (.int .i64 x) := fun q => (h.box.frm q.h HNB.out).cell (i := 4) rfl
  have hz5 : ∀ q : HW (fun wx => Frm (rb :: vb v) w wx), q.w.cell? ⟨yb, 5, none⟩ = some (.int .i64 n) := fun q => (h.box.frm q.h HNB.out).cell (i := 5) rfl
  have HA := Lib.hid hA
  clear h hA
  go_enter Try.func21, Try.ntmps21
  go_wp2_with fail
  refine held_begin (S := fun wx => Frm (rb :: vb v) w wx) (by kernel_rfl) ?_
  refine held_row_at (fuel := 1) (is := [0, 1, 2, 3, 4, 5, 6, 7, 8, 9, 10, 11, 12, 13, 14, 15, 16, 17]) (.cons rfl (.cons rfl (.cons rfl (.cons rfl (.cons rfl (.cons rfl (.cons rfl (.cons rfl (.cons rfl (.cons rfl (.cons rfl (.cons rfl (.cons rfl (.cons rfl (.cons rfl (.cons rfl (.cons rfl (.cons rfl .nil)))))))))))))))))) (by kernel_rfl) (fun _ _ _ _ _ h => h) rfl (by kernel_rfl) (Frm.refl _ _).drew1 ?_
  intro K hK
  repeat (go_big_quiet_step (fail))
  refine wpQuiet_nil (hK _ ?_)
  clear hK K
  refine held_call (fuel := 0) (i := 18) rfl (by kernel_rfl) ?_
  go_wp2_with fail
  refine (rStore_any (HA.out.frm' (S := []) ((Frm.refl _ w).drew1) (by simp) (by simp)) (bLink first n) (x)).mono ?_; rintro e w1 ⟨rfl, hA, hF⟩; have HA1 := Lib.hid hA; have HF1 := Lib.hid (((Frm.refl (rb :: vb v) w).drew1).trans hF); have H1 := Lib.hid (H.out.frm HF1.out HNB.out); have k3 := H1.out.box.cell (i := 3) rfl; have k4 := H1.out.box.cell (i := 4) rfl; have k5 := H1.out.box.cell (i := 5) rfl; have kz := H1.out.box.frozen; clear hA hF
  go_wp2_with fail
  refine onNormal_mk ⟨HF1.out, ?_⟩
  refine held_end (by kernel_rfl) ?_
  clear hne hz0 hz1 hz4 hz5
  have HB := Lib.hid (H1.out)
  have HA2 := Lib.hid (HA1.out)
  have HF2 := Lib.hid ((HF1.out.mono (S' := yb :: rb :: vb v) (fun _ hm => List.mem_cons_of_mem _ hm)))
  clear k3 k4 k5 kz
  have k3 := HB.out.box.cell (i := 3) rfl
  have k4 := HB.out.box.cell (i := 4) rfl
  have k5 := HB.out.box.cell (i := 5) rfl
  have k6 := HB.out.box.cell (i := 6) rfl
  have kz := HB.out.box.frozen
  clear H1 HA1 HF1
  have HR := Lib.hid (And.intro (HB.out.set3 4 (by omega)) (And.intro ((HA2.out).frm' ((Frm.refl [yb] _).set ⟨yb, 3, none⟩ (.int .i64 4) (.inl (by simp))) (fun hm => HNB.out (by simp at hm; simp [hm])) (fun k hk hm => HNB.out (by simp at hm; subst hm; simp [vb, hk]))) (HF2.out.set ⟨yb, 3, none⟩ (.int .i64 4) (.inl (by simp)))))
  clear HB HA2 HF2
  go_wp2
  go_ret
  exact ⟨rfl, HR.out.1, HR.out.2.1, HR.out.2.2⟩
set_option maxRecDepth 100000 in
theorem rstep3b (h : RbAt w yb rb first things ⟨3, x, n, got⟩) (hA : RfAt w rb v A) (hne : yb ∉ (rb :: vb v)) (hg : n = 0) : Calls Try.prog 21 #[.pointer (some ⟨yb, 0, none⟩)] w fun e w' => e = .returned (.bool false) ∧
    RbAt w' yb rb first things ⟨4, x, n, got⟩ ∧ RfAt w' rb v (A.store first x) ∧ Frm (yb :: rb :: vb v) w w' := by
  have HNB := Lib.hid hne
  have e0 : (n == 0) = true := by simpa using hg
  clear hg
  have hfb := h.fb
  have c3 := h.box.cell (i := 3) rfl
  have c4 := h.box.cell (i := 4) rfl
  have c5 := h.box.cell (i := 5) rfl
  have H := Lib.hid h
  have hne : Nonempty (HW (fun wx => Frm (rb :: vb v) w wx)) := ⟨⟨w, Frm.refl _ _⟩⟩
  have hz0 : ∀ q : HW (fun wx => Frm (rb :: vb v) w wx), q.w.cell? ⟨yb, 0, none⟩ = some (.pointer (some ⟨rb, 0, none⟩)) := fun q => (h.box.frm q.h HNB.out).cell (i := 0) rfl
  have hz1 : ∀ q : HW (fun wx => Frm (rb :: vb v) w wx), q.w.cell? ⟨yb, 1, none⟩ = some (.int .i64 first) := fun q => (h.box.frm q.h HNB.out).cell (i := 1) rfl
  have hz4 : ∀ q : HW (fun wx => Frm (rb :: vb v) w wx), q.w.cell? ⟨yb, 4, none⟩ = some (.int .i64 x) := fun q => (h.box.frm q.h HNB.out).cell (i := 4) rfl
  have hz5 : ∀ q : HW (fun wx => Frm (rb :: vb v) w wx), q.w.cell? ⟨yb, 5, none⟩ = some (.int .i64 n) := fun q => (h.box.frm q.h HNB.out).cell (i := 5) rfl
  have HA := Lib.hid hA
  clear h hA
  go_enter Try.func21, Try.ntmps21
  go_wp2_with fail
  refine held_begin (S := fun wx => Frm (rb :: vb v) w wx) (by kernel_rfl) ?_
  refine held_row_at (fuel := 1) (is := [0, 1, 2, 3, 4, 5, 6, 7, 8, 9, 10, 11]) (.cons rfl (.cons rfl (.cons rfl (.cons rfl (.cons rfl (.cons rfl (.cons rfl (.cons rfl (.cons rfl (.cons rfl (.cons rfl (.cons rfl .nil)))))))))))) (by kernel_rfl) (fun _ _ _ _ _ h => h) rfl (by kernel_rfl) (Frm.refl _ _).drew1 ?_
  intro K hK
  repeat (go_big_quiet_step (fail))
  refine wpQuiet_nil (hK _ ?_)
  clear hK K
  refine held_call (fuel := 0) (i := 12) rfl (by kernel_rfl) ?_
  go_wp2_with fail
  refine (rStore_any (HA.out.frm' (S := []) ((Frm.refl _ w).drew1) (by simp) (by simp)) (first) (x)).mono ?_; rintro e w1 ⟨rfl, hA, hF⟩; have HA1 := Lib.hid hA; have HF1 := Lib.hid (((Frm.refl (rb :: vb v) w).drew1).trans hF); have H1 := Lib.hid (H.out.frm HF1.out HNB.out); have k3 := H1.out.box.cell (i := 3) rfl; have k4 := H1.out.box.cell (i := 4) rfl; have k5 := H1.out.box.cell (i := 5) rfl; have kz := H1.out.box.frozen; clear hA hF
  go_wp2_with fail
  refine onNormal_mk ⟨HF1.out, ?_⟩
  refine held_end (by kernel_rfl) ?_
  clear hne hz0 hz1 hz4 hz5
  have HB := Lib.hid (H1.out)
  have HA2 := Lib.hid (HA1.out)
  have HF2 := Lib.hid ((HF1.out.mono (S' := yb :: rb :: vb v) (fun _ hm => List.mem_cons_of_mem _ hm)))
  clear k3 k4 k5 kz
  have k3 := HB.out.box.cell (i := 3) rfl
  have k4 := HB.out.box.cell (i := 4) rfl
  have k5 := HB.out.box.cell (i := 5) rfl
  have k6 := HB.out.box.cell (i := 6) rfl
  have kz := HB.out.box.frozen
  clear H1 HA1 HF1
  have HR := Lib.hid (And.intro (HB.out.set3 4 (by omega)) (And.intro ((HA2.out).frm' ((Frm.refl [yb] _).set ⟨yb, 3, none⟩ (.int .i64 4) (.inl (by simp))) (fun hm => HNB.out (by simp at hm; simp [hm])) (fun k hk hm => HNB.out (by simp at hm; subst hm; simp [vb, hk]))) (HF2.out.set ⟨yb, 3, none⟩ (.int .i64 4) (.inl (by simp)))))
  clear HB HA2 HF2
  go_wp2
  go_ret
  exact ⟨rfl, HR.out.1, HR.out.2.1, HR.out.2.2⟩
set_option maxRecDepth 100000 in
theorem rstep5a (h : RbAt w yb rb first things ⟨5, x, n, got⟩) (hA : RfAt w rb v A) (hne : yb ∉ (rb :: vb v)) (hg : A.get first = 0) : Calls Try.prog 21 #[.pointer (some ⟨yb, 0, none⟩)] w fun e w' => e = .returned (.bool true) ∧
    RbAt w' yb rb first things ⟨0, 0, n, 0⟩ ∧ RfAt w' rb v (A.load first) ∧ Frm (yb :: rb :: vb v) w w' := by
  have HNB := Lib.hid hne
  have HG := Lib.hid hg
  clear hg
  have hfb := h.fb
  have c3 := h.box.cell (i := 3) rfl
  have c4 := h.box.cell (i := 4) rfl
  have c5 := h.box.cell (i := 5) rfl
  have H := Lib.hid h
  have hne : Nonempty (HW (fun wx => Frm (yb :: rb :: vb v) w wx ∧ wx.cell? ⟨yb, 0, none⟩ = some (.pointer (some ⟨rb, 0, none⟩)) ∧ wx.cell? ⟨yb, 1, none⟩ = some (.int .i64 first))) := ⟨⟨w, ⟨Frm.refl _ _, h.box.cell (i := 0) rfl, h.box.cell (i := 1) rfl⟩⟩⟩
  have hz0 : ∀ q : HW (fun wx => Frm (yb :: rb :: vb v) w wx ∧ wx.cell? ⟨yb, 0, none⟩ = some (.pointer (some ⟨rb, 0, none⟩)) ∧ wx.cell? ⟨yb, 1, none⟩ = some (.int .i64 first)), q.w.cell? ⟨yb, 0, none⟩ = some (.pointer (some ⟨rb, 0, none⟩)) := fun q => q.h.2.1
  have hz1 : ∀ q : HW (fun wx => Frm (yb :: rb :: vb v) w wx ∧ wx.cell? ⟨yb, 0, none⟩ = some (.pointer (some ⟨rb, 0, none⟩)) ∧ wx.cell? ⟨yb, 1, none⟩ = some (.int .i64 first)), q.w.cell? ⟨yb, 1, none⟩ = some (.int .i64 first) := fun q => q.h.2.2
  have HA := Lib.hid hA
  clear h hA
  go_enter Try.func21, Try.ntmps21
  go_wp2_with fail
  refine held_begin (S := fun wx => Frm (yb :: rb :: vb v) w wx ∧ wx.cell? ⟨yb, 0, none⟩ = some (.pointer (some ⟨rb, 0, none⟩)) ∧ wx.cell? ⟨yb, 1, none⟩ = some (.int .i64 first)) (by kernel_rfl) ?_
  refine held_row_at (fuel := 4) (is := [0, 1, 2, 3, 4, 5, 6, 7, 8]) (.cons rfl (.cons rfl (.cons rfl (.cons rfl (.cons rfl (.cons rfl (.cons rfl (.cons rfl (.cons rfl .nil))))))))) (by kernel_rfl) (fun _ _ _ _ _ h => h) rfl (by kernel_rfl) ⟨(Frm.refl _ _).drew1, H.out.box.drew1.cell (i := 0) rfl, H.out.box.drew1.cell (i := 1) rfl⟩ ?_
  intro K hK
  repeat (go_big_quiet_step (fail))
  refine wpQuiet_nil (hK _ ?_)
  clear hK K
  refine held_call (fuel := 3) (i := 9) rfl (by kernel_rfl) ?_
  go_wp2_with fail
  refine (rLoad_any (HA.out.frm' (S := []) ((Frm.refl _ w).drew1) (by simp) (by simp)) (first)).mono ?_; rw [HG.out]; rintro e w1 ⟨rfl, hA, hF⟩; have HA1 := Lib.hid hA; have HF1 := Lib.hid (((Frm.refl (rb :: vb v) w).drew1).trans hF); have H1 := Lib.hid (H.out.frm HF1.out HNB.out); have k3 := H1.out.box.cell (i := 3) rfl; have k4 := H1.out.box.cell (i := 4) rfl; have k5 := H1.out.box.cell (i := 5) rfl; have kz := H1.out.box.frozen; clear hA hF
  go_wp2_with fail
  refine onNormal_mk ⟨⟨(HF1.out.mono (S' := yb :: rb :: vb v) (fun _ hm => List.mem_cons_of_mem _ hm)), H1.out.box.cell (i := 0) rfl, H1.out.box.cell (i := 1) rfl⟩, ?_⟩
  refine held_row_at (fuel := 1) (is := [10, 11]) (.cons rfl (.cons rfl .nil)) (by kernel_rfl) (fun _ _ _ _ _ h => h) rfl (by kernel_rfl) ⟨(HF1.out.mono (S' := yb :: rb :: vb v) (fun _ hm => List.mem_cons_of_mem _ hm)), H1.out.box.cell (i := 0) rfl, H1.out.box.cell (i := 1) rfl⟩ ?_
  intro K hK
  repeat (go_big_quiet_step (fail))
  refine wpQuiet_nil (hK _ ?_)
  clear hK K
  refine held_call (fuel := 0) (i := 12) rfl (by kernel_rfl) ?_
  go_wp2_with fail
  refine onNormal_mk ⟨⟨(HF1.out.mono (S' := yb :: rb :: vb v) (fun _ hm => List.mem_cons_of_mem _ hm)).set ⟨yb, 4, none⟩ (.int .i64 0) (.inl (by simp)), (H1.out.box.set 4 (.int .i64 0)).cell (i := 0) rfl, (H1.out.box.set 4 (.int .i64 0)).cell (i := 1) rfl⟩, ?_⟩
  refine held_end (by kernel_rfl) ?_
  clear hne hz0 hz1
  have HB := Lib.hid ((H1.out).set4 (0))
  have HA2 := Lib.hid ((HA1.out).frm' ((Frm.refl [yb] _).set ⟨yb, 4, none⟩ (.int .i64 0) (.inl (by simp))) (fun hm => HNB.out (by simp at hm; simp [hm])) (fun k hk hm => HNB.out (by simp at hm; subst hm; simp [vb, hk])))
  have HF2 := Lib.hid (((HF1.out.mono (S' := yb :: rb :: vb v) (fun _ hm => List.mem_cons_of_mem _ hm))).set ⟨yb, 4, none⟩ (.int .i64 0) (.inl (by simp)))
  clear k3 k4 k5 kz
  generalize (w1.setCell ⟨yb, 4, none⟩ (.int .i64 0)) = W2 at *
  have k3 := HB.out.box.cell (i := 3) rfl
  have k4 := HB.out.box.cell (i := 4) rfl
  have k5 := HB.out.box.cell (i := 5) rfl
  have k6 := HB.out.box.cell (i := 6) rfl
  have kz := HB.out.box.frozen
  clear H1 HA1 HF1
  have hj := HB.out.set3 0 (by omega)
  have j4 := hj.box.cell (i := 4) rfl
  have j6 := hj.box.cell (i := 6) rfl
  have jz := hj.box.frozen
  clear hj
  have HR := Lib.hid (And.intro ((HB.out.set3 0 (by omega)).set6 (0)) (And.intro ((((HA2.out).frm' ((Frm.refl [yb] _).set ⟨yb, 3, none⟩ (.int .i64 0) (.inl (by simp))) (fun hm => HNB.out (by simp at hm; simp [hm])) (fun k hk hm => HNB.out (by simp at hm; subst hm; simp [vb, hk])))).frm' ((Frm.refl [yb] _).set ⟨yb, 6, none⟩ (.int .i64 0) (.inl (by simp))) (fun hm => HNB.out (by simp at hm; simp [hm])) (fun k hk hm => HNB.out (by simp at hm; subst hm; simp [vb, hk]))) ((HF2.out.set ⟨yb, 3, none⟩ (.int .i64 0) (.inl (by simp))).set ⟨yb, 6, none⟩ (.int .i64 0) (.inl (by simp)))))
  clear HB HA2 HF2
  go_wp2
  go_ret
  exact ⟨rfl, HR.out.1, HR.out.2.1, HR.out.2.2⟩
set_option maxRecDepth 100000 in
theorem rstep5b (h : RbAt w yb rb first things ⟨5, x, n, got⟩) (hA : RfAt w rb v A) (hne : yb ∉ (rb :: vb v)) (hg : ¬ A.get first = 0) : Calls Try.prog 21 #[.pointer (some ⟨yb, 0, none⟩)] w fun e w' => e = .returned (.bool false) ∧
    RbAt w' yb rb first things ⟨6, A.get first, n, got⟩ ∧ RfAt w' rb v (A.load first) ∧ Frm (yb :: rb :: vb v) w w' := by
  have HNB := Lib.hid hne
  generalize hv : A.get (first : Int) = m at hg ⊢
  have HG := Lib.hid hv
  clear hv
  have e0 : (m == 0) = false := by simpa using hg
  clear hg
  have hfb := h.fb
  have c3 := h.box.cell (i := 3) rfl
  have c4 := h.box.cell (i := 4) rfl
  have c5 := h.box.cell (i := 5) rfl
  have H := Lib.hid h
  have hne : Nonempty (HW (fun wx => Frm (yb :: rb :: vb v) w wx ∧ wx.cell? ⟨yb, 0, none⟩ = some (.pointer (some ⟨rb, 0, none⟩)) ∧ wx.cell? ⟨yb, 1, none⟩ = some (.int .i64 first))) := ⟨⟨w, ⟨Frm.refl _ _, h.box.cell (i := 0) rfl, h.box.cell (i := 1) rfl⟩⟩⟩
  have hz0 : ∀ q : HW (fun wx => Frm (yb :: rb :: vb v) w wx ∧ wx.cell? ⟨yb, 0, none⟩ = some (.pointer (some ⟨rb, 0, none⟩)) ∧ wx.cell? ⟨yb, 1, none⟩ = some (.int .i64 first)), q.w.cell? ⟨yb, 0, none⟩ = some (.pointer (some ⟨rb, 0, none⟩)) := fun q => q.h.2.1
  have hz1 : ∀ q : HW (fun wx => Frm (yb :: rb :: vb v) w wx ∧ wx.cell? ⟨yb, 0, none⟩ = some (.pointer (some ⟨rb, 0, none⟩)) ∧ wx.cell? ⟨yb, 1, none⟩ = some (.int .i64 first)), q.w.cell? ⟨yb, 1, none⟩ = some (.int .i64 first) := fun q => q.h.2.2
  have HA := Lib.hid hA
  clear h hA
  go_enter Try.func21, Try.ntmps21
  go_wp2_with fail
  refine held_begin (S := fun wx => Frm (yb :: rb :: vb v) w wx ∧ wx.cell? ⟨yb, 0, none⟩ = some (.pointer (some ⟨rb, 0, none⟩)) ∧ wx.cell? ⟨yb, 1, none⟩ = some (.int .i64 first)) (by kernel_rfl) ?_
  refine held_row_at (fuel := 4) (is := [0, 1, 2, 3, 4, 5, 6, 7, 8]) (.cons rfl (.cons rfl (.cons rfl (.cons rfl (.cons rfl (.cons rfl (.cons rfl (.cons rfl (.cons rfl .nil))))))))) (by kernel_rfl) (fun _ _ _ _ _ h => h) rfl (by kernel_rfl) ⟨(Frm.refl _ _).drew1, H.out.box.drew1.cell (i := 0) rfl, H.out.box.drew1.cell (i := 1) rfl⟩ ?_
  intro K hK
  repeat (go_big_quiet_step (fail))
  refine wpQuiet_nil (hK _ ?_)
  clear hK K
  refine held_call (fuel := 3) (i := 9) rfl (by kernel_rfl) ?_
  go_wp2_with fail
  refine (rLoad_any (HA.out.frm' (S := []) ((Frm.refl _ w).drew1) (by simp) (by simp)) (first)).mono ?_; rw [HG.out]; rintro e w1 ⟨rfl, hA, hF⟩; have HA1 := Lib.hid hA; have HF1 := Lib.hid (((Frm.refl (rb :: vb v) w).drew1).trans hF); have H1 := Lib.hid (H.out.frm HF1.out HNB.out); have k3 := H1.out.box.cell (i := 3) rfl; have k4 := H1.out.box.cell (i := 4) rfl; have k5 := H1.out.box.cell (i := 5) rfl; have kz := H1.out.box.frozen; clear hA hF
  go_wp2_with fail
  refine onNormal_mk ⟨⟨(HF1.out.mono (S' := yb :: rb :: vb v) (fun _ hm => List.mem_cons_of_mem _ hm)), H1.out.box.cell (i := 0) rfl, H1.out.box.cell (i := 1) rfl⟩, ?_⟩
  refine held_row_at (fuel := 1) (is := [10, 11]) (.cons rfl (.cons rfl .nil)) (by kernel_rfl) (fun _ _ _ _ _ h => h) rfl (by kernel_rfl) ⟨(HF1.out.mono (S' := yb :: rb :: vb v) (fun _ hm => List.mem_cons_of_mem _ hm)), H1.out.box.cell (i := 0) rfl, H1.out.box.cell (i := 1) rfl⟩ ?_
  intro K hK
  repeat (go_big_quiet_step (fail))
  refine wpQuiet_nil (hK _ ?_)
  clear hK K
  refine held_call (fuel := 0) (i := 12) rfl (by kernel_rfl) ?_
  go_wp2_with fail
  refine onNormal_mk ⟨⟨(HF1.out.mono (S' := yb :: rb :: vb v) (fun _ hm => List.mem_cons_of_mem _ hm)).set ⟨yb, 4, none⟩ (.int .i64 m) (.inl (by simp)), (H1.out.box.set 4 (.int .i64 m)).cell (i := 0) rfl, (H1.out.box.set 4 (.int .i64 m)).cell (i := 1) rfl⟩, ?_⟩
  refine held_end (by kernel_rfl) ?_
  clear hne hz0 hz1
  have HB := Lib.hid ((H1.out).set4 (m))
  have HA2 := Lib.hid ((HA1.out).frm' ((Frm.refl [yb] _).set ⟨yb, 4, none⟩ (.int .i64 m) (.inl (by simp))) (fun hm => HNB.out (by simp at hm; simp [hm])) (fun k hk hm => HNB.out (by simp at hm; subst hm; simp [vb, hk])))
  have HF2 := Lib.hid (((HF1.out.mono (S' := yb :: rb :: vb v) (fun _ hm => List.mem_cons_of_mem _ hm))).set ⟨yb, 4, none⟩ (.int .i64 m) (.inl (by simp)))
  clear k3 k4 k5 kz
  generalize (w1.setCell ⟨yb, 4, none⟩ (.int .i64 m)) = W2 at *
  have k3 := HB.out.box.cell (i := 3) rfl
  have k4 := HB.out.box.cell (i := 4) rfl
  have k5 := HB.out.box.cell (i := 5) rfl
  have k6 := HB.out.box.cell (i := 6) rfl
  have kz := HB.out.box.frozen
  clear H1 HA1 HF1
  have HR := Lib.hid (And.intro (HB.out.set3 6 (by omega)) (And.intro ((HA2.out).frm' ((Frm.refl [yb] _).set ⟨yb, 3, none⟩ (.int .i64 6) (.inl (by simp))) (fun hm => HNB.out (by simp at hm; simp [hm])) (fun k hk hm => HNB.out (by simp at hm; subst hm; simp [vb, hk]))) (HF2.out.set ⟨yb, 3, none⟩ (.int .i64 6) (.inl (by simp)))))
  clear HB HA2 HF2
  go_wp2
  go_ret
  exact ⟨rfl, HR.out.1, HR.out.2.1, HR.out.2.2⟩
set_option maxRecDepth 100000 in
theorem rstep6 (h : RbAt w yb rb first things ⟨6, x, n, got⟩) (hA : RfAt w rb v A) (hne : yb ∉ (rb :: vb v)) : Calls Try.prog 21 #[.pointer (some ⟨yb, 0, none⟩)] w fun e w' => e = .returned (.bool false) ∧
    RbAt w' yb rb first things ⟨7, x, A.get (bLink first x), got⟩ ∧ RfAt w' rb v (A.load (bLink first x)) ∧ Frm (yb :: rb :: vb v) w w' := by
  have HNB := Lib.hid hne
  generalize hv : A.get (bLink first x) = m at ⊢
  have HG := Lib.hid hv
  clear hv
  have hfb := h.fb
  have c3 := h.box.cell (i := 3) rfl
  have c4 := h.box.cell (i := 4) rfl
  have c5 := h.box.cell (i := 5) rfl
  have H := Lib.hid h
  have hne : Nonempty (HW (fun wx => Frm (yb :: rb :: vb v) w wx ∧ wx.cell? ⟨yb, 0, none⟩ = some (.pointer (some ⟨rb, 0, none⟩)) ∧ wx.cell? ⟨yb, 1, none⟩ = some (.int .i64 first) ∧ wx.cell? ⟨yb, 4, none⟩ = some (.int .i64 x))) := ⟨⟨w, ⟨Frm.refl _ _, h.box.cell (i := 0) rfl, h.box.cell (i := 1) rfl, h.box.cell (i := 4) rfl⟩⟩⟩
  have hz0 : ∀ q : HW (fun wx => Frm (yb :: rb :: vb v) w wx ∧ wx.cell? ⟨yb, 0, none⟩ = some (.pointer (some ⟨rb, 0, none⟩)) ∧ wx.cell? ⟨yb, 1, none⟩ = some (.int .i64 first) ∧ wx.cell? ⟨yb, 4, none⟩ = some (.int .i64 x)), q.w.cell? ⟨yb, 0, none⟩ = some (.pointer (some ⟨rb, 0, none⟩)) := fun q => q.h.2.1
  have hz1 : ∀ q : HW (fun wx => Frm (yb :: rb :: vb v) w wx ∧ wx.cell? ⟨yb, 0, none⟩ = some (.pointer (some ⟨rb, 0, none⟩)) ∧ wx.cell? ⟨yb, 1, none⟩ = some (.int .i64 first) ∧ wx.cell? ⟨yb, 4, none⟩ = some (.int .i64 x)), q.w.cell? ⟨yb, 1, none⟩ = some (.int .i64 first) := fun q => q.h.2.2.1
  have hz4 : ∀ q : HW (fun wx => Frm (yb :: rb :: vb v) w wx ∧ wx.cell? ⟨yb, 0, none⟩ = some (.pointer (some ⟨rb, 0, none⟩)) ∧ wx.cell? ⟨yb, 1, none⟩ = some (.int .i64 first) ∧ wx.cell? ⟨yb, 4, none⟩ = some (.int .i64 x)), q.w.cell? ⟨yb, 4, none⟩ = some (.int .i64 x) := fun q => q.h.2.2.2
  have HA := Lib.hid hA
  clear h hA
  go_enter Try.func21, Try.ntmps21
  go_wp2_with fail
  refine held_begin (S := fun wx => Frm (yb :: rb :: vb v) w wx ∧ wx.cell? ⟨yb, 0, none⟩ = some (.pointer (some ⟨rb, 0, none⟩)) ∧ wx.cell? ⟨yb, 1, none⟩ = some (.int .i64 first) ∧ wx.cell? ⟨yb, 4, none⟩ = some (.int .i64 x)) (by kernel_rfl) ?_
  refine held_row_at (fuel := 4) (is := [0, 1, 2, 3, 4, 5, 6, 7, 8, 9, 10, 11, 12, 13, 14]) (.cons rfl (.cons rfl (.cons rfl (.cons rfl (.cons rfl (.cons rfl (.cons rfl (.cons rfl (.cons rfl (.cons rfl (.cons rfl (.cons rfl (.cons rfl (.cons rfl (.cons rfl .nil))))))))))))))) (by kernel_rfl) (fun _ _ _ _ _ h => h) rfl (by kernel_rfl) ⟨(Frm.refl _ _).drew1, H.out.box.drew1.cell (i := 0) rfl, H.out.box.drew1.cell (i := 1) rfl, H.out.box.drew1.cell (i := 4) rfl⟩ ?_
  intro K hK
  repeat (go_big_quiet_step (fail))
  refine wpQuiet_nil (hK _ ?_)
  clear hK K
  refine held_call (fuel := 3) (i := 15) rfl (by kernel_rfl) ?_
  go_wp2_with fail
  refine (rLoad_any (HA.out.frm' (S := []) ((Frm.refl _ w).drew1) (by simp) (by simp)) (bLink first x)).mono ?_; rw [HG.out]; rintro e w1 ⟨rfl, hA, hF⟩; have HA1 := Lib.hid hA; have HF1 := Lib.hid (((Frm.refl (rb :: vb v) w).drew1).trans hF); have H1 := Lib.hid (H.out.frm HF1.out HNB.out); have k3 := H1.out.box.cell (i := 3) rfl; have k4 := H1.out.box.cell (i := 4) rfl; have k5 := H1.out.box.cell (i := 5) rfl; have kz := H1.out.box.frozen; clear hA hF
  go_wp2_with fail
  refine onNormal_mk ⟨⟨(HF1.out.mono (S' := yb :: rb :: vb v) (fun _ hm => List.mem_cons_of_mem _ hm)), H1.out.box.cell (i := 0) rfl, H1.out.box.cell (i := 1) rfl, H1.out.box.cell (i := 4) rfl⟩, ?_⟩
  refine held_row_at (fuel := 1) (is := [16, 17]) (.cons rfl (.cons rfl .nil)) (by kernel_rfl) (fun _ _ _ _ _ h => h) rfl (by kernel_rfl) ⟨(HF1.out.mono (S' := yb :: rb :: vb v) (fun _ hm => List.mem_cons_of_mem _ hm)), H1.out.box.cell (i := 0) rfl, H1.out.box.cell (i := 1) rfl, H1.out.box.cell (i := 4) rfl⟩ ?_
  intro K hK
  repeat (go_big_quiet_step (fail))
  refine wpQuiet_nil (hK _ ?_)
  clear hK K
  refine held_call (fuel := 0) (i := 18) rfl (by kernel_rfl) ?_
  go_wp2_with fail
  refine onNormal_mk ⟨⟨(HF1.out.mono (S' := yb :: rb :: vb v) (fun _ hm => List.mem_cons_of_mem _ hm)).set ⟨yb, 5, none⟩ (.int .i64 m) (.inl (by simp)), (H1.out.box.set 5 (.int .i64 m)).cell (i := 0) rfl, (H1.out.box.set 5 (.int .i64 m)).cell (i := 1) rfl, (H1.out.box.set 5 (.int .i64 m)).cell (i := 4) rfl⟩, ?_⟩
  refine held_end (by kernel_rfl) ?_
  clear hne hz0 hz1 hz4
  have HB := Lib.hid ((H1.out).set5 (m))
  have HA2 := Lib.hid ((HA1.out).frm' ((Frm.refl [yb] _).set ⟨yb, 5, none⟩ (.int .i64 m) (.inl (by simp))) (fun hm => HNB.out (by simp at hm; simp [hm])) (fun k hk hm => HNB.out (by simp at hm; subst hm; simp [vb, hk])))
  have HF2 := Lib.hid (((HF1.out.mono (S' := yb :: rb :: vb v) (fun _ hm => List.mem_cons_of_mem _ hm))).set ⟨yb, 5, none⟩ (.int .i64 m) (.inl (by simp)))
  clear k3 k4 k5 kz
  generalize (w1.setCell ⟨yb, 5, none⟩ (.int .i64 m)) = W2 at *
  have k3 := HB.out.box.cell (i := 3) rfl
  have k4 := HB.out.box.cell (i := 4) rfl
  have k5 := HB.out.box.cell (i := 5) rfl
  have k6 := HB.out.box.cell (i := 6) rfl
  have kz := HB.out.box.frozen
  clear H1 HA1 HF1
  have HR := Lib.hid (And.intro (HB.out.set3 7 (by omega)) (And.intro ((HA2.out).frm' ((Frm.refl [yb] _).set ⟨yb, 3, none⟩ (.int .i64 7) (.inl (by simp))) (fun hm => HNB.out (by simp at hm; simp [hm])) (fun k hk hm => HNB.out (by simp at hm; subst hm; simp [vb, hk]))) (HF2.out.set ⟨yb, 3, none⟩ (.int .i64 7) (.inl (by simp)))))
  clear HB HA2 HF2
  go_wp2
  go_ret
  exact ⟨rfl, HR.out.1, HR.out.2.1, HR.out.2.2⟩
set_option maxRecDepth 100000 in
theorem rstep7a (h : RbAt w yb rb first things ⟨7, x, n, got⟩) (hA : RfAt w rb v A) (hne : yb ∉ (rb :: vb v)) (hg : ¬ n = 0) : Calls Try.prog 21 #[.pointer (some ⟨yb, 0, none⟩)] w fun e w' => e = .returned (.bool true) ∧
    RbAt w' yb rb first things ⟨0, x, n, x⟩ ∧ RfAt w' rb v (A.store first n) ∧ Frm (yb :: rb :: vb v) w w' := by
  have HNB := Lib.hid hne
  have e0 : (n != 0) = true := by simpa using hg
  clear hg
  have hfb := h.fb
  have c3 := h.box.cell (i := 3) rfl
  have c4 := h.box.cell (i := 4) rfl
  have c5 := h.box.cell (i := 5) rfl
  have H := Lib.hid h
  have hne : Nonempty (HW (fun wx => Frm (rb :: vb v) w wx)) := ⟨⟨w, Frm.refl _ _⟩⟩
  have hz0 : ∀ q : HW (fun wx => Frm (rb :: vb v) w wx), q.w.cell? ⟨yb, 0, none⟩ = some (.pointer (some ⟨rb, 0, none⟩)) := fun q => (h.box.frm q.h HNB.out).cell (i := 0) rfl
  have hz1 : ∀ q : HW (fun wx => Frm (rb :: vb v) w wx), q.w.cell? ⟨yb, 1, none⟩ = some (.int .i64 first) := fun q => (h.box.frm q.h HNB.out).cell (i := 1) rfl
  have hz4 : ∀ q : HW (fun wx => Frm (rb :: vb v) w wx), q.w.cell? ⟨yb, 4, none⟩ = some (.int .i64 x) := fun q => (h.box.frm q.h HNB.out).cell (i := 4) rfl
  have hz5 : ∀ q : HW (fun wx => Frm (rb :: vb v) w wx), q.w.cell? ⟨yb, 5, none⟩ = some (.int .i64 n) := fun q => (h.box.frm q.h HNB.out).cell (i := 5) rfl
  have HA := Lib.hid hA
  clear h hA
  go_enter Try.func21, Try.ntmps21
  go_wp2_with fail
  refine held_begin (S := fun wx => Frm (rb :: vb v) w wx) (by kernel_rfl) ?_
  refine held_row_at (fuel := 1) (is := [0, 1, 2, 3, 4, 5, 6, 7, 8, 9, 10, 11]) (.cons rfl (.cons rfl (.cons rfl (.cons rfl (.cons rfl (.cons rfl (.cons rfl (.cons rfl (.cons rfl (.cons rfl (.cons rfl (.cons rfl .nil)))))))))))) (by kernel_rfl) (fun _ _ _ _ _ h => h) rfl (by kernel_rfl) (Frm.refl _ _).drew1 ?_
  intro K hK
  repeat (go_big_quiet_step (fail))
  refine wpQuiet_nil (hK _ ?_)
  clear hK K
  refine held_call (fuel := 0) (i := 12) rfl (by kernel_rfl) ?_
  go_wp2_with fail
  refine (rStore_any (HA.out.frm' (S := []) ((Frm.refl _ w).drew1) (by simp) (by simp)) (first) (n)).mono ?_; rintro e w1 ⟨rfl, hA, hF⟩; have HA1 := Lib.hid hA; have HF1 := Lib.hid (((Frm.refl (rb :: vb v) w).drew1).trans hF); have H1 := Lib.hid (H.out.frm HF1.out HNB.out); have k3 := H1.out.box.cell (i := 3) rfl; have k4 := H1.out.box.cell (i := 4) rfl; have k5 := H1.out.box.cell (i := 5) rfl; have kz := H1.out.box.frozen; clear hA hF
  go_wp2_with fail
  refine onNormal_mk ⟨HF1.out, ?_⟩
  refine held_end (by kernel_rfl) ?_
  clear hne hz0 hz1 hz4 hz5
  have HB := Lib.hid (H1.out)
  have HA2 := Lib.hid (HA1.out)
  have HF2 := Lib.hid ((HF1.out.mono (S' := yb :: rb :: vb v) (fun _ hm => List.mem_cons_of_mem _ hm)))
  clear k3 k4 k5 kz
  have k3 := HB.out.box.cell (i := 3) rfl
  have k4 := HB.out.box.cell (i := 4) rfl
  have k5 := HB.out.box.cell (i := 5) rfl
  have k6 := HB.out.box.cell (i := 6) rfl
  have kz := HB.out.box.frozen
  clear H1 HA1 HF1
  have hj := HB.out.set3 0 (by omega)
  have j4 := hj.box.cell (i := 4) rfl
  have j6 := hj.box.cell (i := 6) rfl
  have jz := hj.box.frozen
  clear hj
  have HR := Lib.hid (And.intro ((HB.out.set3 0 (by omega)).set6 (x)) (And.intro ((((HA2.out).frm' ((Frm.refl [yb] _).set ⟨yb, 3, none⟩ (.int .i64 0) (.inl (by simp))) (fun hm => HNB.out (by simp at hm; simp [hm])) (fun k hk hm => HNB.out (by simp at hm; subst hm; simp [vb, hk])))).frm' ((Frm.refl [yb] _).set ⟨yb, 6, none⟩ (.int .i64 x) (.inl (by simp))) (fun hm => HNB.out (by simp at hm; simp [hm])) (fun k hk hm => HNB.out (by simp at hm; subst hm; simp [vb, hk]))) ((HF2.out.set ⟨yb, 3, none⟩ (.int .i64 0) (.inl (by simp))).set ⟨yb, 6, none⟩ (.int .i64 x) (.inl (by simp)))))
  clear HB HA2 HF2
  go_wp2
  go_ret
  exact ⟨rfl, HR.out.1, HR.out.2.1, HR.out.2.2⟩
set_option maxRecDepth 100000 in
theorem rstep7b (h : RbAt w yb rb first things ⟨7, x, n, got⟩) (hA : RfAt w rb v A) (hne : yb ∉ (rb :: vb v)) (hg : n = 0) : Calls Try.prog 21 #[.pointer (some ⟨yb, 0, none⟩)] w fun e w' => e = .returned (.bool false) ∧
    RbAt w' yb rb first things ⟨8, x, n, got⟩ ∧ RfAt w' rb v (A.store first n) ∧ Frm (yb :: rb :: vb v) w w' := by
  have HNB := Lib.hid hne
  have e0 : (n != 0) = false := by simpa using hg
  clear hg
  have hfb := h.fb
  have c3 := h.box.cell (i := 3) rfl
  have c4 := h.box.cell (i := 4) rfl
  have c5 := h.box.cell (i := 5) rfl
  have H := Lib.hid h
  have hne : Nonempty (HW (fun wx => Frm (rb :: vb v) w wx)) := ⟨⟨w, Frm.refl _ _⟩⟩
  have hz0 : ∀ q : HW (fun wx => Frm (rb :: vb v) w wx), q.w.cell? ⟨yb, 0, none⟩ = some (.pointer (some ⟨rb, 0, none⟩)) := fun q => (h.box.frm q.h HNB.out).cell (i := 0) rfl
  have hz1 : ∀ q : HW (fun wx => Frm (rb :: vb v) w wx), q.w.cell? ⟨yb, 1, none⟩ = some (.int .i64 first) := fun q => (h.box.frm q.h HNB.out).cell (i := 1) rfl
  have hz4 : ∀ q : HW (fun wx => Frm (rb :: vb v) w wx), q.w.cell? ⟨yb, 4, none⟩ = some (.int .i64 x) := fun q => (h.box.frm q.h HNB.out).cell (i := 4) rfl
  have hz5 : ∀ q : HW (fun wx => Frm (rb :: vb v) w wx), q.w.cell? ⟨yb, 5, none⟩ = some (.int .i64 n) := fun q => (h.box.frm q.h HNB.out).cell (i := 5) rfl
  have HA := Lib.hid hA
  clear h hA
  go_enter Try.func21, Try.ntmps21
  go_wp2_with fail
  refine held_begin (S := fun wx => Frm (rb :: vb v) w wx) (by kernel_rfl) ?_
  refine held_row_at (fuel := 1) (is := [0, 1, 2, 3, 4, 5, 6, 7, 8, 9, 10, 11]) (.cons rfl (.cons rfl (.cons rfl (.cons rfl (.cons rfl (.cons rfl (.cons rfl (.cons rfl (.cons rfl (.cons rfl (.cons rfl (.cons rfl .nil)))))))))))) (by kernel_rfl) (fun _ _ _ _ _ h => h) rfl (by kernel_rfl) (Frm.refl _ _).drew1 ?_
  intro K hK
  repeat (go_big_quiet_step (fail))
  refine wpQuiet_nil (hK _ ?_)
  clear hK K
  refine held_call (fuel := 0) (i := 12) rfl (by kernel_rfl) ?_
  go_wp2_with fail
  refine (rStore_any (HA.out.frm' (S := []) ((Frm.refl _ w).drew1) (by simp) (by simp)) (first) (n)).mono ?_; rintro e w1 ⟨rfl, hA, hF⟩; have HA1 := Lib.hid hA; have HF1 := Lib.hid (((Frm.refl (rb :: vb v) w).drew1).trans hF); have H1 := Lib.hid (H.out.frm HF1.out HNB.out); have k3 := H1.out.box.cell (i := 3) rfl; have k4 := H1.out.box.cell (i := 4) rfl; have k5 := H1.out.box.cell (i := 5) rfl; have kz := H1.out.box.frozen; clear hA hF
  go_wp2_with fail
  refine onNormal_mk ⟨HF1.out, ?_⟩
  refine held_end (by kernel_rfl) ?_
  clear hne hz0 hz1 hz4 hz5
  have HB := Lib.hid (H1.out)
  have HA2 := Lib.hid (HA1.out)
  have HF2 := Lib.hid ((HF1.out.mono (S' := yb :: rb :: vb v) (fun _ hm => List.mem_cons_of_mem _ hm)))
  clear k3 k4 k5 kz
  have k3 := HB.out.box.cell (i := 3) rfl
  have k4 := HB.out.box.cell (i := 4) rfl
  have k5 := HB.out.box.cell (i := 5) rfl
  have k6 := HB.out.box.cell (i := 6) rfl
  have kz := HB.out.box.frozen
  clear H1 HA1 HF1
  have HR := Lib.hid (And.intro (HB.out.set3 8 (by omega)) (And.intro ((HA2.out).frm' ((Frm.refl [yb] _).set ⟨yb, 3, none⟩ (.int .i64 8) (.inl (by simp))) (fun hm => HNB.out (by simp at hm; simp [hm])) (fun k hk hm => HNB.out (by simp at hm; subst hm; simp [vb, hk]))) (HF2.out.set ⟨yb, 3, none⟩ (.int .i64 8) (.inl (by simp)))))
  clear HB HA2 HF2
  go_wp2
  go_ret
  exact ⟨rfl, HR.out.1, HR.out.2.1, HR.out.2.2⟩
set_option maxRecDepth 100000 in
theorem rstep8 (h : RbAt w yb rb first things ⟨8, x, n, got⟩) (hA : RfAt w rb v A) (hne : yb ∉ (rb :: vb v)) : Calls Try.prog 21 #[.pointer (some ⟨yb, 0, none⟩)] w fun e w' => e = .returned (.bool true) ∧
    RbAt w' yb rb first things ⟨0, x, n, x⟩ ∧ RfAt w' rb v (A.store (first + 1) 0) ∧ Frm (yb :: rb :: vb v) w w' := by
  have HNB := Lib.hid hne
  have hfb := h.fb
  have c3 := h.box.cell (i := 3) rfl
  have c4 := h.box.cell (i := 4) rfl
  have c5 := h.box.cell (i := 5) rfl
  have H := Lib.hid h
  have hne : Nonempty (HW (fun wx => Frm (rb :: vb v) w wx)) := ⟨⟨w, Frm.refl _ _⟩⟩
  have hz0 : ∀ q : HW (fun wx => Frm (rb :: vb v) w wx), q.w.cell? ⟨yb, 0, none⟩ = some (.pointer (some ⟨rb, 0, none⟩)) := fun q => (h.box.frm q.h HNB.out).cell (i := 0) rfl
  have hz1 : ∀ q : HW (fun wx => Frm (rb :: vb v) w wx), q.w.cell? ⟨yb, 1, none⟩ = some (.int .i64 first) := fun q => (h.box.frm q.h HNB.out).cell (i := 1) rfl
  have hz4 : ∀ q : HW (fun wx => Frm (rb :: vb v) w wx), q.w.cell? ⟨yb, 4, none⟩ = some (.int .i64 x) := fun q => (h.box.frm q.h HNB.out).cell (i := 4) rfl
  have hz5 : ∀ q : HW (fun wx => Frm (rb :: vb v) w wx), q.w.cell? ⟨yb, 5, none⟩ = some (.int .i64 n) := fun q => (h.box.frm q.h HNB.out).cell (i := 5) rfl
  have HA := Lib.hid hA
  clear h hA
  go_enter Try.func21, Try.ntmps21
  go_wp2_with fail
  refine held_begin (S := fun wx => Frm (rb :: vb v) w wx) (by kernel_rfl) ?_
  refine held_row_at (fuel := 1) (is := [0, 1, 2, 3, 4, 5, 6, 7, 8]) (.cons rfl (.cons rfl (.cons rfl (.cons rfl (.cons rfl (.cons rfl (.cons rfl (.cons rfl (.cons rfl .nil))))))))) (by kernel_rfl) (fun _ _ _ _ _ h => h) rfl (by kernel_rfl) (Frm.refl _ _).drew1 ?_
  intro K hK
  repeat (go_big_quiet_step (fail))
  refine wpQuiet_nil (hK _ ?_)
  clear hK K
  refine held_call (fuel := 0) (i := 9) rfl (by kernel_rfl) ?_
  go_wp2_with fail
  refine (rStore_any (HA.out.frm' (S := []) ((Frm.refl _ w).drew1) (by simp) (by simp)) (first + 1) (0)).mono ?_; rintro e w1 ⟨rfl, hA, hF⟩; have HA1 := Lib.hid hA; have HF1 := Lib.hid (((Frm.refl (rb :: vb v) w).drew1).trans hF); have H1 := Lib.hid (H.out.frm HF1.out HNB.out); have k3 := H1.out.box.cell (i := 3) rfl; have k4 := H1.out.box.cell (i := 4) rfl; have k5 := H1.out.box.cell (i := 5) rfl; have kz := H1.out.box.frozen; clear hA hF
  go_wp2_with fail
  refine onNormal_mk ⟨HF1.out, ?_⟩
  refine held_end (by kernel_rfl) ?_
  clear hne hz0 hz1 hz4 hz5
  have HB := Lib.hid (H1.out)
  have HA2 := Lib.hid (HA1.out)
  have HF2 := Lib.hid ((HF1.out.mono (S' := yb :: rb :: vb v) (fun _ hm => List.mem_cons_of_mem _ hm)))
  clear k3 k4 k5 kz
  have k3 := HB.out.box.cell (i := 3) rfl
  have k4 := HB.out.box.cell (i := 4) rfl
  have k5 := HB.out.box.cell (i := 5) rfl
  have k6 := HB.out.box.cell (i := 6) rfl
  have kz := HB.out.box.frozen
  clear H1 HA1 HF1
  have hj := HB.out.set3 0 (by omega)
  have j4 := hj.box.cell (i := 4) rfl
  have j6 := hj.box.cell (i := 6) rfl
  have jz := hj.box.frozen
  clear hj
  have HR := Lib.hid (And.intro ((HB.out.set3 0 (by omega)).set6 (x)) (And.intro ((((HA2.out).frm' ((Frm.refl [yb] _).set ⟨yb, 3, none⟩ (.int .i64 0) (.inl (by simp))) (fun hm => HNB.out (by simp at hm; simp [hm])) (fun k hk hm => HNB.out (by simp at hm; subst hm; simp [vb, hk])))).frm' ((Frm.refl [yb] _).set ⟨yb, 6, none⟩ (.int .i64 x) (.inl (by simp))) (fun hm => HNB.out (by simp at hm; simp [hm])) (fun k hk hm => HNB.out (by simp at hm; subst hm; simp [vb, hk]))) ((HF2.out.set ⟨yb, 3, none⟩ (.int .i64 0) (.inl (by simp))).set ⟨yb, 6, none⟩ (.int .i64 x) (.inl (by simp)))))
  clear HB HA2 HF2
  go_wp2
  go_ret
  exact ⟨rfl, HR.out.1, HR.out.2.1, HR.out.2.2⟩
end
end Go.Proofs.Ytacogelejffbhaa
