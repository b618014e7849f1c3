/- The contracts of package parted: place, served, last, asks, Alone, Step. (Printed by gen_flat.py.) -/
import Derived.Test.YteijjhahgabalaaGreatQ16
namespace Go.Proofs.YteijjhahgabalaaGreat
open Go.RowKit
section
variable {w w' : World} {lb sb ab wb next parts n : Nat} {A A' : AR} {S : Nat → Nat → Int}
theorem PtAt.frm0 (h : PtAt w lb sb ab wb next parts n A S) (hf : Frm [] w w') : PtAt w' lb sb ab wb next parts n A S := h.frm hf (by simp)
theorem pPlace_any (h : PtAt w lb sb ab wb next parts n A S) (t : Int) : Calls Tryz.prog 64 #[.pointer (some ⟨lb, 0, none⟩), .int .i64 t] w fun e w' => e = .returned (.int .i64 (pPlace next parts t)) ∧ Frm [] w w' := by
  have c1 := h.box.cell (i := 1) rfl
  have c2 := h.box.cell (i := 2) rfl
  have htb := h.tb
  have hq1 := h.q1
  have hq2 := h.q2
  have d1 : ((parts : Int) == 0) = false := by simpa using (show ¬ parts = 0 by omega)
  have d2 : (parts == 0) = false := by simpa using (show ¬ parts = 0 by omega)
  have d3 : ¬ parts = 0 := by omega
  have e1 : wrap64 ((next : Int) + 1) = next + 1 := wr_id (by omega)
  clear h
  unfold pPlace
  rw [e1]
  go_enter Tryz.func64, Tryz.ntmps64
  go_wp2
  go_quiet (fail)
  go_wp2
  all_goals
    go_ret
    exact ⟨by first | rfl | (simp [IntWalk.i64_left]), by repeat (first | exact Frm.refl _ _ | apply Frm.drew1 | apply Frm.drew)⟩
set_option maxRecDepth 100000 in
theorem pserved_any (h : PtAt w lb sb ab wb next parts n A S) (a : Int) : Calls Tryz.prog 193 #[.pointer (some ⟨lb, 0, none⟩), .int .i64 a] w fun e w' => e = .returned (.bool (A.get (pPlace next parts a) == wrap64 (a + 1))) ∧
    PtAt w' lb sb ab wb next parts n (A.load (pPlace next parts a)) S ∧ Frm [ab, wb] w w' := by
  have HN := Lib.hid h.ne
  have htb := h.tb
  have HAW := Lib.hid h
  obtain ⟨W, rfl⟩ : ∃ W, W = w := ⟨_, rfl⟩
  have HPL := Lib.hid (fun (W' : World) (hf : Frm [] W W') (y : Int) => pPlace_any (h.frm hf (by simp)) y)
  have hne : Nonempty (HW (fun wx => Frm [ab, wb] W wx)) := ⟨⟨W, Frm.refl _ _⟩⟩
  have hz0 : ∀ q : HW (fun wx => Frm [ab, wb] W wx), q.w.cell? ⟨lb, 0, none⟩ = some (.pointer (some ⟨ab, 0, none⟩)) := fun q => (HAW.out.box.frm q.h (by simp; have := HN.out; omega)).cell (i := 0) rfl
  have hz1 : ∀ q : HW (fun wx => Frm [ab, wb] W wx), q.w.cell? ⟨lb, 1, none⟩ = some (.int .i64 next) := fun q => (HAW.out.box.frm q.h (by simp; have := HN.out; omega)).cell (i := 1) rfl
  have hz2 : ∀ q : HW (fun wx => Frm [ab, wb] W wx), q.w.cell? ⟨lb, 2, none⟩ = some (.int .i64 parts) := fun q => (HAW.out.box.frm q.h (by simp; have := HN.out; omega)).cell (i := 2) rfl
  have hz3 : ∀ q : HW (fun wx => Frm [ab, wb] W wx), q.w.cell? ⟨lb, 3, none⟩ = some (.slice (some ⟨sb, 0, none⟩) n n) := fun q => (HAW.out.box.frm q.h (by simp; have := HN.out; omega)).cell (i := 3) rfl
  clear h
  generalize hx : A.get (pPlace next parts a) = x
  have HX := Lib.hid hx
  clear hx
  go_enter Tryz.func193, Tryz.ntmps193
  go_wp2_with fail
  refine held_begin (S := fun wx => Frm [ab, wb] W wx) (by kernel_rfl) ?_
  refine held_row_at (fuel := 4) (is := [0, 1, 2, 3, 4, 5, 8, 9]) (.cons rfl (.cons rfl (.cons rfl (.cons rfl (.cons rfl (.cons rfl (.cons rfl (.cons rfl .nil)))))))) (by kernel_rfl) (fun _ _ _ _ _ h => h) rfl (by kernel_rfl) (Frm.refl _ _).drew1 ?_
  intro K hK
  repeat (go_big_quiet_step (fail))
  refine wpQuiet_nil (hK _ ?_)
  clear hK K
  refine held_call (fuel := 3) (i := 6) rfl (by kernel_rfl) ?_
  go_wp2_with fail
  refine (HPL.out _ ((Frm.refl _ _).drew1) _).mono ?_; rintro e Wp ⟨rfl, hFp⟩; have HFp := Lib.hid ((((Frm.refl _ _).drew1 : Frm [] W W.drew)).trans hFp); clear hFp
  go_wp2_with fail
  refine onNormal_mk ⟨HFp.out.mono (by simp), ?_⟩
  refine held_call (fuel := 2) (i := 7) rfl (by kernel_rfl) ?_
  go_wp2_with fail
  refine (Load_any (HAW.out.ar.frm (S := []) HFp.out (by simp) (by simp)) (pPlace next parts a)).mono ?_; rw [HX.out]; rintro e w1 ⟨rfl, hA, hF⟩; have HF1 := Lib.hid ((HFp.out.mono (S' := [ab, wb]) (by simp)).trans hF); have H1 := Lib.hid (HAW.out.ar_ HF1.out hA); clear hA hF
  go_wp2_with fail
  refine onNormal_mk ⟨HF1.out, ?_⟩
  refine held_row_at (fuel := 0) (is := [10, 11]) (.cons rfl (.cons rfl .nil)) (by kernel_rfl) (fun _ _ _ _ _ h => h) rfl (by kernel_rfl) HF1.out ?_
  intro K hK
  repeat (go_big_quiet_step (fail))
  refine wpQuiet_nil (hK _ ?_)
  clear hK K
  refine held_end (by kernel_rfl) ?_
  go_wp2
  go_ret
  exact ⟨ret_bool (by simp [BEq.beq]), H1.out, HF1.out⟩
set_option maxRecDepth 100000 in
theorem plast_any (h : PtAt w lb sb ab wb next parts n A S) (a : Int) : Calls Tryz.prog 231 #[.pointer (some ⟨lb, 0, none⟩), .int .i64 a] w fun e w' => e = .returned (.bool (A.get next == wrap64 (a + 1))) ∧
    PtAt w' lb sb ab wb next parts n (A.load next) S ∧ Frm [ab, wb] w w' := by
  have HN := Lib.hid h.ne
  have htb := h.tb
  have HAW := Lib.hid h
  obtain ⟨W, rfl⟩ : ∃ W, W = w := ⟨_, rfl⟩
  have hne : Nonempty (HW (fun wx => Frm [ab, wb] W wx)) := ⟨⟨W, Frm.refl _ _⟩⟩
  have hz0 : ∀ q : HW (fun wx => Frm [ab, wb] W wx), q.w.cell? ⟨lb, 0, none⟩ = some (.pointer (some ⟨ab, 0, none⟩)) := fun q => (HAW.out.box.frm q.h (by simp; have := HN.out; omega)).cell (i := 0) rfl
  have hz1 : ∀ q : HW (fun wx => Frm [ab, wb] W wx), q.w.cell? ⟨lb, 1, none⟩ = some (.int .i64 next) := fun q => (HAW.out.box.frm q.h (by simp; have := HN.out; omega)).cell (i := 1) rfl
  have hz2 : ∀ q : HW (fun wx => Frm [ab, wb] W wx), q.w.cell? ⟨lb, 2, none⟩ = some (.int .i64 parts) := fun q => (HAW.out.box.frm q.h (by simp; have := HN.out; omega)).cell (i := 2) rfl
  have hz3 : ∀ q : HW (fun wx => Frm [ab, wb] W wx), q.w.cell? ⟨lb, 3, none⟩ = some (.slice (some ⟨sb, 0, none⟩) n n) := fun q => (HAW.out.box.frm q.h (by simp; have := HN.out; omega)).cell (i := 3) rfl
  clear h
  generalize hx : A.get next = x
  have HX := Lib.hid hx
  clear hx
  go_enter Tryz.func231, Tryz.ntmps231
  go_wp2_with fail
  refine held_begin (S := fun wx => Frm [ab, wb] W wx) (by kernel_rfl) ?_
  refine held_row_at (fuel := 3) (is := [0, 1, 2, 3, 4, 5, 6, 7, 9, 10]) (.cons rfl (.cons rfl (.cons rfl (.cons rfl (.cons rfl (.cons rfl (.cons rfl (.cons rfl (.cons rfl (.cons rfl .nil)))))))))) (by kernel_rfl) (fun _ _ _ _ _ h => h) rfl (by kernel_rfl) (Frm.refl _ _).drew1 ?_
  intro K hK
  repeat (go_big_quiet_step (fail))
  refine wpQuiet_nil (hK _ ?_)
  clear hK K
  refine held_call (fuel := 2) (i := 8) rfl (by kernel_rfl) ?_
  go_wp2_with fail
  refine (Load_any (HAW.out.ar.frm (S := []) ((Frm.refl _ _).drew1) (by simp) (by simp)) next).mono ?_; rw [HX.out]; rintro e w1 ⟨rfl, hA, hF⟩; have HF1 := Lib.hid (((Frm.refl [ab, wb] W).drew1).trans hF); have H1 := Lib.hid (HAW.out.ar_ HF1.out hA); clear hA hF
  go_wp2_with fail
  refine onNormal_mk ⟨HF1.out, ?_⟩
  refine held_row_at (fuel := 0) (is := [11, 12]) (.cons rfl (.cons rfl .nil)) (by kernel_rfl) (fun _ _ _ _ _ h => h) rfl (by kernel_rfl) HF1.out ?_
  intro K hK
  repeat (go_big_quiet_step (fail))
  refine wpQuiet_nil (hK _ ?_)
  clear hK K
  refine held_end (by kernel_rfl) ?_
  go_wp2
  go_ret
  exact ⟨ret_bool (by simp [BEq.beq]), H1.out, HF1.out⟩
theorem pasks_served (h : PtAt w lb sb ab wb next parts n A S) {j : Nat} (hj : j < n) {pc : Int} (h0 : S j 0 = pc) : Calls Tryz.prog 192 #[.pointer (some ⟨lb, 0, none⟩), .int .i64 j, .int .i64 pc, .func (.func 193) #[] #[]] w fun e w' => e = .returned (.bool (A.get (pPlace next parts (S j 1)) == wrap64 (S j 1 + 1))) ∧
    PtAt w' lb sb ab wb next parts n (A.load (pPlace next parts (S j 1))) S ∧ Frm [ab, wb] w w' := by
  have HS := Lib.hid (pspot_yes h hj)
  have HC := Lib.hid (pserved_any h (S j 1))
  have c0 := h.p0 hj
  rw [h0] at c0
  have c1 := h.p hj (t := 1) (by omega)
  have d1 : (pc == pc) = true := by simp
  clear h
  generalize (A.get (pPlace next parts (S j 1)) == wrap64 (S j 1 + 1)) = r at *
  go_enter Tryz.func192, Tryz.ntmps192
  go_wp2_with fail
  refine HS.out.mono ?_
  rintro e w' ⟨rfl, rfl⟩
  go_wp2_with (go_at_call 193; refine HC.out.mono ?_; rintro e w1 ⟨rfl, hK, hF⟩; have HK := Lib.hid hK; have HF := Lib.hid hF; clear hK hF)
  go_ret
  exact ⟨rfl, HK.out, HF.out⟩
theorem pasks_served_no (h : PtAt w lb sb ab wb next parts n A S) {i pc : Int} (hq : kTurnOk n S i pc = false) : Calls Tryz.prog 192 #[.pointer (some ⟨lb, 0, none⟩), .int .i64 i, .int .i64 pc, .func (.func 193) #[] #[]] w fun e w' => e = .returned (.bool false) ∧ w = w' := by
  cases hi : sHas n i with
  | false =>
    have HS := Lib.hid (pspot_no h hi)
    clear h hi hq
    go_enter Tryz.func192, Tryz.ntmps192
    go_wp2_with fail
    refine HS.out.mono ?_
    rintro e w' ⟨rfl, rfl⟩
    go_wp2
    go_ret
    exact ⟨rfl, rfl⟩
  | true =>
    have hi' : 0 ≤ i ∧ i < (n : Int) := by unfold sHas at hi; simpa using hi
    obtain ⟨j, rfl⟩ := Int.eq_ofNat_of_zero_le hi'.1
    have hj : j < n := by omega
    have HS := Lib.hid (pspot_yes h hj)
    have c0 := h.p0 hj
    have d1 : (S j 0 == pc) = false := by unfold kTurnOk at hq; rw [hi] at hq; simpa using hq
    generalize S j 0 = q at *
    clear h hi hq hi'
    go_enter Tryz.func192, Tryz.ntmps192
    go_wp2_with fail
    refine HS.out.mono ?_
    rintro e w' ⟨rfl, rfl⟩
    go_wp2
    go_ret
    exact ⟨rfl, rfl⟩
theorem pasks_last (h : PtAt w lb sb ab wb next parts n A S) {j : Nat} (hj : j < n) {pc : Int} (h0 : S j 0 = pc) : Calls Tryz.prog 192 #[.pointer (some ⟨lb, 0, none⟩), .int .i64 j, .int .i64 pc, .func (.func 231) #[] #[]] w fun e w' => e = .returned (.bool (A.get next == wrap64 (S j 1 + 1))) ∧
    PtAt w' lb sb ab wb next parts n (A.load next) S ∧ Frm [ab, wb] w w' := by
  have HS := Lib.hid (pspot_yes h hj)
  have HC := Lib.hid (plast_any h (S j 1))
  have c0 := h.p0 hj
  rw [h0] at c0
  have c1 := h.p hj (t := 1) (by omega)
  have d1 : (pc == pc) = true := by simp
  clear h
  generalize (A.get next == wrap64 (S j 1 + 1)) = r at *
  go_enter Tryz.func192, Tryz.ntmps192
  go_wp2_with fail
  refine HS.out.mono ?_
  rintro e w' ⟨rfl, rfl⟩
  go_wp2_with (go_at_call 231; refine HC.out.mono ?_; rintro e w1 ⟨rfl, hK, hF⟩; have HK := Lib.hid hK; have HF := Lib.hid hF; clear hK hF)
  go_ret
  exact ⟨rfl, HK.out, HF.out⟩
theorem pasks_last_no (h : PtAt w lb sb ab wb next parts n A S) {i pc : Int} (hq : kTurnOk n S i pc = false) : Calls Tryz.prog 192 #[.pointer (some ⟨lb, 0, none⟩), .int .i64 i, .int .i64 pc, .func (.func 231) #[] #[]] w fun e w' => e = .returned (.bool false) ∧ w = w' := by
  cases hi : sHas n i with
  | false =>
    have HS := Lib.hid (pspot_no h hi)
    clear h hi hq
    go_enter Tryz.func192, Tryz.ntmps192
    go_wp2_with fail
    refine HS.out.mono ?_
    rintro e w' ⟨rfl, rfl⟩
    go_wp2
    go_ret
    exact ⟨rfl, rfl⟩
  | true =>
    have hi' : 0 ≤ i ∧ i < (n : Int) := by unfold sHas at hi; simpa using hi
    obtain ⟨j, rfl⟩ := Int.eq_ofNat_of_zero_le hi'.1
    have hj : j < n := by omega
    have HS := Lib.hid (pspot_yes h hj)
    have c0 := h.p0 hj
    have d1 : (S j 0 == pc) = false := by unfold kTurnOk at hq; rw [hi] at hq; simpa using hq
    generalize S j 0 = q at *
    clear h hi hq hi'
    go_enter Tryz.func192, Tryz.ntmps192
    go_wp2_with fail
    refine HS.out.mono ?_
    rintro e w' ⟨rfl, rfl⟩
    go_wp2
    go_ret
    exact ⟨rfl, rfl⟩
theorem pAlone_any (h : PtAt w lb sb ab wb next parts n A S) (i : Int) : Calls Tryz.prog 184 #[.pointer (some ⟨lb, 0, none⟩), .int .i64 i] w fun e w' => e = .returned (.bool (kAlR n next S A i)) ∧
    PtAt w' lb sb ab wb next parts n (kAlA n next S A i) S ∧ Frm [sb, ab, wb] w w' := by
  have HC : Calls Tryz.prog 192 #[.pointer (some ⟨lb, 0, none⟩), .int .i64 i, .int .i64 10, .func (.func 231) #[] #[]] w fun e w' => e = .returned (.bool (kAlR n next S A i)) ∧ PtAt w' lb sb ab wb next parts n (kAlA n next S A i) S ∧ Frm [sb, ab, wb] w w' := by
    unfold kAlR kAlA
    cases hq : kTurnOk n S i 10 with
    | false =>
      simp only [Bool.false_and, Bool.false_eq_true, if_false]
      exact (pasks_last_no h hq).mono fun e w' ⟨h1, h2⟩ => by subst h2; exact ⟨h1, h, Frm.refl _ _⟩
    | true =>
      simp only [Bool.true_and, if_true]
      have hq' : sHas n i = true ∧ S i.toNat 0 = 10 := by unfold kTurnOk at hq; simpa using hq
      have hi' : 0 ≤ i ∧ i < (n : Int) := by have := hq'.1; unfold sHas at this; simpa using this
      obtain ⟨j, rfl⟩ := Int.eq_ofNat_of_zero_le hi'.1
      rw [Int.toNat_natCast] at hq' ⊢
      refine (pasks_last h (by omega : j < n) hq'.2).mono fun e w' ⟨h1, h2, h3⟩ => ⟨?_, h2, h3.mono (by simp)⟩
      rw [h1]
      exact ret_bool (by simp [BEq.beq])
  have HC := Lib.hid HC
  clear h
  go_enter Tryz.func184, Tryz.ntmps184
  go_wp2_with (go_at_call 192; refine HC.out.mono ?_; rintro e w1 ⟨rfl, hK, hF⟩; have HK := Lib.hid hK; have HF := Lib.hid hF; clear hK hF)
  go_ret
  exact ⟨rfl, HK.out, HF.out⟩
theorem pStep_idle (h : PtAt w lb sb ab wb next parts n A S) (i : Int) (hi : sHas n i = false ∨ (S i.toNat 0 ≠ 1 ∧ S i.toNat 0 ≠ 2 ∧ S i.toNat 0 ≠ 11)) : Calls Tryz.prog 189 #[.pointer (some ⟨lb, 0, none⟩), .int .i64 i] w fun e w' => e = .returned (.bool false) ∧ Frm [] w w' := by
  have HS := Lib.hid (pSpot_any h i)
  have fd := spotPcG
  have hv : ∃ a b c p : Int, (p ≠ 1 ∧ p ≠ 2 ∧ p ≠ 11) ∧ spV n S i = .agg #[.int .i64 p, .int .i64 a, .int .i64 b, .int .i64 c] := by
    unfold spV
    by_cases hh : sHas n i = true
    · rw [if_pos hh]; exact ⟨_, _, _, _, hi.resolve_left (by simp [hh]), rfl⟩
    · rw [if_neg hh]; exact ⟨0, 0, 0, 0, by omega, rfl⟩
  obtain ⟨a, b, c, p, ⟨p1, p2, p3⟩, hv⟩ := hv
  rw [hv] at HS
  have d1 : (p == 1) = false := by simpa using p1
  have d2 : (p == 2) = false := by simpa using p2
  have d3 : (p == 11) = false := by simpa using p3
  clear hv hi h p1 p2 p3
  go_enter Tryz.func189, Tryz.ntmps189
  go_wp2_with fail
  refine HS.out.mono ?_
  rintro e w1 ⟨rfl, hF⟩
  have HF := Lib.hid hF
  clear hF
  go_wp2
  go_ret
  exact ⟨rfl, HF.out⟩
set_option maxRecDepth 100000 in
theorem pStep_ask (h : PtAt w lb sb ab wb next parts n A S) {j : Nat} (hj : j < n) (hq : S j 0 = 1) : Calls Tryz.prog 189 #[.pointer (some ⟨lb, 0, none⟩), .int .i64 j] w fun e w' => e = .returned (.bool false) ∧
    PtAt w' lb sb ab wb next parts n (A.add next 1) (spPut (spPut S j 1 (wrap64 (A.addRes next 1 - 1))) j 0 2) ∧ Frm [sb, ab, wb] w w' := by
  have HN := Lib.hid h.ne
  have HJ := Lib.hid hj
  have hn32 := h.n32
  have htb := h.tb
  have HS := Lib.hid (pSpot_any h j)
  have fd := spotPcG
  have hr : spV n S j = .agg #[.int .i64 1, .int .i64 (S j 1), .int .i64 (S j 2), .int .i64 (S j 3)] := by unfold spV; rw [sHas_nat hj, if_pos rfl, ← hq]; rfl
  rw [hr] at HS
  have H := Lib.hid h
  have H0 := Lib.hid hq
  have i1 : (j : Int) < n := by omega
  clear h hr hq hj
  generalize hx : A.addRes next 1 = x
  have HX := Lib.hid hx
  clear hx
  go_enter Tryz.func189, Tryz.ntmps189
  go_wp2_with fail
  refine HS.out.mono ?_
  rintro e W ⟨rfl, hF⟩
  have HFW := Lib.hid hF
  have HAW := Lib.hid (H.out.frm hF (by simp))
  clear hF
  have hne : Nonempty (HW (fun wx => Frm [sb, ab, wb] W wx)) := ⟨⟨W, Frm.refl _ _⟩⟩
  have hz0 : ∀ q : HW (fun wx => Frm [sb, ab, wb] W wx), q.w.cell? ⟨lb, 0, none⟩ = some (.pointer (some ⟨ab, 0, none⟩)) := fun q => (HAW.out.box.frm q.h (by simp; have := HN.out; omega)).cell (i := 0) rfl
  have hz1 : ∀ q : HW (fun wx => Frm [sb, ab, wb] W wx), q.w.cell? ⟨lb, 1, none⟩ = some (.int .i64 next) := fun q => (HAW.out.box.frm q.h (by simp; have := HN.out; omega)).cell (i := 1) rfl
  have hz2 : ∀ q : HW (fun wx => Frm [sb, ab, wb] W wx), q.w.cell? ⟨lb, 2, none⟩ = some (.int .i64 parts) := fun q => (HAW.out.box.frm q.h (by simp; have := HN.out; omega)).cell (i := 2) rfl
  have hz3 : ∀ q : HW (fun wx => Frm [sb, ab, wb] W wx), q.w.cell? ⟨lb, 3, none⟩ = some (.slice (some ⟨sb, 0, none⟩) n n) := fun q => (HAW.out.box.frm q.h (by simp; have := HN.out; omega)).cell (i := 3) rfl
  go_wp2_with fail
  refine held_begin (S := fun wx => Frm [sb, ab, wb] W wx) (by kernel_rfl) ?_
  refine held_row_at (fuel := 5) (is := [0, 1, 2, 3, 4, 5, 6, 7, 8, 9, 10, 11, 12]) (.cons rfl (.cons rfl (.cons rfl (.cons rfl (.cons rfl (.cons rfl (.cons rfl (.cons rfl (.cons rfl (.cons rfl (.cons rfl (.cons rfl (.cons rfl .nil))))))))))))) (by kernel_rfl) (fun _ _ _ _ _ h => h) rfl (by kernel_rfl) (Frm.refl _ _).drew1 ?_
  intro K hK
  repeat (go_big_quiet_step (fail))
  refine wpQuiet_nil (hK _ ?_)
  clear hK K
  refine held_call (fuel := 4) (i := 13) rfl (by kernel_rfl) ?_
  go_wp2_with fail
  refine (Add_any (HAW.out.ar.frm (S := []) ((Frm.refl _ _).drew1) (by simp) (by simp)) (next) (1)).mono ?_; rw [HX.out]; rintro e w1 ⟨rfl, hA, hF⟩; have HF1 := Lib.hid (((Frm.refl [ab, wb] W).drew1).trans hF); have H1 := Lib.hid (HAW.out.ar_ HF1.out hA); have j1 := H1.out.p HJ.out (t := 1) (by omega); have j2 := H1.out.p HJ.out (t := 2) (by omega); have jz := H1.out.row.frozen; clear hA hF
  go_wp2_with fail
  refine onNormal_mk ⟨(HF1.out.mono (S' := [sb, ab, wb]) (by simp)), ?_⟩
  refine held_row_at (fuel := 1) (is := [14, 15, 16]) (.cons rfl (.cons rfl (.cons rfl .nil))) (by kernel_rfl) (fun _ _ _ _ _ h => h) rfl (by kernel_rfl) (HF1.out.mono (S' := [sb, ab, wb]) (by simp)) ?_
  intro K hK
  repeat (go_big_quiet_step (fail))
  refine wpQuiet_nil (hK _ ?_)
  clear hK K
  refine held_call (fuel := 0) (i := 17) rfl (by kernel_rfl) ?_
  go_wp2_with fail
  refine onNormal_mk ⟨((HF1.out.mono (S' := [sb, ab, wb]) (by simp)).set ⟨sb, j * 4 + 1, none⟩ (.int .i64 (wrap64 (x - 1))) (.inl (by simp))), ?_⟩
  refine held_end (by kernel_rfl) ?_
  clear hne hz0 hz1 hz2 hz3
  have HB := Lib.hid (H1.out.put j (t := 1) (by omega) (wrap64 (x - 1)))
  have HF2 := Lib.hid ((HFW.out.mono (S' := [sb, ab, wb]) (by simp)).trans ((HF1.out.mono (S' := [sb, ab, wb]) (by simp)).set ⟨sb, j * 4 + 1, none⟩ (.int .i64 (wrap64 (x - 1))) (.inl (by simp))))
  clear H1 HF1 j1 j2 jz
  generalize (w1.setCell ⟨sb, j * 4 + 1, none⟩ (.int .i64 (wrap64 (x - 1)))) = W2 at *
  have hok : kTurnOk n (spPut S j 1 (wrap64 (x - 1))) j 1 = true := by unfold kTurnOk; rw [sHas_nat HJ.out, Int.toNat_natCast]; simp [spPut, H0.out]
  have hT := pturn_any HB.out j 1 2
  unfold kTurn at hT
  rw [hok, if_pos rfl, Int.toNat_natCast] at hT
  have HT := Lib.hid hT
  clear hT hok
  go_wp2_with fail
  refine HT.out.mono ?_
  rintro e w3 ⟨rfl, hK, hF⟩
  have HK3 := Lib.hid hK
  have HF3 := Lib.hid (HF2.out.trans (hF.mono (S' := [sb, ab, wb]) (by simp)))
  clear hK hF
  go_wp2
  go_ret
  exact ⟨rfl, HK3.out, HF3.out⟩
set_option maxRecDepth 100000 in
theorem pStep_hit (h : PtAt w lb sb ab wb next parts n A S) {j : Nat} (hj : j < n) (hq : S j 0 = 2) (hg : A.get (pPlace next parts (S j 1)) = wrap64 (S j 1 + 1)) : Calls Tryz.prog 189 #[.pointer (some ⟨lb, 0, none⟩), .int .i64 j] w fun e w' => e = .returned (.bool true) ∧
    PtAt w' lb sb ab wb next parts n (A.load (pPlace next parts (S j 1))) (spPut S j 0 10) ∧ Frm [sb, ab, wb] w w' := by
  have HN := Lib.hid h.ne
  have HJ := Lib.hid hj
  have hn32 := h.n32
  have htb := h.tb
  have hC := fun W (hf : Frm [] w W) => pasks_served (h.frm hf (by simp)) hj hq
  have hb : (A.get (pPlace next parts (S j 1)) == wrap64 (S j 1 + 1)) = true := by simpa using hg
  rw [hb] at hC
  have HC := Lib.hid hC
  clear hC hb hg
  have HS := Lib.hid (pSpot_any h j)
  have fd := spotPcG
  have hr : spV n S j = .agg #[.int .i64 2, .int .i64 (S j 1), .int .i64 (S j 2), .int .i64 (S j 3)] := by unfold spV; rw [sHas_nat hj, if_pos rfl, ← hq]; rfl
  rw [hr] at HS
  have H := Lib.hid h
  have H0 := Lib.hid hq
  have i1 : (j : Int) < n := by omega
  clear h hr hq hj
  go_enter Tryz.func189, Tryz.ntmps189
  go_wp2_with fail
  refine HS.out.mono ?_
  rintro e W ⟨rfl, hF⟩
  have HFW := Lib.hid hF
  have HAW := Lib.hid (H.out.frm hF (by simp))
  clear hF
  go_wp2_with fail
  refine (HC.out _ HFW.out).mono ?_
  rintro e w1 ⟨rfl, hK, hF⟩
  have HB := Lib.hid hK
  have HF2 := Lib.hid ((HFW.out.mono (S' := [sb, ab, wb]) (by simp)).trans (hF.mono (S' := [sb, ab, wb]) (by simp)))
  clear hK hF
  have hok : kTurnOk n (S) j 2 = true := by unfold kTurnOk; rw [sHas_nat HJ.out, Int.toNat_natCast]; simp [spPut, H0.out]
  have hT := pturn_any HB.out j 2 10
  unfold kTurn at hT
  rw [hok, if_pos rfl, Int.toNat_natCast] at hT
  have HT := Lib.hid hT
  clear hT hok
  go_wp2_with fail
  refine HT.out.mono ?_
  rintro e w3 ⟨rfl, hK, hF⟩
  have HK3 := Lib.hid hK
  have HF3 := Lib.hid (HF2.out.trans (hF.mono (S' := [sb, ab, wb]) (by simp)))
  clear hK hF
  go_wp2
  go_ret
  exact ⟨rfl, HK3.out, HF3.out⟩
set_option maxRecDepth 100000 in
theorem pStep_miss (h : PtAt w lb sb ab wb next parts n A S) {j : Nat} (hj : j < n) (hq : S j 0 = 2) (hg : ¬ A.get (pPlace next parts (S j 1)) = wrap64 (S j 1 + 1)) : Calls Tryz.prog 189 #[.pointer (some ⟨lb, 0, none⟩), .int .i64 j] w fun e w' => e = .returned (.bool false) ∧
    PtAt w' lb sb ab wb next parts n (A.load (pPlace next parts (S j 1))) (S) ∧ Frm [sb, ab, wb] w w' := by
  have HN := Lib.hid h.ne
  have HJ := Lib.hid hj
  have hn32 := h.n32
  have htb := h.tb
  have hC := fun W (hf : Frm [] w W) => pasks_served (h.frm hf (by simp)) hj hq
  have hb : (A.get (pPlace next parts (S j 1)) == wrap64 (S j 1 + 1)) = false := by simpa using hg
  rw [hb] at hC
  have HC := Lib.hid hC
  clear hC hb hg
  have HS := Lib.hid (pSpot_any h j)
  have fd := spotPcG
  have hr : spV n S j = .agg #[.int .i64 2, .int .i64 (S j 1), .int .i64 (S j 2), .int .i64 (S j 3)] := by unfold spV; rw [sHas_nat hj, if_pos rfl, ← hq]; rfl
  rw [hr] at HS
  have H := Lib.hid h
  have H0 := Lib.hid hq
  have i1 : (j : Int) < n := by omega
  clear h hr hq hj
  go_enter Tryz.func189, Tryz.ntmps189
  go_wp2_with fail
  refine HS.out.mono ?_
  rintro e W ⟨rfl, hF⟩
  have HFW := Lib.hid hF
  have HAW := Lib.hid (H.out.frm hF (by simp))
  clear hF
  go_wp2_with fail
  refine (HC.out _ HFW.out).mono ?_
  rintro e w1 ⟨rfl, hK, hF⟩
  have HB := Lib.hid hK
  have HF2 := Lib.hid ((HFW.out.mono (S' := [sb, ab, wb]) (by simp)).trans (hF.mono (S' := [sb, ab, wb]) (by simp)))
  clear hK hF
  go_wp2
  go_ret
  exact ⟨rfl, HB.out, HF2.out⟩
set_option maxRecDepth 100000 in
theorem pStep_free (h : PtAt w lb sb ab wb next parts n A S) {j : Nat} (hj : j < n) (hq : S j 0 = 11) : Calls Tryz.prog 189 #[.pointer (some ⟨lb, 0, none⟩), .int .i64 j] w fun e w' => e = .returned (.bool true) ∧
    PtAt w' lb sb ab wb next parts n (A.store (pPlace next parts (wrap64 (S j 1 + 1))) (wrap64 (S j 1 + 2))) (spPut S j 0 0) ∧ Frm [sb, ab, wb] w w' := by
  have HN := Lib.hid h.ne
  have HJ := Lib.hid hj
  have hn32 := h.n32
  have htb := h.tb
  have HS := Lib.hid (pSpot_any h j)
  have fd := spotPcG
  have hr : spV n S j = .agg #[.int .i64 11, .int .i64 (S j 1), .int .i64 (S j 2), .int .i64 (S j 3)] := by unfold spV; rw [sHas_nat hj, if_pos rfl, ← hq]; rfl
  rw [hr] at HS
  have H := Lib.hid h
  have H0 := Lib.hid hq
  have i1 : (j : Int) < n := by omega
  clear h hr hq hj
  go_enter Tryz.func189, Tryz.ntmps189
  go_wp2_with fail
  refine HS.out.mono ?_
  rintro e W ⟨rfl, hF⟩
  have HFW := Lib.hid hF
  have HAW := Lib.hid (H.out.frm hF (by simp))
  clear hF
  have hne : Nonempty (HW (fun wx => Frm [ab, wb] W wx)) := ⟨⟨W, Frm.refl _ _⟩⟩
  have hz0 : ∀ q : HW (fun wx => Frm [ab, wb] W wx), q.w.cell? ⟨lb, 0, none⟩ = some (.pointer (some ⟨ab, 0, none⟩)) := fun q => (HAW.out.box.frm q.h (by simp; have := HN.out; omega)).cell (i := 0) rfl
  have hz1 : ∀ q : HW (fun wx => Frm [ab, wb] W wx), q.w.cell? ⟨lb, 1, none⟩ = some (.int .i64 next) := fun q => (HAW.out.box.frm q.h (by simp; have := HN.out; omega)).cell (i := 1) rfl
  have hz2 : ∀ q : HW (fun wx => Frm [ab, wb] W wx), q.w.cell? ⟨lb, 2, none⟩ = some (.int .i64 parts) := fun q => (HAW.out.box.frm q.h (by simp; have := HN.out; omega)).cell (i := 2) rfl
  have hz3 : ∀ q : HW (fun wx => Frm [ab, wb] W wx), q.w.cell? ⟨lb, 3, none⟩ = some (.slice (some ⟨sb, 0, none⟩) n n) := fun q => (HAW.out.box.frm q.h (by simp; have := HN.out; omega)).cell (i := 3) rfl
  have hy1 : ∀ q : HW (fun wx => Frm [ab, wb] W wx), q.w.cell? ⟨sb, j * 4 + 1, none⟩ = some (.int .i64 (S j 1)) := fun q => (HAW.out.row.frm q.h (by simp; have := HN.out; omega)).cell (spC_getT n S HJ.out (by omega))
  have hy2 : ∀ q : HW (fun wx => Frm [ab, wb] W wx), q.w.cell? ⟨sb, j * 4 + 2, none⟩ = some (.int .i64 (S j 2)) := fun q => (HAW.out.row.frm q.h (by simp; have := HN.out; omega)).cell (spC_getT n S HJ.out (by omega))
  have HPL := Lib.hid (fun (W' : World) (hf : Frm [] W W') (y : Int) => pPlace_any (HAW.out.frm hf (by simp)) y)
  go_wp2_with fail
  refine held_begin (S := fun wx => Frm [ab, wb] W wx) (by kernel_rfl) ?_
  refine held_row_at (fuel := 2) (is := [0, 1, 2, 3, 4, 5, 6, 7, 8, 9, 10, 11, 12, 13, 15, 16, 17, 18, 19, 20, 21, 22, 23]) (.cons rfl (.cons rfl (.cons rfl (.cons rfl (.cons rfl (.cons rfl (.cons rfl (.cons rfl (.cons rfl (.cons rfl (.cons rfl (.cons rfl (.cons rfl (.cons rfl (.cons rfl (.cons rfl (.cons rfl (.cons rfl (.cons rfl (.cons rfl (.cons rfl (.cons rfl (.cons rfl .nil))))))))))))))))))))))) (by kernel_rfl) (fun _ _ _ _ _ h => h) rfl (by kernel_rfl) (Frm.refl _ _).drew1 ?_
  intro K hK
  repeat (go_big_quiet_step (fail))
  refine wpQuiet_nil (hK _ ?_)
  clear hK K
  refine held_call (fuel := 1) (i := 14) rfl (by kernel_rfl) ?_
  go_wp2_with fail
  refine (HPL.out _ ((Frm.refl _ _).drew1) _).mono ?_; rintro e Wp ⟨rfl, hFp⟩; have HFp := Lib.hid ((((Frm.refl _ _).drew1 : Frm [] W W.drew)).trans hFp); clear hFp
  go_wp2_with fail
  refine onNormal_mk ⟨HFp.out.mono (by simp), ?_⟩
  refine held_call (fuel := 0) (i := 24) rfl (by kernel_rfl) ?_
  go_wp2_with fail
  refine (Store_any (HAW.out.ar.frm (S := []) HFp.out (by simp) (by simp)) (pPlace next parts (wrap64 (S j 1 + 1))) (wrap64 (S j 1 + 2))).mono ?_; rintro e w1 ⟨rfl, hA, hF⟩; have HF1 := Lib.hid ((HFp.out.mono (S' := [ab, wb]) (by simp)).trans hF); have H1 := Lib.hid (HAW.out.ar_ HF1.out hA); have j1 := H1.out.p HJ.out (t := 1) (by omega); have j2 := H1.out.p HJ.out (t := 2) (by omega); have jz := H1.out.row.frozen; clear hA hF
  go_wp2_with fail
  refine onNormal_mk ⟨HF1.out, ?_⟩
  refine held_end (by kernel_rfl) ?_
  clear hne hz0 hz1 hz2 hz3 hy1 hy2
  have HB := Lib.hid H1.out
  have HF2 := Lib.hid ((HFW.out.mono (S' := [sb, ab, wb]) (by simp)).trans (HF1.out.mono (S' := [sb, ab, wb]) (by simp)))
  clear H1 HF1 j1 j2 jz
  have hok : kTurnOk n (S) j 11 = true := by unfold kTurnOk; rw [sHas_nat HJ.out, Int.toNat_natCast]; simp [spPut, H0.out]
  have hT := pturn_any HB.out j 11 0
  unfold kTurn at hT
  rw [hok, if_pos rfl, Int.toNat_natCast] at hT
  have HT := Lib.hid hT
  clear hT hok
  go_wp2_with fail
  refine HT.out.mono ?_
  rintro e w3 ⟨rfl, hK, hF⟩
  have HK3 := Lib.hid hK
  have HF3 := Lib.hid (HF2.out.trans (hF.mono (S' := [sb, ab, wb]) (by simp)))
  clear hK hF
  go_wp2
  go_ret
  exact ⟨rfl, HK3.out, HF3.out⟩
theorem pStep_any (h : PtAt w lb sb ab wb next parts n A S) (i : Int) : Calls Tryz.prog 189 #[.pointer (some ⟨lb, 0, none⟩), .int .i64 i] w fun e w' => e = .returned (.bool (pStepR n next parts S A i)) ∧
    PtAt w' lb sb ab wb next parts n (pStepA n next parts S A i) (pStepS n next parts S A i) ∧ Frm [sb, ab, wb] w w' := by
  cases hi : sHas n i with
  | false =>
    refine (pStep_idle h i (.inl hi)).mono fun e w' ⟨g1, g2⟩ => ⟨?_, ?_, g2.mono (by simp)⟩
    · unfold pStepR; rw [hi]; exact g1
    · unfold pStepA pStepS; rw [hi]; exact h.frm g2 (by simp)
  | true =>
    have hi' : 0 ≤ i ∧ i < (n : Int) := by unfold sHas at hi; simpa using hi
    obtain ⟨j, rfl⟩ := Int.eq_ofNat_of_zero_le hi'.1
    have hj : j < n := by omega
    unfold pStepR pStepA pStepS
    rw [hi, Int.toNat_natCast]
    simp only [Bool.true_and, if_true]
    by_cases q1 : S j 0 = 1
    · simp only [q1, Int.reduceEq, if_true, if_false, decide_true, decide_false]; exact pStep_ask h hj q1
    by_cases q2 : S j 0 = 2
    · by_cases c : A.get (pPlace next parts (S j 1)) = wrap64 (S j 1 + 1)
      · simp only [q2, Int.reduceEq, if_true, if_false, if_pos c, decide_eq_true c]; exact pStep_hit h hj q2 c
      · simp only [q2, Int.reduceEq, if_true, if_false, if_neg c, decide_eq_false c]; exact pStep_miss h hj q2 c
    by_cases q3 : S j 0 = 11
    · simp only [q3, Int.reduceEq, if_true, if_false, decide_true, decide_false]; exact pStep_free h hj q3
    · simp only [if_neg q1, if_neg q2, if_neg q3, decide_eq_false q3]
      refine (pStep_idle h j (.inr ?_)).mono fun e w' ⟨g1, g2⟩ => ⟨g1, h.frm g2 (by simp), g2.mono (by simp)⟩
      rw [Int.toNat_natCast]; exact ⟨q1, q2, q3⟩
end
end Go.Proofs.YteijjhahgabalaaGreat

/- The contracts of New of mcs, parted and clh. -/
namespace Go.Proofs.YteijjhahgabalaaGreat
open Go.RowKit
theorem take_room {A : AR} {m : Nat} {x : Int} (hm : 1 ≤ m) (ht : A.takeE x = 0) (hx : x = m) : A.taken + m ≤ A.ws.length := by
  subst hx
  unfold AR.takeE at ht
  rw [if_neg (by omega)] at ht
  by_cases hb : (A.ws.length : Int) - (A.taken : Int) < m
  · rw [if_pos hb] at ht; omega
  · omega
section
variable {w : World} {ab wb : Nat} {A : AR}
theorem cNew_ok (hA : ArAt w ab wb A) (n : Nat) (hn1 : 1 ≤ n) (hn : n ≤ 32) (ht : A.takeE (1 + 2 * (n : Int)) = 0) :
    Calls Tryz.prog 52 #[.pointer (some ⟨ab, 0, none⟩), .int .i64 n] w fun e w' => ∃ lb sb, e = .returned (.tuple #[.pointer (some ⟨lb, 0, none⟩), .int .i64 0]) ∧ w.heap.size ≤ lb ∧ w.heap.size ≤ sb ∧
      McAt w' lb sb ab wb (A.taken + 1) n (A.take (1 + 2 * (n : Int))) (fun _ _ => 0) ∧ Frm [ab, wb] w w' := by
  have d1 : decide ((n : Int) < 1) = false := by simp; omega
  have d2 : decide ((32 : Int) < n) = false := by simp; omega
  have mk := mkSpots n (by omega)
  have hT := Take_any hA (1 + 2 * (n : Int))
  have hn' : A.takeN (1 + 2 * (n : Int)) = (A.taken : Int) + 1 := by unfold AR.takeN; rw [if_pos ht]
  rw [ht, hn'] at hT
  have HT := Lib.hid hT
  have hab := hA.box.lt
  have hwb := hA.row.lt
  have hroom := hA.room
  have hrm := take_room (m := 1 + 2 * n) (by omega) ht (by omega)
  clear hA hT hn' ht
  go_enter Tryz.func52, Tryz.ntmps52
  go_wp2_with fail
  refine (HT.out).mono ?_
  rintro e w1 ⟨rfl, hA', hF⟩
  have hsz := hF.size
  have HF := Lib.hid hF
  have HA := Lib.hid hA'
  clear hA' hF
  go_wp2
  go_ret2
  have g1 := (HAt.new w1 (spC n fun _ _ => 0).toArray 138).alloc (.cells #[.pointer (some ⟨ab, 0, none⟩), .int .i64 ((A.taken : Int) + 1), .slice (some ⟨w1.heap.size, 0, none⟩) n n] 153)
  have g2 := HAt.new (w1.alloc (.cells (spC n fun _ _ => 0).toArray 138)) #[.pointer (some ⟨ab, 0, none⟩), .int .i64 ((A.taken : Int) + 1), .slice (some ⟨w1.heap.size, 0, none⟩) n n] 153
  rw [World.size_alloc] at g2
  refine ⟨w1.heap.size + 1, w1.heap.size, rfl, by omega, hsz, ?_, (HF.out.alloc _).alloc _⟩
  exact { box := by simpa using g2, row := by simpa using g1, ar := HA.out.frm (S := []) (((Frm.refl _ _).alloc _).alloc _) (by simp) (by simp), ne := by omega, n1 := hn1, n32 := hn, tb := by omega }
theorem may_any (i : Int) (w : World) : Calls Tryz.prog 62 #[.int .i64 i] w fun e w' => e = .returned (.bool (decide (1 ≤ i) && decide (i ≤ 32))) ∧ w = w' := by
  by_cases h1 : 1 ≤ i
  · by_cases h2 : i ≤ 32
    · have d1 : decide (1 ≤ i) = true := by simpa using h1
      have d2 : decide (i ≤ 32) = true := by simpa using h2
      rw [d1, d2]
      go_enter Tryz.func62, Tryz.ntmps62
      go_wp2
      go_ret
      exact ⟨rfl, rfl⟩
    · have d1 : decide (1 ≤ i) = true := by simpa using h1
      have d2 : decide (i ≤ 32) = false := by simpa using h2
      rw [d1, d2]
      go_enter Tryz.func62, Tryz.ntmps62
      go_wp2
      go_ret
      exact ⟨rfl, rfl⟩
  · have d1 : decide (1 ≤ i) = false := by simpa using h1
    rw [d1]
    go_enter Tryz.func62, Tryz.ntmps62
    go_wp2
    go_ret
    exact ⟨rfl, rfl⟩
theorem pNew_ok (hA : ArAt w ab wb A) (n parts : Nat) (hn1 : 1 ≤ n) (hn : n ≤ 32) (hp1 : 1 ≤ parts) (hp : parts ≤ 32) (ht : A.takeE (1 + (parts : Int)) = 0) :
    Calls Tryz.prog 51 #[.pointer (some ⟨ab, 0, none⟩), .int .i64 n, .int .i64 parts] w fun e w' => ∃ lb sb, e = .returned (.tuple #[.pointer (some ⟨lb, 0, none⟩), .int .i64 0]) ∧ w.heap.size ≤ lb ∧ w.heap.size ≤ sb ∧
      PtAt w' lb sb ab wb (A.taken + 1) parts n ((A.take (1 + (parts : Int))).store (pPlace (A.taken + 1) parts 0) 1) (fun _ _ => 0) ∧ Frm [ab, wb] w w' := by
  have hm1 := fun W => may_any (n : Int) W
  have hm2 := fun W => may_any (parts : Int) W
  rw [show (decide (1 ≤ (n : Int)) && decide ((n : Int) ≤ 32)) = true from by simp; omega] at hm1
  rw [show (decide (1 ≤ (parts : Int)) && decide ((parts : Int) ≤ 32)) = true from by simp; omega] at hm2
  have HM1 := Lib.hid hm1
  have HM2 := Lib.hid hm2
  have mk := mkSpots n (by omega)
  have hT := Take_any hA (1 + (parts : Int))
  have hn' : A.takeN (1 + (parts : Int)) = (A.taken : Int) + 1 := by unfold AR.takeN; rw [if_pos ht]
  rw [ht, hn'] at hT
  have HT := Lib.hid hT
  have hab := hA.box.lt
  have hwb := hA.row.lt
  have hroom := hA.room
  have hrm := take_room (m := 1 + parts) (by omega) ht (by omega)
  have hnot : ∀ (x : Bool) (w : World), (Op.unary .not (.bool x)).run Tryz.prog w = .ok (.bool (!x)) w := fun _ _ => rfl
  clear hA hT hn' ht hm1 hm2
  go_enter Tryz.func51, Tryz.ntmps51
  go_wp2_with fail
  refine (HM1.out _).mono ?_
  rintro e w' ⟨rfl, rfl⟩
  go_wp2_with fail
  refine (HM2.out _).mono ?_
  rintro e w' ⟨rfl, rfl⟩
  go_wp2_with fail
  refine (HT.out).mono ?_
  rintro e w1 ⟨rfl, hA', hF⟩
  have hsz := hF.size
  have HF := Lib.hid hF
  have HA := Lib.hid hA'
  clear hA' hF
  have g1 := (HAt.new w1 (spC n fun _ _ => 0).toArray 138).alloc (.cells #[.pointer (some ⟨ab, 0, none⟩), .int .i64 ((A.taken : Int) + 1), .int .i64 parts, .slice (some ⟨w1.heap.size, 0, none⟩) n n] 150)
  have g2 := HAt.new (w1.alloc (.cells (spC n fun _ _ => 0).toArray 138)) #[.pointer (some ⟨ab, 0, none⟩), .int .i64 ((A.taken : Int) + 1), .int .i64 parts, .slice (some ⟨w1.heap.size, 0, none⟩) n n] 150
  rw [World.size_alloc] at g2
  have hP : PtAt ((w1.alloc (.cells (spC n fun _ _ => 0).toArray 138)).alloc (.cells #[.pointer (some ⟨ab, 0, none⟩), .int .i64 ((A.taken : Int) + 1), .int .i64 parts, .slice (some ⟨w1.heap.size, 0, none⟩) n n] 150)) (w1.heap.size + 1) w1.heap.size ab wb (A.taken + 1) parts n (A.take (1 + (parts : Int))) (fun _ _ => 0) :=
    { box := by simpa using g2, row := by simpa using g1, ar := HA.out.frm (S := []) (((Frm.refl _ _).alloc _).alloc _) (by simp) (by simp), ne := by omega, n1 := hn1, n32 := hn, tb := by omega, q1 := hp1, q2 := hp }
  have hFF := (HF.out.alloc (.cells (spC n fun _ _ => 0).toArray 138)).alloc (.cells #[.pointer (some ⟨ab, 0, none⟩), .int .i64 ((A.taken : Int) + 1), .int .i64 parts, .slice (some ⟨w1.heap.size, 0, none⟩) n n] 150)
  have HP := Lib.hid hP
  have HFF := Lib.hid hFF
  have HPL := Lib.hid (pPlace_any hP 0)
  clear hP hFF g1 g2
  go_wp2_with fail
  refine HPL.out.mono ?_
  rintro e W2 ⟨rfl, hF2⟩
  have HF2 := Lib.hid hF2
  have HP2 := Lib.hid (HP.out.frm hF2 (by simp))
  clear hF2
  go_wp2_with fail
  refine (Store_any HP2.out.ar _ 1).mono ?_
  rintro e W3 ⟨rfl, hA3, hF3⟩
  have HP3 := Lib.hid (HP2.out.ar_ hF3 hA3)
  have HF3 := Lib.hid ((HFF.out.trans (HF2.out.mono (by simp))).trans hF3)
  clear hA3 hF3
  go_wp2
  go_ret2
  exact ⟨w1.heap.size + 1, w1.heap.size, rfl, by omega, hsz, HP3.out, HF3.out⟩
/-- the spots of a new clh -/
def hS0 : Nat → Nat → Int := fun i t => if t = 1 then (i : Int) + 1 else 0
theorem spC_hS0 (n : Nat) : spC (n + 1) hS0 = spC n hS0 ++ [.int .i64 0, .int .i64 ((n : Int) + 1), .int .i64 0, .int .i64 0] := by
  unfold spC
  rw [show 4 * (n + 1) = 4 * n + 1 + 1 + 1 + 1 by omega]
  simp only [List.range_succ, List.map_append, List.map_cons, List.map_nil, List.append_assoc, List.cons_append, List.nil_append]
  unfold hS0
  rw [show 4 * n / 4 = n by omega, show 4 * n % 4 = 0 by omega, show (4 * n + 1) / 4 = n by omega, show (4 * n + 1) % 4 = 1 by omega, show (4 * n + 1 + 1) / 4 = n by omega, show (4 * n + 1 + 1) % 4 = 2 by omega, show (4 * n + 1 + 1 + 1) / 4 = n by omega, show (4 * n + 1 + 1 + 1) % 4 = 3 by omega]
  simp
theorem cell_four_new (w : World) (a b c d : Value) (T : TypeId) : ∀ (j : Nat) (u : Value), [a, b, c, d][j]? = some u → (w.alloc (.cells #[a, b, c, d] T)).cell? ((⟨w.heap.size, 0, none⟩ : Addr).add j) = some u := by
  intro j u hu
  have h := HAt.new w #[a, b, c, d] T
  have e : (⟨w.heap.size, 0, none⟩ : Addr).add j = ⟨w.heap.size, j, none⟩ := by
    unfold Addr.add
    split
    · rename_i h0; subst h0; rfl
    · simp
  rw [e]
  exact h.cell hu
theorem rowBlock {w : World} {base size k : Nat} {e : TypeId} {v : Value} {xs : List Value} (h : w.ownsRow base e size v k xs) : ∀ j, v.ownBlock = some j → base ≤ j := by
  rcases h.2 with ⟨rfl, _⟩ | ⟨g, cap, cur, rfl, hg, _⟩
  · intro k hk; simp [Value.ownBlock] at hk
  · intro k hk; simp [Value.ownBlock] at hk; omega
theorem rowSlice {w : World} {base size k : Nat} {e : TypeId} {v : Value} {xs : List Value} (h : w.ownsRow base e size v k xs) : ∃ a l c, v = .slice a l c := by
  rcases h.2 with ⟨rfl, _⟩ | ⟨g, cap, cur, rfl, hg, _⟩
  · exact ⟨_, _, _, rfl⟩
  · exact ⟨_, _, _, rfl⟩
theorem rowFrm {w w' : World} {base size k : Nat} {e : TypeId} {v : Value} {xs : List Value} (h : w.ownsRow base e size v k xs) {S : List Nat} (hf : Frm S w w') (hs : ∀ k ∈ S, k < base) : w'.ownsRow base e size v k xs := by
  obtain ⟨h1, h2⟩ := h
  refine ⟨h1, ?_⟩
  rcases h2 with h2 | ⟨g, cap, cur, hv, hg, hh, r⟩
  · exact .inl h2
  · refine .inr ⟨g, cap, cur, hv, hg, ?_, r⟩
    rw [hf.block g (Array.getElem?_eq_some_iff.1 hh).1 (fun hm => by have := hs g hm; omega)]
    exact hh
set_option maxHeartbeats 2000000 in
theorem hNew_ok (hA : ArAt w ab wb A) (n : Nat) (hn1 : 1 ≤ n) (hn : n ≤ 32) (ht : A.takeE ((n : Int) + 2) = 0) :
    Calls Tryz.prog 53 #[.pointer (some ⟨ab, 0, none⟩), .int .i64 n] w fun e w' => ∃ lb sb X, e = .returned (.tuple #[.pointer (some ⟨lb, 0, none⟩), .int .i64 0]) ∧ w.heap.size ≤ lb ∧ w.heap.size ≤ sb ∧
      ClAt w' lb sb ab wb (A.taken + 1) n X ((A.take ((n : Int) + 2)).store ((A.taken : Int) + 1) ((n : Int) + 1)) hS0 ∧ Frm [ab, wb] w w' := by
  obtain ⟨i0, hi, hz0, hz1, hz2⟩ := info_parts spotInfo
  have HIN := Lib.hid (And.intro hi (And.intro hz0 (And.intro hz1 hz2)))
  clear hi hz0 hz1 hz2
  have d1 : decide ((n : Int) < 1) = false := by simp; omega
  have d2 : decide ((32 : Int) < n) = false := by simp; omega
  have hT := Take_any hA ((n : Int) + 2)
  have hn' : A.takeN ((n : Int) + 2) = (A.taken : Int) + 1 := by unfold AR.takeN; rw [if_pos ht]
  rw [ht, hn'] at hT
  have HT := Lib.hid hT
  have hab := hA.box.lt
  have hwb := hA.row.lt
  have hroom := hA.room
  have hrm := take_room (m := n + 2) (by omega) ht (by omega)
  have HNE := Lib.hid hA.ne
  clear hA hT hn' ht
  go_enter Tryz.func53, Tryz.ntmps53
  go_wp2_with fail
  refine (HT.out).mono ?_
  rintro e w1 ⟨rfl, hA', hF⟩
  have hsz := hF.size
  have HF := Lib.hid hF
  have HA := Lib.hid hA'
  have hab1 : ab < w1.heap.size := by omega
  have hwb1 : wb < w1.heap.size := by omega
  clear hA' hF
  go_wp2_with fail
  have g2 := HAt.new w1 #[.pointer (some ⟨ab, 0, none⟩), .int .i64 ((A.taken : Int) + 1), .slice none 0 0] 155
  have G2 := Lib.hid g2
  clear g2
  go_loopw [31] (fun iv wx => ∃ k : Nat, iv = .int .i64 k ∧ k ≤ n ∧ (∃ v, HAt wx w1.heap.size [.pointer (some ⟨ab, 0, none⟩), .int .i64 ((A.taken : Int) + 1), v] 155 ∧ wx.ownsRow (w1.heap.size + 1) 138 4 v k (spC k hS0)) ∧ Frm [] w1 wx) (fun iv _ => n - (intOf iv).toNat)
  case atStart => exact ⟨0, rfl, Nat.zero_le _, ⟨_, G2.out, World.ownsRow_nil _ _ _ _⟩, (Frm.refl _ _).alloc _⟩
  case round =>
    obtain ⟨k, rfl, hk, ⟨v, hB, hO⟩, hF⟩ := hrel
    have hszr := hF.size
    have c0 := hB.cell (i := 0) rfl
    have c2 := hB.cell (i := 2) rfl
    have cz := hB.frozen
    have HB := Lib.hid hB
    have HO := Lib.hid hO
    have HF2 := Lib.hid hF
    have hblt := hB.lt
    clear hB hO hF
    by_cases hlt : k < n
    · have l1 : (k : Int) < n := by omega
      have hb : ∀ j, v.ownBlock = some j → w1.heap.size + 1 ≤ j := rowBlock HO.out
      have HOA := Lib.hid (fun o : Obj => HO.out.alloc o)
      have hsA : ∀ o : Obj, (wr.alloc o).heap.size = wr.heap.size + 1 := World.size_alloc wr
      go_wp2_with (at_builtin; go_must (refine wpList_append_own _ rfl _ _ 142 rfl (w1.heap.size + 1) 138 i0 (.agg #[.int .i64 0, .int .i64 0, .int .i64 0, .int .i64 0]) 4 32 Tryz.underlying142 HIN.out.1 HIN.out.2.1 HIN.out.2.2.1 HIN.out.2.2.2 rfl (by decide) v k _ rfl (HO.out.alloc _) ⟨wr.heap.size, 0, none⟩ 1 1 [.int .i64 0, .int .i64 ((k : Int) + 1), .int .i64 0, .int .i64 0] rfl rfl (cell_four_new _ _ _ _ _ _) (by simp [Value.oneCell']) (by unfold maxLen; omega) (by omega) (by rw [World.size_alloc]; omega) ?_; intro v' w2 hown' hgrow _; obtain ⟨va, vl, vc, rfl⟩ := rowSlice hown'; have HB2 := Lib.hid ((HB.out.alloc (.cells #[.int .i64 0, .int .i64 ((k : Int) + 1), .int .i64 0, .int .i64 0] 138)).frm (S := v.ownBlock.toList) (Frm.of_grown hgrow (fun k hk => .inl (by simpa using hk.symm ▸ rfl))) (fun hm => by have := hb _ (by simpa using hm); omega)); have hF2 : Frm [] w1 w2 := (HF2.out.alloc _).widen (S' := v.ownBlock.toList) (Frm.of_grown hgrow (fun k hk => .inl (by simpa using hk.symm ▸ rfl))) (fun k hk => .inr (by have := hb k (by simpa using hk); omega)); have HO2 := Lib.hid hown'; have HF3 := Lib.hid hF2; have k2 := HB2.out.cell (i := 2) rfl; have kz := HB2.out.frozen; have HB3 := Lib.hid (HB2.out.set 2 (.slice va vl vc)); have HO3 := Lib.hid (rowFrm HO2.out ((Frm.refl [w1.heap.size] w2).set ⟨w1.heap.size, 2, none⟩ (.slice va vl vc) (.inl (by simp))) (by simp)); have HF4 := Lib.hid (HF3.out.set ⟨w1.heap.size, 2, none⟩ (.slice va vl vc) (.inr (Nat.le_refl _))); clear hown' hgrow hF2 hb))
      go_roundw
      case rel => exact ⟨k + 1, by go_num, by omega, ⟨_, HB3.out, by rw [spC_hS0]; exact HO3.out⟩, HF4.out⟩
      case measure => simp [intOf]; omega
    · have l1 : ¬ (k : Int) < n := by omega
      obtain rfl : k = n := by omega
      have hA2 := HA.out.frm (S := []) HF2.out (by simp) (by simp)
      have HST := Lib.hid (Store_any hA2 ((A.taken : Int) + 1) ((k : Int) + 1))
      clear hA2
      go_wp2_with fail
      refine HST.out.mono ?_
      rintro e w3 ⟨rfl, hA3, hF3⟩
      have HA3 := Lib.hid hA3
      have HF3 := Lib.hid hF3
      clear hA3 hF3
      go_wp2
      go_ret2
      obtain ⟨h1, h2⟩ := HO.out
      rcases h2 with ⟨_, h2⟩ | ⟨g, cap, cur, hv, hg, hh, hkc, hc1, hc2, htk⟩
      · omega
      · subst hv
        have hrow : HAt wr g (spC k hS0 ++ cur.toList.drop (k * 4)) 138 := by
          unfold HAt
          rw [← htk, List.take_append_drop]
          exact hh
        refine ⟨w1.heap.size, g, (cap, cur.toList.drop (k * 4)), rfl, hsz, by omega, ?_, HF.out.trans ((HF2.out.mono (by simp)).trans HF3.out)⟩
        exact { box := by have := HB.out.frm HF3.out (by simp; omega); simpa using this, row := hrow.frm HF3.out (by simp; omega), ar := HA3.out, ne := by omega, n1 := hn1, n32 := hn, tb := by omega }
end
end Go.Proofs.YteijjhahgabalaaGreat
