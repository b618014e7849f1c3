/- The contracts of the reference's turns. -/
import Derived.Test.YtakhhbemnodahaaTurn
import Derived.Test.YtakhhbemnodahaaFieldRefs
import Derived.Test.YtakhhbemnodahaaRefTake
import Derived.Test.YtakhhbemnodahaaRefLoad
import Derived.Test.YtakhhbemnodahaaRefAdd
namespace Go.Proofs.Ytakhhbemnodahaa
open Go.RowKit

structure RtAt (w : World) (yb rb : Nat) (first slots : Nat) : Prop where
  box : HAt w yb [.pointer (some ⟨rb, 0, none⟩), .int .i64 first, .int .i64 slots] 64
  first1 : 1 ≤ first
  first2 : first ≤ 5000
  slots2 : slots ≤ 32
theorem RtAt.frm {w w' : World} {yb rb first slots : Nat} (h : RtAt w yb rb first slots) {S : List Nat} (hf : Frm S w w') (h1 : yb ∉ S) : RtAt w' yb rb first slots :=
  { h with box := h.box.frm hf h1 }

section
variable {w : World} {yb rb first slots m : Nat} {d : Nat → Nat} {A : AR} {v : Value}

theorem Pack_any' (i n : Int) (w : World) : Calls Try.prog 62 #[.int .i64 i, .int .i64 n] w fun e w' => e = .returned (.tuple #[.int .i64 (fPack i n), .int .i64 (fPackE i n)]) ∧ ∃ n, w' = w.drewN n :=
  (rPack_any i n w).mono fun e w' h => ⟨h.1, 0, h.2.symm⟩

theorem rtNext_any (h : RtAt w yb rb first slots) (hA : RfAt w rb v A) (hm : m ≤ 1000) (hd : ∀ j, d j ≤ m) (i : Int) (he : gHas slots i = true → A.get ((first : Int) + i) = d i.toNat) :
    Calls Try.prog 35 #[.pointer (some ⟨yb, 0, none⟩), .int .i64 i] w fun e w' => e = .returned (.int .i64 (tNext slots d i)) ∧ ∃ n, w' = w.drewN n := by
  have c0 := h.box.cell (i := 0) rfl
  have c1 := h.box.cell (i := 1) rfl
  have c2 := h.box.cell (i := 2) rfl
  have h1 := h.first1
  have h2 := h.first2
  have h3 := h.slots2
  cases hk : gHas slots i with
  | false =>
    have hr : tNext slots d i = 0 := by unfold tNext; rw [hk]; rfl
    rw [hr]
    clear h hA hr he
    by_cases hneg : i < 0
    · have d1 : decide (i < 0) = true := by simpa using hneg
      clear hk
      go_enter Try.func35, Try.ntmps35
      go_wp2
      go_ret
      exact ⟨rfl, 0, rfl⟩
    · have d1 : decide (i < 0) = false := by simpa using hneg
      have d2 : decide ((slots : Int) ≤ i) = true := by unfold gHas at hk; simp at hk; simp; omega
      clear hk
      go_enter Try.func35, Try.ntmps35
      go_wp2
      go_ret
      exact ⟨rfl, 0, rfl⟩
  | true =>
    have hr : tNext slots d i = fPack (i + 1) ((d i.toNat : Int) + 1) := by unfold tNext; rw [hk]; rfl
    rw [hr]
    have hk' : 0 ≤ i ∧ i < (slots : Int) := by unfold gHas at hk; simpa using hk
    have hg := he hk
    obtain ⟨j, rfl⟩ := Int.eq_ofNat_of_zero_le hk'.1
    rw [show ((j : Int).toNat) = j from by omega] at hg ⊢
    have hb := hd j
    have d1 : decide ((j : Int) < 0) = false := by simp
    have d2 : decide ((slots : Int) ≤ j) = false := by simp; omega
    have d3 : decide (slots ≤ j) = false := by simp; omega
    have l1 : (j : Int) < 32 := by omega
    have HA := Lib.hid hA
    have HG := Lib.hid hg
    clear h hA hr he hk hk' hd hg
    generalize d j = q at *
    go_enter Try.func35, Try.ntmps35
    go_wp2_with fail
    have HAt' := Lib.hid (fun n => (rAt_any (HA.out.frm (S := []) ((Frm.refl _ w).drew n) (by simp)) ((first : Int) + j)).mono (fun e w' h => (show e = .returned (.int .i64 (A.get ((first : Int) + j))) ∧ ∃ k, w' = (w.drewN n).drewN k from ⟨h.1, 0, h.2.symm⟩)))
    rw [HG.out] at HAt'
    have HP := Lib.hid (fun n => Pack_any' ((j : Int) + 1) ((q : Int) + 1) (w.drewN n))
    go_quiet ((first | (go_at_call 63; exact Calls.quiet_of (HAt'.out _)) | (go_at_call 62; exact Calls.quiet_of (HP.out _))))
    go_wp2
    go_ret
    exact ⟨rfl, _, rfl⟩

theorem rtDone_any (h : RtAt w yb rb first slots) (hA : RfAt w rb v A) (i : Int) :
    Calls Try.prog 37 #[.pointer (some ⟨yb, 0, none⟩), .int .i64 i] w fun e w' => e = .returned (.tuple #[]) ∧ RfAt w' rb v (A.tDone first slots i) ∧ Frm (rb :: vb v) w w' := by
  have c0 := h.box.cell (i := 0) rfl
  have c1 := h.box.cell (i := 1) rfl
  have c2 := h.box.cell (i := 2) rfl
  have h1 := h.first1
  have h2 := h.first2
  have h3 := h.slots2
  cases hk : gHas slots i with
  | false =>
    have hr : A.tDone first slots i = A := by unfold AR.tDone; rw [hk]; rfl
    rw [hr]
    have HA := Lib.hid hA
    clear h hA hr
    by_cases hneg : i < 0
    · have d1 : decide (i < 0) = true := by simpa using hneg
      have d2 : decide (0 ≤ i) = false := by simpa using hneg
      clear hk
      go_enter Try.func37, Try.ntmps37
      go_wp2
      go_end0
      exact ⟨rfl, HA.out, Frm.refl _ _⟩
    · have d1 : decide (0 ≤ i) = true := by simp; omega
      have d2 : decide (i < (slots : Int)) = false := by unfold gHas at hk; simp at hk; simp; omega
      clear hk
      go_enter Try.func37, Try.ntmps37
      go_wp2
      go_end0
      exact ⟨rfl, HA.out, Frm.refl _ _⟩
  | true =>
    have hr : A.tDone first slots i = A.add ((first : Int) + i) 1 := by unfold AR.tDone; rw [hk]; rfl
    rw [hr]
    have hk' : 0 ≤ i ∧ i < (slots : Int) := by unfold gHas at hk; simpa using hk
    obtain ⟨k1, k2⟩ := hk'
    have d1 : decide (0 ≤ i) = true := by simpa using k1
    have d2 : decide (i < (slots : Int)) = true := by simpa using k2
    have k3 : i ≤ 100 := by omega
    have HAdd := Lib.hid (fun n => rAdd_any (hA.frm (S := []) ((Frm.refl _ _).drew n) (by simp)) ((first : Int) + i) 1)
    clear h hA hr hk
    go_enter Try.func37, Try.ntmps37
    go_wp2_with fail
    refine wp_region_quiet_tail 10 (by kernel_rfl) (by kernel_rfl) ?_
    simp only [List.take_succ_cons, List.take_zero, List.drop_succ_cons, List.drop_zero]
    repeat (quiet_step (fail))
    refine wpQuiet_nil ?_
    rintro _ ⟨nq, rfl⟩
    go_wp2_with fail
    refine (HAdd.out nq).mono ?_
    rintro e w' ⟨rfl, hA', hF⟩
    have HA := Lib.hid hA'
    have HF := Lib.hid (((Frm.refl _ w).drew nq).trans hF)
    clear hA' hF
    go_wp2
    go_end0
    exact ⟨rfl, HA.out, HF.out⟩

theorem rtIs_any (h : RtAt w yb rb first slots) (hA : RfAt w rb v A) (hy : yb ∉ rb :: vb v) (x : Int) (hx : I64 x) :
    Calls Try.prog 39 #[.pointer (some ⟨yb, 0, none⟩), .int .i64 x] w fun e w' => e = .returned (.bool (A.tIs first slots x)) ∧ RfAt w' rb v (A.tLook first slots x) ∧ Frm (rb :: vb v) w w' := by
  have c2 := h.box.cell (i := 2) rfl
  have h1 := h.first1
  have h2 := h.first2
  have h3 := h.slots2
  obtain ⟨i, hi⟩ : ∃ i, fIdx x = i + 1 := ⟨fIdx x - 1, by omega⟩
  have hI := (show 0 ≤ fIdx x ∧ fIdx x < 65536 from by unfold fIdx; omega)
  have i0 : -1 ≤ i := by omega
  have i3 : i < 65536 := by omega
  have hsub : fIdx x - 1 = i := by omega
  have HM := Lib.hid (rMarked_any x w)
  have HI := Lib.hid (rIndex_any x hx w)
  rw [hi] at HI
  clear hI hi
  cases hM : fMarked x with
  | true =>
    have e1 : A.tIs first slots x = false := by unfold AR.tIs tLooks; rw [hM]; rfl
    have e2 : A.tLook first slots x = A := by unfold AR.tLook tLooks; rw [hM]; rfl
    rw [e1, e2]
    rw [hM] at HM
    have HA := Lib.hid hA
    clear hA h e1 e2
    go_enter Try.func39, Try.ntmps39
    go_wp2_with fail
    refine HI.out.mono ?_
    rintro e w' ⟨rfl, rfl⟩
    go_wp2_with fail
    refine HM.out.mono ?_
    rintro e w' ⟨rfl, rfl⟩
    go_wp2
    go_ret
    exact ⟨rfl, HA.out, Frm.refl _ _⟩
  | false =>
    rw [hM] at HM
    cases hk : gHas slots i with
    | false =>
      have e1 : A.tIs first slots x = false := by unfold AR.tIs tLooks; rw [hM, hsub, hk]; rfl
      have e2 : A.tLook first slots x = A := by unfold AR.tLook tLooks; rw [hM, hsub, hk]; rfl
      rw [e1, e2]
      have HA := Lib.hid hA
      clear hA h e1 e2 hsub
      by_cases hneg : i < 0
      · have d1 : decide (i < 0) = true := by simpa using hneg
        clear hk
        go_enter Try.func39, Try.ntmps39
        go_wp2_with fail
        refine HI.out.mono ?_
        rintro e w' ⟨rfl, rfl⟩
        go_wp2_with fail
        refine HM.out.mono ?_
        rintro e w' ⟨rfl, rfl⟩
        go_wp2
        go_ret
        exact ⟨rfl, HA.out, Frm.refl _ _⟩
      · have d1 : decide (i < 0) = false := by simpa using hneg
        have d2 : decide ((slots : Int) ≤ i) = true := by unfold gHas at hk; simp at hk; simp; omega
        clear hk
        go_enter Try.func39, Try.ntmps39
        go_wp2_with fail
        refine HI.out.mono ?_
        rintro e w' ⟨rfl, rfl⟩
        go_wp2_with fail
        refine HM.out.mono ?_
        rintro e w' ⟨rfl, rfl⟩
        go_wp2
        go_ret
        exact ⟨rfl, HA.out, Frm.refl _ _⟩
    | true =>
      have e1 : A.tIs first slots x = decide (fNum x ≤ A.get ((first : Int) + i)) := by unfold AR.tIs tLooks; rw [hM, hsub, hk]; rfl
      have e2 : A.tLook first slots x = A.load ((first : Int) + i) := by unfold AR.tLook tLooks; rw [hM, hsub, hk]; rfl
      rw [e1, e2]
      have hk' : 0 ≤ i ∧ i < (slots : Int) := by unfold gHas at hk; simpa using hk
      obtain ⟨k1, k2⟩ := hk'
      have d1 : decide (i < 0) = false := by simp; omega
      have d2 : decide ((slots : Int) ≤ i) = false := by simp; omega
      have hkk : ∀ wx, Frm (rb :: vb v) w wx → wx.cell? ⟨yb, 0, none⟩ = some (.pointer (some ⟨rb, 0, none⟩)) ∧ wx.cell? ⟨yb, 1, none⟩ = some (.int .i64 first) := fun wx hf => ⟨(h.box.frm hf hy).cell (i := 0) rfl, (h.box.frm hf hy).cell (i := 1) rfl⟩
      have KK := Lib.hid hkk
      have HA := Lib.hid hA
      have HWr := Lib.hid (show IntKind.i64.wrap ((first : Int) + i) = (first : Int) + i from IntWalk.i64_in _ (by omega))
      clear hA h e1 e2 hsub hkk hk hy
      go_enter Try.func39, Try.ntmps39
      go_wp2_with fail
      refine HI.out.mono ?_
      rintro e w' ⟨rfl, rfl⟩
      go_wp2_with fail
      refine HM.out.mono ?_
      rintro e w' ⟨rfl, rfl⟩
      go_wp2_with fail
      go_region_held3 (fun wx => wx.cell? ⟨yb, 0, none⟩ = some (.pointer (some ⟨rb, 0, none⟩)) ∧ wx.cell? ⟨yb, 1, none⟩ = some (.int .i64 first)) (first | exact KK.out _ (by repeat (first | exact HFL.out | exact Frm.refl _ _ | apply Frm.drew1 | apply Frm.drew)) | exact KK.out _ (by repeat (first | exact Frm.refl _ _ | apply Frm.drew1 | apply Frm.drew)))
        (first
          | (go_at_call 55; rw [HWr.out]; refine (rLoad_any (HA.out.frm (S := []) (by repeat (first | exact Frm.refl _ _ | apply Frm.drew1 | apply Frm.drew)) (by simp)) ((first : Int) + i)).mono ?_; rintro e3 w3 ⟨rfl, hAL, hFL⟩; have HAL := Lib.hid hAL; have HFL := Lib.hid (Frm.trans (S := rb :: vb v) (a := w) (by repeat (first | exact Frm.refl _ _ | apply Frm.drew1 | apply Frm.drew)) hFL); clear hAL hFL)
          | (go_at_call 71; refine (rNumber_any x hx _).mono ?_; rintro e4 w4 ⟨rfl, rfl⟩))
      all_goals
        go_wp2
        go_ret
        exact ⟨rfl, HAL.out.frm (S := []) (by repeat (first | exact Frm.refl _ _ | apply Frm.drew1 | apply Frm.drew)) (by simp), (by repeat (first | exact HFL.out | apply Frm.drew1 | apply Frm.drew))⟩
end

end Go.Proofs.Ytakhhbemnodahaa
