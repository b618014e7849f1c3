/- The contracts of package turn. -/
import Derived.Test.YtakhhbemnodahaaGauge
import Derived.Test.YtakhhbemnodahaaFieldWalks
import Derived.Test.YtakhhbemnodahaaQuietTail
import Derived.Deep.RegionHeld3
import Derived.Deep.RegionWith
import Derived.Deep.DeepCutAuto
import Derived.Deep.CutBlock
namespace Go.Proofs.Ytakhhbemnodahaa
open Go.RowKit

/-- how often each slot was done, as cells -/
def dn (d : Nat → Nat) : List Value := (List.range 32).map fun j => Value.int .i64 (d j)
theorem dn_get (d : Nat → Nat) {j : Nat} (hj : j < 32) : (dn d)[j]? = some (.int .i64 (d j)) := by simp [dn, hj]
def dUp (d : Nat → Nat) (k : Nat) : Nat → Nat := fun j => if j = k then d j + 1 else d j
theorem dn_up (d : Nat → Nat) (k : Nat) : (dn d).set k (.int .i64 ((d k : Int) + 1)) = dn (dUp d k) := by
  apply List.ext_getElem?
  intro j
  rw [List.getElem?_set]
  by_cases h : k = j
  · subst h
    by_cases h8 : k < 32
    · simp [dn, dUp, h8]
    · simp [dn, h8]
  · rw [if_neg h]
    have hjk : ¬ j = k := fun e => h e.symm
    by_cases h8 : j < 32
    · simp [dn, dUp, h8, hjk]
    · simp [dn, h8]

structure TrAt (w : World) (tb ab first slots : Nat) (d : Nat → Nat) (m : Nat) : Prop where
  box : HAt w tb (.pointer (some ⟨ab, 0, none⟩) :: .int .i64 first :: .int .i64 slots :: dn d) 101
  first1 : 1 ≤ first
  first2 : first ≤ 5000
  slots2 : slots ≤ 32
  bd : ∀ j, d j ≤ m
theorem TrAt.frm {w w' : World} {tb ab first slots m : Nat} {d : Nat → Nat} (h : TrAt w tb ab first slots d m) {S : List Nat} (hf : Frm S w w') (h1 : tb ∉ S) : TrAt w' tb ab first slots d m :=
  { h with box := h.box.frm hf h1 }

/-- the word of a slot's next turn -/
def tNext (slots : Nat) (d : Nat → Nat) (i : Int) : Int := if gHas slots i then fPack (i + 1) ((d i.toNat : Int) + 1) else 0
/-- the words and the counts when a slot is done -/
def AR.tDone (A : AR) (first slots : Nat) (i : Int) : AR := if gHas slots i then A.add ((first : Int) + i) 1 else A
def tUp (slots : Nat) (d : Nat → Nat) (i : Int) : Nat → Nat := if gHas slots i then dUp d i.toNat else d
/-- whether the turn of a word is looked up -/
def tLooks (slots : Nat) (x : Int) : Bool := !fMarked x && gHas slots (fIdx x - 1)
def AR.tIs (A : AR) (first slots : Nat) (x : Int) : Bool := tLooks slots x && decide (fNum x ≤ A.get ((first : Int) + (fIdx x - 1)))
def AR.tLook (A : AR) (first slots : Nat) (x : Int) : AR := if tLooks slots x then A.load ((first : Int) + (fIdx x - 1)) else A

section
variable {w : World} {tb ab wb first slots m : Nat} {d : Nat → Nat} {A : AR}

theorem tSlots_any (h : TrAt w tb ab first slots d m) : Calls Try.prog 40 #[.pointer (some ⟨tb, 0, none⟩)] w fun e w' => e = .returned (.int .i64 slots) ∧ w = w' := by
  have c2 := h.box.cell (i := 2) rfl
  clear h
  go_enter Try.func40, Try.ntmps40
  go_wp2
  go_ret
  exact ⟨rfl, rfl⟩

theorem thas_any (h : TrAt w tb ab first slots d m) (i : Int) : Calls Try.prog 60 #[.pointer (some ⟨tb, 0, none⟩), .int .i64 i] w fun e w' => e = .returned (.bool (gHas slots i)) ∧ w = w' := by
  have HS := Lib.hid (tSlots_any h)
  clear h
  by_cases hneg : i < 0
  · have hr : gHas slots i = false := by unfold gHas; simp; omega
    rw [hr]
    have d1 : decide (i < 0) = true := by simpa using hneg
    have d2 : decide (0 ≤ i) = false := by simpa using hneg
    clear hr
    go_enter Try.func60, Try.ntmps60
    go_wp2
    go_ret
    exact ⟨rfl, rfl⟩
  · have d1 : decide (i < 0) = false := by simpa using hneg
    have d2 : decide (0 ≤ i) = true := by simp; omega
    have hr : gHas slots i = decide (i < (slots : Int)) := by unfold gHas; simp; omega
    rw [hr]
    clear hr
    go_enter Try.func60, Try.ntmps60
    go_wp2_with fail
    refine HS.out.mono ?_
    rintro e w' ⟨rfl, rfl⟩
    go_wp2
    go_ret
    exact ⟨rfl, rfl⟩

theorem tNext_any (h : TrAt w tb ab first slots d m) (hm : m ≤ 1000) (i : Int) : Calls Try.prog 34 #[.pointer (some ⟨tb, 0, none⟩), .int .i64 i] w fun e w' => e = .returned (.int .i64 (tNext slots d i)) ∧ ∃ n, w' = w.drewN n := by
  have HS := Lib.hid (thas_any h i)
  cases hk : gHas slots i with
  | false =>
    have hr : tNext slots d i = 0 := by unfold tNext; rw [hk]; rfl
    rw [hr]
    rw [hk] at HS
    clear h hr hk
    go_enter Try.func34, Try.ntmps34
    go_wp2_with fail
    refine HS.out.mono ?_
    rintro e w' ⟨rfl, rfl⟩
    go_wp2
    go_ret
    exact ⟨rfl, 0, rfl⟩
  | true =>
    have hr : tNext slots d i = fPack (i + 1) ((d i.toNat : Int) + 1) := by unfold tNext; rw [hk]; rfl
    rw [hr]
    rw [hk] at HS
    have hk' : 0 ≤ i ∧ i < (slots : Int) := by unfold gHas at hk; simpa using hk
    have hs := h.slots2
    obtain ⟨j, rfl⟩ := Int.eq_ofNat_of_zero_le hk'.1
    have hj : j < 32 := by omega
    have c := h.box.cell (i := 3 + j) (v := .int .i64 (d j)) (by rw [show 3 + j = j + 1 + 1 + 1 from by omega]; simpa using dn_get d hj)
    have hb := h.bd j
    rw [show ((j : Int).toNat) = j from by omega]
    generalize d j = q at *
    have l1 : (j : Int) < 32 := by omega
    clear h hr hk hk' hs
    go_enter Try.func34, Try.ntmps34
    go_wp2_with fail
    refine HS.out.mono ?_
    rintro e w' ⟨rfl, rfl⟩
    go_wp2_with fail
    refine (Pack_any _ _ _).mono ?_
    rintro e w' ⟨rfl, n, rfl⟩
    go_wp2
    go_ret
    exact ⟨rfl, _, rfl⟩

theorem tDone_any (h : TrAt w tb ab first slots d m) (hA : ArAt w ab wb A) (hm : m ≤ 1000) (hne : tb ≠ ab ∧ tb ≠ wb) (i : Int) : Calls Try.prog 36 #[.pointer (some ⟨tb, 0, none⟩), .int .i64 i] w fun e w' => e = .returned (.tuple #[]) ∧
    ArAt w' ab wb (A.tDone first slots i) ∧ TrAt w' tb ab first slots (tUp slots d i) (m + 1) ∧ Frm [tb, ab, wb] w w' := by
  have HS := Lib.hid (thas_any h i)
  cases hk : gHas slots i with
  | false =>
    have hr : A.tDone first slots i = A := by unfold AR.tDone; rw [hk]; rfl
    have hr' : tUp slots d i = d := by unfold tUp; rw [hk]; rfl
    rw [hr, hr']
    rw [hk] at HS
    have H := Lib.hid h
    have HA := Lib.hid hA
    clear h hA hr hr' hk
    go_enter Try.func36, Try.ntmps36
    go_wp2_with fail
    refine HS.out.mono ?_
    rintro e w' ⟨rfl, rfl⟩
    go_wp2
    go_end0
    exact ⟨rfl, HA.out, { H.out with bd := fun j => Nat.le_succ_of_le (H.out.bd j) }, Frm.refl _ _⟩
  | true =>
    have hr : A.tDone first slots i = A.add ((first : Int) + i) 1 := by unfold AR.tDone; rw [hk]; rfl
    have hr' : tUp slots d i = dUp d i.toNat := by unfold tUp; rw [hk]; rfl
    rw [hr, hr']
    rw [hk] at HS
    have hk' : 0 ≤ i ∧ i < (slots : Int) := by unfold gHas at hk; simpa using hk
    have hs := h.slots2
    have f1 := h.first1
    have f2 := h.first2
    obtain ⟨j, rfl⟩ := Int.eq_ofNat_of_zero_le hk'.1
    have hj : j < 32 := by omega
    have c0 := h.box.cell (i := 0) rfl
    have c1 := h.box.cell (i := 1) rfl
    have c := h.box.cell (i := 3 + j) (v := .int .i64 (d j)) (by rw [show 3 + j = j + 1 + 1 + 1 from by omega]; simpa using dn_get d hj)
    have hb := h.bd j
    have hfz := h.box.frozen
    have hset := fun n => (h.box.drew n).set (3 + j) (.int .i64 ((d j : Int) + 1))
    rw [show ((j : Int).toNat) = j from by omega]
    have hq : (Value.pointer (some ⟨ab, 0, none⟩) :: .int .i64 first :: .int .i64 slots :: dn d).set (3 + j) (.int .i64 ((d j : Int) + 1)) = .pointer (some ⟨ab, 0, none⟩) :: .int .i64 first :: .int .i64 slots :: dn (dUp d j) := by
      rw [show 3 + j = j + 1 + 1 + 1 from by omega, List.set_cons_succ, List.set_cons_succ, List.set_cons_succ, dn_up]
    rw [hq] at hset
    have HT : Hid (∀ n, TrAt ((w.drewN n).setCell ⟨tb, 3 + j, none⟩ (.int .i64 ((d j : Int) + 1))) tb ab first slots (dUp d j) (m + 1)) := Lib.hid fun n => { h with box := hset n, bd := fun i => by have := h.bd i; unfold dUp; split <;> omega }
    have HA := Lib.hid hA
    clear hset hq h hA
    generalize d j = q at *
    have l1 : (j : Int) < 32 := by omega
    clear hr hk hk' hs hr'
    go_enter Try.func36, Try.ntmps36
    go_wp2_with fail
    refine HS.out.mono ?_
    rintro e w' ⟨rfl, rfl⟩
    go_wp2_with fail
    refine wp_region_quiet_tail 10 (by kernel_rfl) (by kernel_rfl) ?_
    simp only [List.take_succ_cons, List.take_zero, List.drop_succ_cons, List.drop_zero]
    repeat (quiet_step (fail))
    refine wpQuiet_nil ?_
    rintro _ ⟨nq, rfl⟩
    go_wp2_with fail
    have hF1 : Frm [tb] w ((w.drewN nq).setCell ⟨tb, 3 + j, none⟩ (.int .i64 ((q : Int) + 1))) := ((Frm.refl _ _).drew nq).set ⟨tb, 3 + j, none⟩ _ (.inl (by simp))
    have hT : TrAt ((w.drewN nq).setCell ⟨tb, 3 + j, none⟩ (.int .i64 ((q : Int) + 1))) tb ab first slots (dUp d j) (m + 1) := HT.out nq
    have k0 := hT.box.cell (i := 0) rfl
    have k1 := hT.box.cell (i := 1) rfl
    generalize (w.drewN nq).setCell ⟨tb, 3 + j, none⟩ (.int .i64 ((q : Int) + 1)) = w1 at *
    have hA1 := HA.out.frm hF1 (by simp; omega) (by simp; omega)
    have HF1 := Lib.hid hF1
    have HT1 := Lib.hid hT
    have HAdd := Lib.hid (fun n => Add_any (hA1.frm (S := []) ((Frm.refl _ _).drew n) (by simp) (by simp)) ((first : Int) + j) 1)
    clear hF1 hT hA1 HA HT c0 c1 c hfz
    refine wp_region_quiet_tail 10 (by kernel_rfl) (by kernel_rfl) ?_
    simp only [List.take_succ_cons, List.take_zero, List.drop_succ_cons, List.drop_zero]
    repeat (quiet_step (fail))
    refine wpQuiet_nil ?_
    rintro _ ⟨nq2, rfl⟩
    go_wp2_with fail
    refine (HAdd.out nq2).mono ?_
    rintro e w' ⟨rfl, hA', hF⟩
    have HA' := Lib.hid hA'
    have HF := Lib.hid (((Frm.refl _ w1).drew nq2).trans hF)
    clear hA' hF
    go_wp2
    go_end0
    exact ⟨rfl, HA'.out, HT1.out.frm HF.out (by simp; omega), (HF1.out.mono (by simp)).trans (HF.out.mono (by simp))⟩

theorem tIs_any (h : TrAt w tb ab first slots d m) (hA : ArAt w ab wb A) (hne : tb ≠ ab ∧ tb ≠ wb) (x : Int) (hx : I64 x) : Calls Try.prog 38 #[.pointer (some ⟨tb, 0, none⟩), .int .i64 x] w fun e w' => e = .returned (.bool (A.tIs first slots x)) ∧
    ArAt w' ab wb (A.tLook first slots x) ∧ Frm [ab, wb] w w' := by
  have f1 := h.first1
  have f2 := h.first2
  have s2 := h.slots2
  have hI := (show 0 ≤ fIdx x ∧ fIdx x < 65536 from by unfold fIdx; omega)
  cases hM : fMarked x with
  | true =>
    have e1 : A.tIs first slots x = false := by unfold AR.tIs tLooks; rw [hM]; rfl
    have e2 : A.tLook first slots x = A := by unfold AR.tLook tLooks; rw [hM]; rfl
    rw [e1, e2]
    have HA := Lib.hid hA
    clear hA h e1 e2
    go_enter Try.func38, Try.ntmps38
    go_wp2_with fail
    refine (Index_any _ _).mono ?_
    rintro e w' ⟨rfl, n, rfl⟩
    go_wp2_with fail
    have HF := Lib.hid ((Frm.refl [] w).drew n)
    generalize w.drewN n = W at *
    have HM := Lib.hid (fun k => Marked_any x hx (W.drewN k))
    rw [hM] at HM
    go_quiet ((go_at_call 66; exact Calls.quiet_of (HM.out _)))
    go_wp2
    go_ret
    exact ⟨rfl, HA.out.frm (S := []) (HF.out.drew _) (by simp) (by simp), (HF.out.drew _).mono (by simp)⟩
  | false =>
    have H := Lib.hid h
    cases hk : gHas slots (fIdx x - 1) with
    | false =>
      have e1 : A.tIs first slots x = false := by unfold AR.tIs tLooks; rw [hM, hk]; rfl
      have e2 : A.tLook first slots x = A := by unfold AR.tLook tLooks; rw [hM, hk]; rfl
      rw [e1, e2]
      have HA := Lib.hid hA
      clear hA h e1 e2
      go_enter Try.func38, Try.ntmps38
      go_wp2_with fail
      refine (Index_any _ _).mono ?_
      rintro e w' ⟨rfl, n, rfl⟩
      go_wp2_with fail
      have hf := (Frm.refl [] w).drew n
      generalize w.drewN n = W at *
      have HM := Lib.hid (fun k => Marked_any x hx (W.drewN k))
      rw [hM] at HM
      have HH := Lib.hid (fun k => (thas_any (H.out.frm (S := []) (hf.drew k) (by simp)) (fIdx x - 1)).mono (fun e w' h => (show e = .returned (.bool (gHas slots (fIdx x - 1))) ∧ ∃ n, w' = (W.drewN k).drewN n from ⟨h.1, 0, h.2.symm⟩)))
      rw [hk] at HH
      have HF := Lib.hid hf
      clear hf
      go_quiet ((first | (go_at_call 66; exact Calls.quiet_of (HM.out _)) | (go_at_call 60; exact Calls.quiet_of (HH.out _))))
      go_wp2
      go_ret
      exact ⟨rfl, HA.out.frm (S := []) (HF.out.drew _) (by simp) (by simp), (HF.out.drew _).mono (by simp)⟩
    | true =>
      have e1 : A.tIs first slots x = decide (fNum x ≤ A.get ((first : Int) + (fIdx x - 1))) := by unfold AR.tIs tLooks; rw [hM, hk]; rfl
      have e2 : A.tLook first slots x = A.load ((first : Int) + (fIdx x - 1)) := by unfold AR.tLook tLooks; rw [hM, hk]; rfl
      rw [e1, e2]
      have hkk : ∀ wx, Frm [ab, wb] w wx → wx.cell? ⟨tb, 0, none⟩ = some (.pointer (some ⟨ab, 0, none⟩)) ∧ wx.cell? ⟨tb, 1, none⟩ = some (.int .i64 first) := fun wx hf => ⟨(h.box.frm hf (by simp; omega)).cell (i := 0) rfl, (h.box.frm hf (by simp; omega)).cell (i := 1) rfl⟩
      have KK := Lib.hid hkk
      have HA := Lib.hid hA
      obtain ⟨i, hi⟩ : ∃ i, fIdx x = i + 1 := ⟨fIdx x - 1, by omega⟩
      have hsub : fIdx x - 1 = i := by omega
      rw [hsub] at hk ⊢
      have i1 : 0 ≤ i := by unfold gHas at hk; simp at hk; omega
      have i2 : i ≤ 100 := by unfold gHas at hk; simp at hk; omega
      have hwr : IntKind.i64.wrap ((first : Int) + i) = (first : Int) + i := IntWalk.i64_in _ (by omega)
      have HWr := Lib.hid hwr
      clear hA h e1 e2 hkk hI hwr
      go_enter Try.func38, Try.ntmps38
      go_wp2_with fail
      refine (Index_any _ _).mono ?_
      rw [hi]
      rintro e w' ⟨rfl, n, rfl⟩
      go_wp2_with fail
      have hf := (Frm.refl [ab, wb] w).drew n
      have hA := HA.out.frm (S := []) ((Frm.refl _ w).drew n) (by simp) (by simp)
      have hH := H.out.frm (S := []) ((Frm.refl _ w).drew n) (by simp)
      generalize w.drewN n = W at *
      have HF := Lib.hid hf
      have HA := Lib.hid hA
      have HH := Lib.hid hH
      clear hf hA hH H
      go_region_held3 (fun wx => wx.cell? ⟨tb, 0, none⟩ = some (.pointer (some ⟨ab, 0, none⟩)) ∧ wx.cell? ⟨tb, 1, none⟩ = some (.int .i64 first)) (first | exact KK.out _ (by repeat (first | exact HFL.out | exact HF.out | apply Frm.drew1 | apply Frm.drew)) | exact KK.out _ (by repeat (first | exact HF.out | apply Frm.drew1 | apply Frm.drew)))
        (first
          | (go_at_call 66; refine (Marked_any x hx _).mono ?_; rw [hM]; rintro e1 w1 ⟨rfl, n1, rfl⟩)
          | (go_at_call 60; refine (thas_any (HH.out.frm (S := []) (by repeat (first | exact Frm.refl _ _ | apply Frm.drew1 | apply Frm.drew)) (by simp)) i).mono ?_; rw [hk]; rintro e2 w2 ⟨rfl, rfl⟩)
          | (go_at_call 67; rw [HWr.out]; refine (Load_any (HA.out.frm (S := []) (by repeat (first | exact Frm.refl _ _ | apply Frm.drew1 | apply Frm.drew)) (by simp) (by simp)) ((first : Int) + i)).mono ?_; rintro e3 w3 ⟨rfl, hAL, hFL⟩; have HAL := Lib.hid hAL; have HFL := Lib.hid (Frm.trans (S := [ab, wb]) (a := w) (by repeat (first | exact HF.out | apply Frm.drew1 | apply Frm.drew)) hFL); clear hAL hFL)
          | (go_at_call 68; refine (Number_any x _).mono ?_; rintro e4 w4 ⟨rfl, n4, rfl⟩))
      all_goals
        go_wp2
        go_ret
        exact ⟨rfl, HAL.out.frm (S := []) (by repeat (first | exact Frm.refl _ _ | apply Frm.drew1 | apply Frm.drew)) (by simp) (by simp), (by repeat (first | exact HFL.out | apply Frm.drew1 | apply Frm.drew))⟩
end

end Go.Proofs.Ytakhhbemnodahaa
