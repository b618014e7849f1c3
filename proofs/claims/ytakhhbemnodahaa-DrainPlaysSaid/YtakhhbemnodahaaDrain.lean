/- The contracts of package drain. -/
import Derived.Test.YtakhhbemnodahaaGaugeAwake
import Derived.Test.YtakhhbemnodahaaQuietTail
import Derived.Deep.RegionHeld3
import Derived.Deep.RegionWith
import Derived.Deep.DeepCutAuto
import Derived.Deep.CutBlock
namespace Go.Proofs.Ytakhhbemnodahaa
open Go.RowKit

/-- a drain's state -/
structure DR where
  at_ : Int
  to_ : Int
  once : Bool
  busy : Bool
  second : Bool
  out : Int
  clear : Bool

def DrAt (w : World) (db : Nat) (gp : Option Addr) (D : DR) : Prop :=
  HAt w db [.pointer gp, .int .i64 D.at_, .int .i64 D.to_, .bool D.once, .bool D.busy, .bool D.second, .int .i64 D.out, .bool D.clear] 69
theorem DrAt.frm {w w' : World} {db : Nat} {gp : Option Addr} {D : DR} (h : DrAt w db gp D) {S : List Nat} (hf : Frm S w w') (h1 : db ∉ S) : DrAt w' db gp D := HAt.frm h hf h1

def DR.zero : DR := ⟨0, 0, false, false, false, 0, false⟩
def DR.over (D : DR) (c : Bool) : DR := { D with busy := false, clear := c }
def DR.begins (D : DR) (a b : Int) (once : Bool) : DR := if b ≤ a then DR.over { D with at_ := a, to_ := b, once := once, second := false } true else { D with at_ := a, to_ := b, once := once, second := false, busy := true, clear := false }
def DR.first (D : DR) (v : Int) : DR := { D with out := v, second := true }
/-- the second look: it saw v -/
def DR.last (D : DR) (v : Int) : DR :=
  if v = D.out then (if wrap64 (D.at_ + 1) = D.to_ then DR.over { D with second := false, at_ := wrap64 (D.at_ + 1) } true else { D with second := false, at_ := wrap64 (D.at_ + 1) })
  else if D.once then DR.over { D with second := false } false else { D with second := false }
def DR.lastR (D : DR) (v : Int) : Bool := if v = D.out then decide (wrap64 (D.at_ + 1) = D.to_) else D.once

section
variable {w : World} {db : Nat} {gp : Option Addr} {D : DR}

theorem dNew_any (gp : Option Addr) (w : World) : Calls Try.prog 42 #[.pointer gp] w fun e w' => e = .returned (.pointer (some ⟨w.heap.size, 0, none⟩)) ∧ DrAt w' w.heap.size gp DR.zero ∧ Frm [] w w' := by
  go_enter Try.func42, Try.ntmps42
  go_wp2
  go_ret
  exact ⟨rfl, HAt.new w _ _, (Frm.refl _ _).alloc _⟩

theorem dOver_any (h : DrAt w db gp D) (c : Bool) : Calls Try.prog 72 #[.pointer (some ⟨db, 0, none⟩), .bool c] w fun e w' => e = .returned (.bool true) ∧ DrAt w' db gp (D.over c) ∧ Frm [db] w w' := by
  have hfz := HAt.frozen h
  have c4 := HAt.cell h (i := 4) rfl
  have c7 := HAt.cell h (i := 7) rfl
  have hs := (HAt.set h 4 (.bool false)).set 7 (.bool c)
  have HS := Lib.hid hs
  clear h hs
  go_enter Try.func72, Try.ntmps72
  go_wp2
  go_ret
  exact ⟨rfl, HS.out, ((Frm.refl _ _).set ⟨db, 4, none⟩ _ (.inl (by simp))).set ⟨db, 7, none⟩ _ (.inl (by simp))⟩

theorem dBusy_any (h : DrAt w db gp D) : Calls Try.prog 46 #[.pointer (some ⟨db, 0, none⟩)] w fun e w' => e = .returned (.bool D.busy) ∧ w = w' := by
  have c4 := HAt.cell h (i := 4) rfl
  clear h
  go_enter Try.func46, Try.ntmps46
  go_wp2
  go_ret
  exact ⟨rfl, rfl⟩
theorem dBusy_nil (w : World) : Calls Try.prog 46 #[.pointer none] w fun e w' => e = .returned (.bool false) ∧ w = w' := by
  go_enter Try.func46, Try.ntmps46
  go_wp2
  go_ret
  exact ⟨rfl, rfl⟩
theorem dClear_any (h : DrAt w db gp D) : Calls Try.prog 45 #[.pointer (some ⟨db, 0, none⟩)] w fun e w' => e = .returned (.bool D.clear) ∧ w = w' := by
  have c7 := HAt.cell h (i := 7) rfl
  clear h
  go_enter Try.func45, Try.ntmps45
  go_wp2
  go_ret
  exact ⟨rfl, rfl⟩
theorem dClear_nil (w : World) : Calls Try.prog 45 #[.pointer none] w fun e w' => e = .returned (.bool false) ∧ w = w' := by
  go_enter Try.func45, Try.ntmps45
  go_wp2
  go_ret
  exact ⟨rfl, rfl⟩
theorem dAt_any (h : DrAt w db gp D) : Calls Try.prog 47 #[.pointer (some ⟨db, 0, none⟩)] w fun e w' => e = .returned (.int .i64 D.at_) ∧ w = w' := by
  have c1 := HAt.cell h (i := 1) rfl
  clear h
  go_enter Try.func47, Try.ntmps47
  go_wp2
  go_ret
  exact ⟨rfl, rfl⟩
theorem dAt_nil (w : World) : Calls Try.prog 47 #[.pointer none] w fun e w' => e = .returned (.int .i64 0) ∧ w = w' := by
  go_enter Try.func47, Try.ntmps47
  go_wp2
  go_ret
  exact ⟨rfl, rfl⟩

theorem dBegin_any (h : DrAt w db gp D) (a b : Int) (once : Bool) : Calls Try.prog 43 #[.pointer (some ⟨db, 0, none⟩), .int .i64 a, .int .i64 b, .bool once] w fun e w' => e = .returned (.bool (decide (b ≤ a))) ∧ DrAt w' db gp (D.begins a b once) ∧ Frm [db] w w' := by
  have hfz := HAt.frozen h
  have c1 := HAt.cell h (i := 1) rfl
  have c2 := HAt.cell h (i := 2) rfl
  have c3 := HAt.cell h (i := 3) rfl
  have c4 := HAt.cell h (i := 4) rfl
  have c5 := HAt.cell h (i := 5) rfl
  have c7 := HAt.cell h (i := 7) rfl
  have hs := (((HAt.set h 1 (.int .i64 a)).set 2 (.int .i64 b)).set 3 (.bool once)).set 5 (.bool false)
  have hf : Frm [db] w _ := ((((Frm.refl _ w).set ⟨db, 1, none⟩ (.int .i64 a) (.inl (by simp))).set ⟨db, 2, none⟩ (.int .i64 b) (.inl (by simp))).set ⟨db, 3, none⟩ (.bool once) (.inl (by simp))).set ⟨db, 5, none⟩ (.bool false) (.inl (by simp))
  have H : Hid (DrAt _ db gp { D with at_ := a, to_ := b, once := once, second := false }) := Lib.hid hs
  have HF := Lib.hid hf
  clear h hs hf
  by_cases hle : b ≤ a
  · have e1 : D.begins a b once = DR.over { D with at_ := a, to_ := b, once := once, second := false } true := by unfold DR.begins; rw [if_pos hle]
    rw [e1, decide_eq_true hle]
    have d1 : decide (b ≤ a) = true := by simpa using hle
    clear e1 hle
    go_enter Try.func43, Try.ntmps43
    go_wp2_with fail
    refine (dOver_any H.out true).mono ?_
    rintro e w' ⟨rfl, hD, hF⟩
    have HD := Lib.hid hD
    have HF2 := Lib.hid (HF.out.trans hF)
    clear hD hF
    go_wp2
    go_ret
    exact ⟨rfl, HD.out, HF2.out⟩
  · have e1 : D.begins a b once = { D with at_ := a, to_ := b, once := once, second := false, busy := true, clear := false } := by unfold DR.begins; rw [if_neg hle]
    rw [e1, decide_eq_false hle]
    have d1 : decide (b ≤ a) = false := by simpa using hle
    clear e1 hle
    have hs2 := (HAt.set H.out 4 (.bool true)).set 7 (.bool false)
    have hf2 := (HF.out.set ⟨db, 4, none⟩ (.bool true) (.inl (by simp))).set ⟨db, 7, none⟩ (.bool false) (.inl (by simp))
    have HS := Lib.hid hs2
    have HF2 := Lib.hid hf2
    clear hs2 hf2
    go_enter Try.func43, Try.ntmps43
    go_wp2
    go_ret
    exact ⟨rfl, HS.out, HF2.out⟩
theorem dBegin_nil (a b : Int) (once : Bool) (w : World) : Calls Try.prog 43 #[.pointer none, .int .i64 a, .int .i64 b, .bool once] w fun e w' => e = .returned (.bool (decide (b ≤ a))) ∧ w = w' := by
  go_enter Try.func43, Try.ntmps43
  go_wp2
  go_ret
  exact ⟨rfl, rfl⟩

/-- what a gauge's function tells, from a world like w but for the drain: v; R holds behind it, and blocks of S alone change -/
def Tells (F : FuncId) (gp : Option Addr) (at_ v : Int) (db : Nat) (S : List Nat) (R : World → Prop) (w : World) : Prop :=
  ∀ wx, Frm [db] w wx → Calls Try.prog F #[.pointer gp, .int .i64 at_] wx fun e w' => e = .returned (.int .i64 v) ∧ R w' ∧ Frm S wx w'

theorem dFirst_any {S : List Nat} {R : World → Prop} {v : Int} (h : DrAt w db gp D) (hO : Tells 23 gp D.at_ v db S R w) (hS : db ∉ S) (hR : ∀ w1 w2, Frm [db] w1 w2 → R w1 → R w2) :
    Calls Try.prog 73 #[.pointer (some ⟨db, 0, none⟩)] w fun e w' => e = .returned (.bool false) ∧ DrAt w' db gp (D.first v) ∧ R w' ∧ Frm (db :: S) w w' := by
  have hkk : ∀ wx, Frm S w wx → wx.cell? ⟨db, 0, none⟩ = some (.pointer gp) ∧ wx.cell? ⟨db, 1, none⟩ = some (.int .i64 D.at_) ∧ wx.cell? ⟨db, 6, none⟩ = some (.int .i64 D.out) ∧ wx.frozen? ⟨db, 6, none⟩ = false := fun wx hf => ⟨HAt.cell (h.frm hf hS) (i := 0) rfl, HAt.cell (h.frm hf hS) (i := 1) rfl, HAt.cell (h.frm hf hS) (i := 6) rfl, HAt.frozen (h.frm hf hS) 6⟩
  have KK := Lib.hid hkk
  have HO := Lib.hid hO
  have H := Lib.hid h
  have HRR := Lib.hid hR
  have HS := Lib.hid hS
  clear hkk hO hR h hS
  go_enter Try.func73, Try.ntmps73
  go_wp2_with fail
  go_cut [] (fun wx => DrAt wx db gp { D with out := v } ∧ R wx ∧ Frm (db :: S) w wx)
  case first =>
    have c0 := (KK.out w (Frm.refl _ _)).1
    have c1 := (KK.out w (Frm.refl _ _)).2.1
    go_region_with (go_at_call 23; refine (HO.out _ (by repeat (first | exact Frm.refl _ _ | apply Frm.drew1 | apply Frm.drew))).mono ?_; rintro e w1 ⟨rfl, hRw, hF⟩; have HF1 := Lib.hid (Frm.trans (S := S) (a := w) (by repeat (first | exact Frm.refl _ _ | apply Frm.drew1 | apply Frm.drew)) hF); have HR1 := Lib.hid hRw; have k6 := (KK.out _ HF1.out).2.2.1; have kz := (KK.out _ HF1.out).2.2.2; clear hRw hF)
    all_goals
      go_wp2_with fail
      go_meet
      have hD1 := H.out.frm HF1.out HS.out
      have hf1 : Frm [db] w1 (w1.setCell ⟨db, 6, none⟩ (.int .i64 v)) := (Frm.refl _ _).set ⟨db, 6, none⟩ _ (.inl (by simp))
      exact ⟨HAt.set hD1 6 (.int .i64 v), HRR.out _ _ hf1 HR1.out, (HF1.out.mono (by simp; intro x hx; exact .inr hx)).trans (hf1.mono (by simp))⟩
  case rest =>
    obtain ⟨hD, hRw, hF⟩ := hcut
    have c5 := HAt.cell hD (i := 5) rfl
    have hfz := HAt.frozen hD
    have hs := HAt.set hD 5 (.bool true)
    have hf2 : Frm [db] wc (wc.setCell ⟨db, 5, none⟩ (.bool true)) := (Frm.refl _ _).set ⟨db, 5, none⟩ _ (.inl (by simp))
    have HS2 := Lib.hid hs
    have HR2 := Lib.hid (HRR.out _ _ hf2 hRw)
    have HF2 := Lib.hid (hF.trans (hf2.mono (by simp)))
    clear hD hRw hF hs hf2
    go_wp2
    go_ret
    exact ⟨rfl, HS2.out, HR2.out, HF2.out⟩

set_option maxHeartbeats 2000000 in
theorem dLast_any {S : List Nat} {R : World → Prop} {v : Int} (h : DrAt w db gp D) (hO : Tells 17 gp D.at_ v db S R w) (hS : db ∉ S) (hR : ∀ w1 w2, Frm [db] w1 w2 → R w1 → R w2) :
    Calls Try.prog 74 #[.pointer (some ⟨db, 0, none⟩)] w fun e w' => e = .returned (.bool (D.lastR v)) ∧ DrAt w' db gp (D.last v) ∧ R w' ∧ Frm (db :: S) w w' := by
  have c5 := HAt.cell h (i := 5) rfl
  have hfz := HAt.frozen h
  have hs : DrAt (w.setCell ⟨db, 5, none⟩ (.bool false)) db gp { D with second := false } := HAt.set h 5 (.bool false)
  have hf0 : Frm [db] w (w.setCell ⟨db, 5, none⟩ (.bool false)) := (Frm.refl _ _).set ⟨db, 5, none⟩ _ (.inl (by simp))
  have H := Lib.hid hs
  have HF0 := Lib.hid hf0
  have HO := Lib.hid hO
  have HRR := Lib.hid hR
  have HS := Lib.hid hS
  clear hO hR h hS hs hf0
  go_enter Try.func74, Try.ntmps74
  go_wp2_with fail
  generalize w.setCell ⟨db, 5, none⟩ (.bool false) = w0 at *
  have k0 := HAt.cell H.out (i := 0) rfl
  have k1 := HAt.cell H.out (i := 1) rfl
  clear c5 hfz
  go_cut [3] (fun s3 wx => s3 = .int .i64 v ∧ R wx ∧ Frm S w0 wx)
  case first =>
    go_region_with (go_at_call 17; refine (HO.out _ (by repeat (first | exact HF0.out | apply Frm.drew1 | apply Frm.drew))).mono ?_; rintro e w1 ⟨rfl, hRw, hF⟩; have HF1 := Lib.hid (Frm.trans (S := S) (a := w0) (by repeat (first | exact Frm.refl _ _ | apply Frm.drew1 | apply Frm.drew)) hF); have HR1 := Lib.hid hRw; clear hRw hF)
    all_goals
      go_wp2_with fail
      go_meet
      exact ⟨rfl, HR1.out, HF1.out⟩
  case rest =>
    obtain ⟨rfl, hRw, hF⟩ := hcut
    have hD := H.out.frm hF HS.out
    have HD := Lib.hid hD
    have HR1 := Lib.hid hRw
    have HF1 := Lib.hid ((HF0.out.mono (S' := db :: S) (by simp)).trans (hF.mono (by simp; intro x hx; exact .inr hx)))
    have c3 := HAt.cell hD (i := 3) rfl
    have c6 := HAt.cell hD (i := 6) rfl
    have c1 := HAt.cell hD (i := 1) rfl
    have c2 := HAt.cell hD (i := 2) rfl
    have hfz := HAt.frozen hD
    simp only at c1 c2 c3 c6
    clear hRw hF hD k0 k1 H HO HF0
    by_cases hv : v = D.out
    · have d1 : (v != D.out) = false := by simpa using hv
      have e1 : D.last v = if wrap64 (D.at_ + 1) = D.to_ then DR.over { D with second := false, at_ := wrap64 (D.at_ + 1) } true else { D with second := false, at_ := wrap64 (D.at_ + 1) } := by unfold DR.last; rw [if_pos hv]
      have e2 : D.lastR v = decide (wrap64 (D.at_ + 1) = D.to_) := by unfold DR.lastR; rw [if_pos hv]
      have E1 := Lib.hid e1
      have E2 := Lib.hid e2
      clear e1 e2 hv
      go_upto_region 8 with fail
      have hD2 : DrAt (wc.setCell ⟨db, 1, none⟩ (.int .i64 (wrap64 (D.at_ + 1)))) db gp { D with second := false, at_ := wrap64 (D.at_ + 1) } := HAt.set HD.out 1 (.int .i64 (wrap64 (D.at_ + 1)))
      have hf2 : Frm [db] wc (wc.setCell ⟨db, 1, none⟩ (.int .i64 (wrap64 (D.at_ + 1)))) := (Frm.refl _ _).set ⟨db, 1, none⟩ _ (.inl (by simp))
      have HR2 := Lib.hid (HRR.out _ _ hf2 HR1.out)
      have HF2 := Lib.hid (HF1.out.trans (hf2.mono (S' := db :: S) (by simp)))
      generalize wc.setCell ⟨db, 1, none⟩ (.int .i64 (wrap64 (D.at_ + 1))) = w5 at *
      have HD2 := Lib.hid hD2
      have k1 := HAt.cell hD2 (i := 1) rfl
      have k2 := HAt.cell hD2 (i := 2) rfl
      simp only at k1 k2
      clear hD2 hf2 c1 c2 c3 c6 hfz HD HR1 HF1
      generalize wrap64 (D.at_ + 1) = a1 at *
      cases ht : decide (a1 = D.to_) with
      | true =>
        have d2 : (a1 == D.to_) = true := by simpa using ht
        have HT := Lib.hid (of_decide_eq_true ht)
        clear ht
        go_cut [2] (fun s2 wx => s2 = .bool true ∧ DrAt wx db gp (DR.over { D with second := false, at_ := a1 } true) ∧ R wx ∧ Frm (db :: S) w wx)
        case first =>
          go_region_with (go_at_call 72; refine (dOver_any (HD2.out.frm (S := []) (by repeat (first | exact Frm.refl _ _ | apply Frm.drew1 | apply Frm.drew)) (by simp)) true).mono ?_; rintro e w6 ⟨rfl, hD6, hF6⟩; have HD6 := Lib.hid hD6; have HF6 := Lib.hid (Frm.trans (S := [db]) (a := w5) (by repeat (first | exact Frm.refl _ _ | apply Frm.drew1 | apply Frm.drew)) hF6); clear hD6 hF6)
          all_goals
            go_wp2_with fail
            go_meet
            exact ⟨rfl, HD6.out, HRR.out _ _ HF6.out HR2.out, HF2.out.trans (HF6.out.mono (by simp))⟩
        case rest =>
          obtain ⟨rfl, hD, hRw, hF⟩ := hcut
          have HD7 := Lib.hid (And.intro hD (And.intro hRw hF))
          clear hD hRw hF
          go_wp2
          go_ret
          exact ⟨by rw [E2.out, HT.out]; simp, by rw [E1.out, if_pos HT.out]; exact HD7.out.1, HD7.out.2.1, HD7.out.2.2⟩
      | false =>
        have d2 : (a1 == D.to_) = false := by simpa using ht
        have HT := Lib.hid (of_decide_eq_false ht)
        clear ht
        go_quiet (fail)
        go_wp2
        go_ret
        have hf9 : Frm [db] w5 (w5.drewN nq) := (Frm.refl _ _).drew _
        exact ⟨by rw [E2.out, decide_eq_false HT.out]; rfl, by rw [E1.out, if_neg HT.out]; exact HD2.out.frm (S := []) ((Frm.refl _ _).drew _) (by simp), HRR.out _ _ hf9 HR2.out, HF2.out.trans (hf9.mono (by simp))⟩
    · have d1 : (v != D.out) = true := by simpa using hv
      cases ho : D.once with
      | true =>
        have e1 : D.last v = DR.over { D with second := false } false := by unfold DR.last; rw [if_neg hv, ho]; rfl
        have e2 : D.lastR v = true := by unfold DR.lastR; rw [if_neg hv, ho]
        have E1 := Lib.hid e1
        have E2 := Lib.hid e2
        rw [ho] at c3
        clear e1 e2 hv ho
        go_wp2_with fail
        refine (dOver_any HD.out false).mono ?_
        rintro e w' ⟨rfl, hD, hF⟩
        have HR2 := Lib.hid (HRR.out _ _ hF HR1.out)
        have HD2 := Lib.hid hD
        have HF2 := Lib.hid (HF1.out.trans (hF.mono (by simp)))
        clear hD hF
        go_wp2
        go_ret
        exact ⟨by rw [E2.out]; rfl, by rw [E1.out]; exact HD2.out, HR2.out, HF2.out⟩
      | false =>
        have e1 : D.last v = { D with second := false } := by unfold DR.last; rw [if_neg hv, ho]; rfl
        have e2 : D.lastR v = false := by unfold DR.lastR; rw [if_neg hv, ho]
        have E1 := Lib.hid e1
        have E2 := Lib.hid e2
        rw [ho] at c3
        clear e1 e2 hv ho
        go_wp2
        go_ret
        exact ⟨by rw [E2.out]; rfl, by rw [E1.out]; exact HD.out, HR1.out, HF1.out⟩

theorem dStep_idle (h : DrAt w db gp D) (hb : D.busy = false) : Calls Try.prog 44 #[.pointer (some ⟨db, 0, none⟩)] w fun e w' => e = .returned (.bool false) ∧ w = w' := by
  have hB := dBusy_any h
  rw [hb] at hB
  have HB := Lib.hid hB
  clear h hb hB
  go_enter Try.func44, Try.ntmps44
  go_wp2_with fail
  refine HB.out.mono ?_
  rintro e w' ⟨rfl, rfl⟩
  go_wp2
  go_ret
  exact ⟨rfl, rfl⟩
theorem dStep_nil (w : World) : Calls Try.prog 44 #[.pointer none] w fun e w' => e = .returned (.bool false) ∧ w = w' := by
  go_enter Try.func44, Try.ntmps44
  go_wp2_with fail
  refine (dBusy_nil _).mono ?_
  rintro e w' ⟨rfl, rfl⟩
  go_wp2
  go_ret
  exact ⟨rfl, rfl⟩
theorem dStep_first {S : List Nat} {R : World → Prop} {v : Int} (h : DrAt w db gp D) (hb : D.busy = true) (hs : D.second = false) (hO : Tells 23 gp D.at_ v db S R w) (hS : db ∉ S) (hR : ∀ w1 w2, Frm [db] w1 w2 → R w1 → R w2) :
    Calls Try.prog 44 #[.pointer (some ⟨db, 0, none⟩)] w fun e w' => e = .returned (.bool false) ∧ DrAt w' db gp (D.first v) ∧ R w' ∧ Frm (db :: S) w w' := by
  have hB := dBusy_any h
  rw [hb] at hB
  have HB := Lib.hid hB
  have c5 := HAt.cell h (i := 5) rfl
  rw [hs] at c5
  have HF := Lib.hid (dFirst_any h hO hS hR)
  have hmf : ∀ (fn : Fn) (first cap : Array Value) (w : World), (Instr.makeFunc fn first cap).run Try.prog w = .ok (.func fn first cap) w := fun _ _ _ _ => rfl
  clear h hb hB hs hO hS hR
  go_enter Try.func44, Try.ntmps44
  go_wp2_with fail
  refine HB.out.mono ?_
  rintro e w' ⟨rfl, rfl⟩
  go_wp2_with (go_at_call 73; refine HF.out.mono ?_; rintro e w' ⟨rfl, hD, hRw, hF⟩; have HD := Lib.hid (And.intro hD (And.intro hRw hF)); clear hD hRw hF)
  go_ret
  exact ⟨rfl, HD.out⟩
theorem dStep_last {S : List Nat} {R : World → Prop} {v : Int} (h : DrAt w db gp D) (hb : D.busy = true) (hs : D.second = true) (hO : Tells 17 gp D.at_ v db S R w) (hS : db ∉ S) (hR : ∀ w1 w2, Frm [db] w1 w2 → R w1 → R w2) :
    Calls Try.prog 44 #[.pointer (some ⟨db, 0, none⟩)] w fun e w' => e = .returned (.bool (D.lastR v)) ∧ DrAt w' db gp (D.last v) ∧ R w' ∧ Frm (db :: S) w w' := by
  have hB := dBusy_any h
  rw [hb] at hB
  have HB := Lib.hid hB
  have c5 := HAt.cell h (i := 5) rfl
  rw [hs] at c5
  have HF := Lib.hid (dLast_any h hO hS hR)
  have hmf : ∀ (fn : Fn) (first cap : Array Value) (w : World), (Instr.makeFunc fn first cap).run Try.prog w = .ok (.func fn first cap) w := fun _ _ _ _ => rfl
  clear h hb hB hs hO hS hR
  go_enter Try.func44, Try.ntmps44
  go_wp2_with fail
  refine HB.out.mono ?_
  rintro e w' ⟨rfl, rfl⟩
  go_wp2_with (go_at_call 74; refine HF.out.mono ?_; rintro e w' ⟨rfl, hD, hRw, hF⟩; have HD := Lib.hid (And.intro hD (And.intro hRw hF)); clear hD hRw hF)
  go_ret
  exact ⟨rfl, HD.out⟩
end

end Go.Proofs.Ytakhhbemnodahaa
