/- The contracts of the reference's drain. -/
import Derived.Test.YtakhhbemnodahaaDrainStep
import Derived.Test.YtakhhbemnodahaaRefGauge
namespace Go.Proofs.Ytakhhbemnodahaa
open Go.RowKit

def RdRaw (w : World) (db : Nat) (gp : Option Addr) (a b : Int) (once : Bool) (op out : Int) (clear : Bool) : Prop :=
  HAt w db [.pointer gp, .int .i64 a, .int .i64 b, .bool once, .int .i64 op, .int .i64 out, .bool clear] 84
theorem RdRaw.frm {w w' : World} {db : Nat} {gp : Option Addr} {a b op out : Int} {once clear : Bool} (h : RdRaw w db gp a b once op out clear) {S : List Nat} (hf : Frm S w w') (h1 : db ∉ S) : RdRaw w' db gp a b once op out clear := HAt.frm h hf h1
/-- which op of a look comes next -/
def DR.op (D : DR) : Int := if D.busy then (if D.second then 2 else 1) else 0
def RdAt (w : World) (db : Nat) (gp : Option Addr) (D : DR) : Prop := RdRaw w db gp D.at_ D.to_ D.once D.op D.out D.clear

section
variable {w : World} {db : Nat} {gp : Option Addr} {D : DR}

theorem rdNew_any (gp : Option Addr) (w : World) : Calls Try.prog 49 #[.pointer gp] w fun e w' => e = .returned (.pointer (some ⟨w.heap.size, 0, none⟩)) ∧ RdAt w' w.heap.size gp DR.zero ∧ Frm [] w w' := by
  go_enter Try.func49, Try.ntmps49
  go_wp2
  go_ret
  exact ⟨rfl, HAt.new w _ _, (Frm.refl _ _).alloc _⟩

set_option maxHeartbeats 1000000 in
theorem rdBegin_any (h : RdAt w db gp D) (a b : Int) (once : Bool) : Calls Try.prog 51 #[.pointer (some ⟨db, 0, none⟩), .int .i64 a, .int .i64 b, .bool once] w fun e w' => e = .returned (.bool (decide (b ≤ a))) ∧ RdAt w' db gp (D.begins a b once) ∧ Frm [db] w w' := by
  have hfz := HAt.frozen h
  have c1 := HAt.cell h (i := 1) rfl
  have c2 := HAt.cell h (i := 2) rfl
  have c3 := HAt.cell h (i := 3) rfl
  have c4 := HAt.cell h (i := 4) rfl
  have c6 := HAt.cell h (i := 6) rfl
  have hs := ((((HAt.set h 1 (.int .i64 a)).set 2 (.int .i64 b)).set 3 (.bool once)).set 6 (.bool (decide (b ≤ a)))).set 4 (.int .i64 1)
  have hf : Frm [db] w _ := (((((Frm.refl _ w).set ⟨db, 1, none⟩ (.int .i64 a) (.inl (by simp))).set ⟨db, 2, none⟩ (.int .i64 b) (.inl (by simp))).set ⟨db, 3, none⟩ (.bool once) (.inl (by simp))).set ⟨db, 6, none⟩ (.bool (decide (b ≤ a))) (.inl (by simp))).set ⟨db, 4, none⟩ (.int .i64 1) (.inl (by simp))
  cases hle : decide (b ≤ a) with
  | true =>
    rw [hle] at hs hf
    have e1 : D.begins a b once = DR.over { D with at_ := a, to_ := b, once := once, second := false } true := by unfold DR.begins; rw [if_pos (of_decide_eq_true hle)]
    have hs2 := HAt.set hs 4 (.int .i64 0)
    have hf2 := hf.set ⟨db, 4, none⟩ (.int .i64 0) (.inl (by simp))
    rw [e1]
    have HS := Lib.hid hs2
    have HF := Lib.hid hf2
    clear e1 hs2 hf2 hs hf h
    go_enter Try.func51, Try.ntmps51
    go_wp2
    go_ret
    exact ⟨rfl, HS.out, HF.out⟩
  | false =>
    rw [hle] at hs hf
    have e1 : D.begins a b once = { D with at_ := a, to_ := b, once := once, second := false, busy := true, clear := false } := by unfold DR.begins; rw [if_neg (of_decide_eq_false hle)]
    rw [e1]
    have HS := Lib.hid hs
    have HF := Lib.hid hf
    clear e1 hs hf h
    go_enter Try.func51, Try.ntmps51
    go_wp2
    go_ret
    exact ⟨rfl, HS.out, HF.out⟩

theorem rdStep_idle (h : RdAt w db gp D) (hb : D.busy = false) : Calls Try.prog 50 #[.pointer (some ⟨db, 0, none⟩)] w fun e w' => e = .returned (.bool false) ∧ w = w' := by
  have c4 := HAt.cell h (i := 4) rfl
  have ho : D.op = 0 := by unfold DR.op; rw [hb]; rfl
  rw [ho] at c4
  clear h hb ho
  go_enter Try.func50, Try.ntmps50
  go_wp2
  go_ret
  exact ⟨rfl, rfl⟩

theorem rdStep_first {S : List Nat} {R : World → Prop} {v : Int} (h : RdAt w db gp D) (hb : D.busy = true) (hs : D.second = false) (hO : Tells 24 gp D.at_ v db S R w) (hS : db ∉ S) (hR : ∀ w1 w2, Frm [db] w1 w2 → R w1 → R w2) :
    Calls Try.prog 50 #[.pointer (some ⟨db, 0, none⟩)] w fun e w' => e = .returned (.bool false) ∧ RdAt w' db gp (D.first v) ∧ R w' ∧ Frm (db :: S) w w' := by
  have ho : D.op = 1 := by unfold DR.op; rw [hb, hs]; rfl
  have ho2 : (D.first v).op = 2 := by unfold DR.op DR.first; rw [hb]; rfl
  unfold RdAt at h
  rw [ho] at h
  have hkk : ∀ wx, Frm S w wx → wx.cell? ⟨db, 0, none⟩ = some (.pointer gp) ∧ wx.cell? ⟨db, 1, none⟩ = some (.int .i64 D.at_) ∧ wx.cell? ⟨db, 5, none⟩ = some (.int .i64 D.out) ∧ wx.frozen? ⟨db, 5, none⟩ = false := fun wx hf => ⟨HAt.cell (h.frm hf hS) (i := 0) rfl, HAt.cell (h.frm hf hS) (i := 1) rfl, HAt.cell (h.frm hf hS) (i := 5) rfl, HAt.frozen (h.frm hf hS) 5⟩
  have KK := Lib.hid hkk
  have HO := Lib.hid hO
  have H := Lib.hid h
  have HRR := Lib.hid hR
  have HS := Lib.hid hS
  have HO2 := Lib.hid ho2
  have c4 := HAt.cell h (i := 4) rfl
  have c0 := (KK.out w (Frm.refl _ _)).1
  have c1 := (KK.out w (Frm.refl _ _)).2.1
  clear hkk hO hR h hS hb hs ho ho2
  go_enter Try.func50, Try.ntmps50
  go_upto_region 4 with fail
  go_cut [] (fun wx => RdRaw wx db gp D.at_ D.to_ D.once 1 v D.clear ∧ R wx ∧ Frm (db :: S) w wx)
  case first =>
    go_region_with (go_at_call 24; refine (HO.out _ (by repeat (first | exact Frm.refl _ _ | apply Frm.drew1 | apply Frm.drew))).mono ?_; rintro e w1 ⟨rfl, hRw, hF⟩; have HF1 := Lib.hid (Frm.trans (S := S) (a := w) (by repeat (first | exact Frm.refl _ _ | apply Frm.drew1 | apply Frm.drew)) hF); have HR1 := Lib.hid hRw; have k6 := (KK.out _ HF1.out).2.2.1; have kz := (KK.out _ HF1.out).2.2.2; clear hRw hF)
    all_goals
      go_wp2_with fail
      go_meet
      have hD1 := H.out.frm HF1.out HS.out
      have hf1 : Frm [db] w1 (w1.setCell ⟨db, 5, none⟩ (.int .i64 v)) := (Frm.refl _ _).set ⟨db, 5, none⟩ _ (.inl (by simp))
      exact ⟨HAt.set hD1 5 (.int .i64 v), HRR.out _ _ hf1 HR1.out, (HF1.out.mono (by simp; intro x hx; exact .inr hx)).trans (hf1.mono (by simp))⟩
  case rest =>
    obtain ⟨hD, hRw, hF⟩ := hcut
    have c4 := HAt.cell hD (i := 4) rfl
    have hfz := HAt.frozen hD
    have hs := HAt.set hD 4 (.int .i64 2)
    have hf2 : Frm [db] wc (wc.setCell ⟨db, 4, none⟩ (.int .i64 2)) := (Frm.refl _ _).set ⟨db, 4, none⟩ _ (.inl (by simp))
    have HS2 := Lib.hid hs
    have HR2 := Lib.hid (HRR.out _ _ hf2 hRw)
    have HF2 := Lib.hid (hF.trans (hf2.mono (by simp)))
    clear hD hRw hF hs hf2
    go_wp2
    go_ret
    exact ⟨rfl, by unfold RdAt; rw [HO2.out]; exact HS2.out, HR2.out, HF2.out⟩

set_option maxHeartbeats 2000000 in
theorem rdStep_last {S : List Nat} {R : World → Prop} {v : Int} (h : RdAt w db gp D) (hb : D.busy = true) (hs : D.second = true) (hc : D.clear = false) (hO : Tells 18 gp D.at_ v db S R w) (hS : db ∉ S) (hR : ∀ w1 w2, Frm [db] w1 w2 → R w1 → R w2) :
    Calls Try.prog 50 #[.pointer (some ⟨db, 0, none⟩)] w fun e w' => e = .returned (.bool (D.lastR v)) ∧ RdAt w' db gp (D.last v) ∧ R w' ∧ Frm (db :: S) w w' := by
  have ho : D.op = 2 := by unfold DR.op; rw [hb, hs]; rfl
  unfold RdAt at h
  rw [ho, hc] at h
  have c4 := HAt.cell h (i := 4) rfl
  have hfz := HAt.frozen h
  have hs1 : RdRaw (w.setCell ⟨db, 4, none⟩ (.int .i64 1)) db gp D.at_ D.to_ D.once 1 D.out false := HAt.set h 4 (.int .i64 1)
  have hf0 : Frm [db] w (w.setCell ⟨db, 4, none⟩ (.int .i64 1)) := (Frm.refl _ _).set ⟨db, 4, none⟩ _ (.inl (by simp))
  have H := Lib.hid hs1
  have HF0 := Lib.hid hf0
  have HO := Lib.hid hO
  have HRR := Lib.hid hR
  have HS := Lib.hid hS
  have HB := Lib.hid hb
  have HC := Lib.hid hc
  clear hO hR h hS hs hs1 hf0 hb hc ho
  go_enter Try.func50, Try.ntmps50
  go_upto_region 8 with fail
  generalize w.setCell ⟨db, 4, none⟩ (.int .i64 1) = w0 at *
  have hkk : ∀ wx, Frm S w0 wx → wx.cell? ⟨db, 0, none⟩ = some (.pointer gp) ∧ wx.cell? ⟨db, 1, none⟩ = some (.int .i64 D.at_) ∧ wx.cell? ⟨db, 5, none⟩ = some (.int .i64 D.out) := fun wx hf => ⟨HAt.cell (H.out.frm hf HS.out) (i := 0) rfl, HAt.cell (H.out.frm hf HS.out) (i := 1) rfl, HAt.cell (H.out.frm hf HS.out) (i := 5) rfl⟩
  have KK := Lib.hid hkk
  clear c4 hfz hkk
  go_cut [44] (fun s44 wx => s44 = .bool (v != D.out) ∧ R wx ∧ Frm S w0 wx)
  case first =>
    go_region_held3 (fun wx => wx.cell? ⟨db, 0, none⟩ = some (.pointer gp) ∧ wx.cell? ⟨db, 1, none⟩ = some (.int .i64 D.at_) ∧ wx.cell? ⟨db, 5, none⟩ = some (.int .i64 D.out)) (exact KK.out _ (by repeat (first | exact HF1.out | exact Frm.refl _ _ | apply Frm.drew1 | apply Frm.drew)))
      (first | (go_at_call 18; refine (HO.out _ (by repeat (first | exact HF0.out | apply Frm.drew1 | apply Frm.drew))).mono ?_; rintro e w1 ⟨rfl, hRw, hF⟩; have HF1 := Lib.hid (Frm.trans (S := S) (a := w0) (by repeat (first | exact Frm.refl _ _ | apply Frm.drew1 | apply Frm.drew)) hF); have HR1 := Lib.hid hRw; clear hRw hF))
    all_goals
      go_wp2_with fail
      go_meet
      exact ⟨rfl, HRR.out _ _ (by repeat (first | exact Frm.refl _ _ | apply Frm.drew1 | apply Frm.drew)) HR1.out, (by repeat (first | exact HF1.out | apply Frm.drew1 | apply Frm.drew))⟩
  case rest =>
    obtain ⟨rfl, hRw, hF⟩ := hcut
    have hD := H.out.frm hF HS.out
    have HD := Lib.hid hD
    have HR1 := Lib.hid hRw
    have HF1 := Lib.hid ((HF0.out.mono (S' := db :: S) (by simp)).trans (hF.mono (by simp; intro x hx; exact .inr hx)))
    have c3 := HAt.cell hD (i := 3) rfl
    have c4 := HAt.cell hD (i := 4) rfl
    have c1 := HAt.cell hD (i := 1) rfl
    have hfz := HAt.frozen hD
    clear hRw hF hD H HO HF0 KK
    by_cases hv : v = D.out
    · have d1 : (v != D.out) = false := by simpa using hv
      have e1 : D.last v = if wrap64 (D.at_ + 1) = D.to_ then DR.over { D with second := false, at_ := wrap64 (D.at_ + 1) } true else { D with second := false, at_ := wrap64 (D.at_ + 1) } := by unfold DR.last; rw [if_pos hv]
      have e2 : D.lastR v = decide (wrap64 (D.at_ + 1) = D.to_) := by unfold DR.lastR; rw [if_pos hv]
      have E1 := Lib.hid e1
      have E2 := Lib.hid e2
      clear e1 e2 hv c3
      go_upto_region 13 with fail
      have hD2 : RdRaw (wc.setCell ⟨db, 1, none⟩ (.int .i64 (wrap64 (D.at_ + 1)))) db gp (wrap64 (D.at_ + 1)) D.to_ D.once 1 D.out false := HAt.set HD.out 1 (.int .i64 (wrap64 (D.at_ + 1)))
      have hf2 : Frm [db] wc (wc.setCell ⟨db, 1, none⟩ (.int .i64 (wrap64 (D.at_ + 1)))) := (Frm.refl _ _).set ⟨db, 1, none⟩ _ (.inl (by simp))
      have HR2 := Lib.hid (HRR.out _ _ hf2 HR1.out)
      have HF2 := Lib.hid (HF1.out.trans (hf2.mono (S' := db :: S) (by simp)))
      generalize wc.setCell ⟨db, 1, none⟩ (.int .i64 (wrap64 (D.at_ + 1))) = w5 at *
      have HD2 := Lib.hid hD2
      have k1 := HAt.cell hD2 (i := 1) rfl
      have k2 := HAt.cell hD2 (i := 2) rfl
      clear hD2 hf2 c1 c4 hfz HD HR1 HF1
      generalize wrap64 (D.at_ + 1) = a1 at *
      have hf9 : ∀ n, Frm [db] w5 (w5.drewN n) := fun n => (Frm.refl _ _).drew n
      have HF9 := Lib.hid hf9
      clear hf9
      go_quiet (fail)
      have HD3 := Lib.hid (HD2.out.frm (S := []) ((Frm.refl _ _).drew nq) (by simp))
      have HR3 := Lib.hid (HRR.out _ _ (HF9.out nq) HR2.out)
      have HF3 := Lib.hid (HF2.out.trans ((HF9.out nq).mono (S' := db :: S) (by simp)))
      generalize w5.drewN nq = w6 at *
      clear HD2 HR2 HF2 HF9 k1 k2
      cases ht : decide (a1 = D.to_) with
      | true =>
        have d2 : (a1 != D.to_) = false := by simpa using ht
        have HT := Lib.hid (of_decide_eq_true ht)
        clear ht
        have c4 := HAt.cell HD3.out (i := 4) rfl
        have c6 := HAt.cell HD3.out (i := 6) rfl
        have hfz := HAt.frozen HD3.out
        have hs2 : RdRaw _ db gp a1 D.to_ D.once 0 D.out true := (HAt.set HD3.out 4 (.int .i64 0)).set 6 (.bool true)
        have hf3 := ((Frm.refl [db] w6).set ⟨db, 4, none⟩ (.int .i64 0) (.inl (by simp))).set ⟨db, 6, none⟩ (.bool true) (.inl (by simp))
        have HS2 := Lib.hid hs2
        have HR4 := Lib.hid (HRR.out _ _ hf3 HR3.out)
        have HF4 := Lib.hid (HF3.out.trans (hf3.mono (S' := db :: S) (by simp)))
        clear hs2 hf3
        go_wp2
        go_ret
        exact ⟨by rw [E2.out, HT.out]; simp, by rw [E1.out, if_pos HT.out]; exact HS2.out, HR4.out, HF4.out⟩
      | false =>
        have d2 : (a1 != D.to_) = true := by simpa using ht
        have HT := Lib.hid (of_decide_eq_false ht)
        clear ht
        go_wp2
        go_ret
        refine ⟨by rw [E2.out, decide_eq_false HT.out]; rfl, ?_, HR3.out, HF3.out⟩
        rw [E1.out, if_neg HT.out]
        unfold RdAt DR.op
        rw [HB.out, HC.out]
        exact HD3.out
    · have d1 : (v != D.out) = true := by simpa using hv
      cases ho : D.once with
      | true =>
        have e1 : D.last v = DR.over { D with second := false } false := by unfold DR.last; rw [if_neg hv, ho]; rfl
        have e2 : D.lastR v = true := by unfold DR.lastR; rw [if_neg hv, ho]
        have E1 := Lib.hid e1
        have E2 := Lib.hid e2
        rw [ho] at c3
        have hs2 : RdRaw _ db gp D.at_ D.to_ D.once 0 D.out false := HAt.set HD.out 4 (.int .i64 0)
        have hf3 := (Frm.refl [db] wc).set ⟨db, 4, none⟩ (.int .i64 0) (.inl (by simp))
        have HS2 := Lib.hid hs2
        have HR4 := Lib.hid (HRR.out _ _ hf3 HR1.out)
        have HF4 := Lib.hid (HF1.out.trans (hf3.mono (S' := db :: S) (by simp)))
        clear hs2 hf3 e1 e2 hv ho
        go_wp2
        go_ret
        exact ⟨by rw [E2.out]; rfl, by rw [E1.out]; exact HS2.out, HR4.out, HF4.out⟩
      | false =>
        have e1 : D.last v = { D with second := false } := by unfold DR.last; rw [if_neg hv, ho]; rfl
        have e2 : D.lastR v = false := by unfold DR.lastR; rw [if_neg hv, ho]
        have E1 := Lib.hid e1
        have E2 := Lib.hid e2
        rw [ho] at c3
        clear e1 e2 hv ho
        go_wp2
        go_ret
        refine ⟨by rw [E2.out]; rfl, ?_, HR1.out, HF1.out⟩
        rw [E1.out]
        unfold RdAt DR.op
        rw [HB.out, HC.out]
        exact HD.out
end

theorem rdStep_any {w : World} {db yb rb first nodes : Nat} {v : Value} {D : DR} {A : AR} (h : RdAt w db (some ⟨yb, 0, none⟩) D) (hc : D.busy = true → D.clear = false) (hG : RgAt w yb rb first nodes) (hA : RfAt w rb v A) (h1 : db ≠ yb) (h2 : db ∉ rb :: vb v) (h3 : yb ∉ rb :: vb v) :
    Calls Try.prog 50 #[.pointer (some ⟨db, 0, none⟩)] w fun e w' => e = .returned (.bool (D.stepR (A.gGet first nodes D.at_ 0))) ∧
      RdAt w' db (some ⟨yb, 0, none⟩) (D.step (A.gGet first nodes D.at_ 1) (A.gGet first nodes D.at_ 0)) ∧ RfAt w' rb v (A.dStep first nodes D) ∧ RgAt w' yb rb first nodes ∧ Frm (db :: rb :: vb v) w w' := by
  have n1 : rb ∉ [db] := by
    intro hm
    have e : rb = db := by simpa using hm
    exact h2 (by simp [e])
  have n2 : ∀ k, v.ownBlock = some k → k ∉ [db] := by
    intro k hk hm
    have e : k = db := by simpa using hm
    subst e
    exact h2 (by simp [vb, hk])
  have hrf : ∀ (w1 w2 : World) (B : AR), Frm [db] w1 w2 → RfAt w1 rb v B → RfAt w2 rb v B := fun w1 w2 B hf hB => hB.frm' hf n1 n2
  cases hb : D.busy with
  | false =>
    refine (rdStep_idle h hb).mono fun e w' ⟨g1, g2⟩ => ?_
    subst g1 g2
    refine ⟨by unfold DR.stepR; rw [hb]; rfl, by unfold DR.step; rw [hb]; exact h, by unfold AR.dStep; rw [hb]; exact hA, hG, Frm.refl _ _⟩
  | true =>
    cases hs : D.second with
    | false =>
      have ht : Tells 24 (some ⟨yb, 0, none⟩) D.at_ (A.gGet first nodes D.at_ 1) db (rb :: vb v) (fun w' => RfAt w' rb v (A.gLoad first nodes D.at_ 1)) w := fun wx hf => rgOut_any (hG.frm hf (by simp; omega)) (hrf _ _ _ hf hA) D.at_
      refine (rdStep_first h hb hs ht h2 (fun w1 w2 hf hA => hrf _ _ _ hf hA)).mono fun e w' ⟨g1, g2, g3, g4⟩ => ?_
      subst g1
      refine ⟨by unfold DR.stepR; rw [hs]; simp, by unfold DR.step; rw [hb, hs]; exact g2, by unfold AR.dStep; rw [hb, hs]; exact g3, hG.frm g4 (by intro hm; rcases List.mem_cons.1 hm with e | e; exact h1 e.symm; exact h3 e), g4⟩
    | true =>
      have ht : Tells 18 (some ⟨yb, 0, none⟩) D.at_ (A.gGet first nodes D.at_ 0) db (rb :: vb v) (fun w' => RfAt w' rb v (A.gLoad first nodes D.at_ 0)) w := fun wx hf => rgIn_any (hG.frm hf (by simp; omega)) (hrf _ _ _ hf hA) D.at_
      refine (rdStep_last h hb hs (hc hb) ht h2 (fun w1 w2 hf hA => hrf _ _ _ hf hA)).mono fun e w' ⟨g1, g2, g3, g4⟩ => ?_
      subst g1
      refine ⟨by unfold DR.stepR; rw [hb, hs]; rfl, by unfold DR.step; rw [hb, hs]; exact g2, by unfold AR.dStep; rw [hb, hs]; exact g3, hG.frm g4 (by intro hm; rcases List.mem_cons.1 hm with e | e; exact h1 e.symm; exact h3 e), g4⟩

end Go.Proofs.Ytakhhbemnodahaa
