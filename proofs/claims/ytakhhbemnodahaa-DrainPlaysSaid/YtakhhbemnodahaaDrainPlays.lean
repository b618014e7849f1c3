/- The walk of the law DrainPlays: it returns true, and writes nothing that was there. -/
import Derived.Test.YtakhhbemnodahaaDrainAwake
import Derived.Test.YtakhhbemnodahaaDrainRef
import Derived.Test.YtakhhbemnodahaaActs4
namespace Go.Proofs.Ytakhhbemnodahaa
open Go.RowKit

/-- the blocks of the law's objects, as they were made: arena, its words, the reference's arena, gauge, its gauge, drain, its drain -/
structure DPO (w0 : World) (wb ab rb gb yb db eb : Nat) (v : Value) : Prop where
  o0 : w0.heap.size ≤ wb
  o1 : wb < ab
  o2 : ab < rb
  o3 : rb < gb
  o4 : gb < yb
  o5 : ∀ k, v.ownBlock = some k → k ≠ yb ∧ gb < k ∧ k < db
  o6 : yb < db
  o7 : db < eb
/-- the law's invariant: both drains, over both gauges, stand over the same words, alike -/
structure DPI (w0 w : World) (wb ab rb gb yb db eb first nodes : Nat) (v : Value) (A : AR) (D : DR) : Prop where
  ar : ArAt w ab wb A
  rf : RfAt w rb v A
  gg : GgAt w gb ab first nodes
  rg : RgAt w yb rb first nodes
  dr : DrAt w db (some ⟨gb, 0, none⟩) D
  rd : RdAt w eb (some ⟨yb, 0, none⟩) D
  cl : D.busy = true → D.clear = false
  frm : Frm [] w0 w

theorem not_vb3 {x rb : Nat} {v : Value} (h1 : x ≠ rb) (h2 : ∀ k, v.ownBlock = some k → x ≠ k) : x ∉ rb :: vb v := by
  intro hm
  rcases List.mem_cons.1 hm with h | h
  · exact h1 h
  · exact h2 x (by simpa [vb] using h) rfl

theorem DR.step_cl {D : DR} (h : D.busy = true → D.clear = false) (vo vi : Int) : (D.step vo vi).busy = true → (D.step vo vi).clear = false := by
  unfold DR.step DR.last DR.first DR.over
  cases hb : D.busy with
  | false => intro h2; simp [hb] at h2
  | true =>
    have := h hb
    split
    · split
      · split
        · split <;> simp [this]
        · split <;> simp [this]
      · simp [this]
    · intro _; assumption
theorem DR.begins_cl (D : DR) (a b : Int) (o : Bool) : (D.begins a b o).busy = true → (D.begins a b o).clear = false := by
  unfold DR.begins DR.over
  split
  · intro h; cases h
  · intro _; rfl
theorem DR.op_busy (D : DR) : (D.op != 0) = D.busy := by
  unfold DR.op
  cases D.busy <;> cases D.second <;> rfl

section
variable {w0 w w1 w2 : World} {wb ab rb gb yb db eb first nodes : Nat} {v : Value} {A B : AR} {D E : DR}
theorem DPO.eb_not (o : DPO w0 wb ab rb gb yb db eb v) : eb ∉ rb :: vb v := by
  have := o.o3; have := o.o4; have := o.o6; have := o.o7; have h5 := o.o5
  exact not_vb3 (by omega) (fun k hk => by have := h5 k hk; omega)
theorem DPO.yb_not (o : DPO w0 wb ab rb gb yb db eb v) : yb ∉ rb :: vb v := by
  have := o.o3; have := o.o4; have h5 := o.o5
  exact not_vb3 (by omega) (fun k hk => by have := h5 k hk; omega)
/-- what the first side's call leaves of the second side -/
theorem DPI.mid (o : DPO w0 wb ab rb gb yb db eb v) (h : DPI w0 w wb ab rb gb yb db eb first nodes v A D) (hf : Frm [db, ab, wb] w w1) :
    RfAt w1 rb v A ∧ RgAt w1 yb rb first nodes ∧ RdAt w1 eb (some ⟨yb, 0, none⟩) D ∧ Frm [] w0 w1 := by
  have := o.o0; have := o.o1; have := o.o2; have := o.o3; have := o.o4; have := o.o6; have := o.o7; have h5 := o.o5
  exact ⟨h.rf.frm' hf (by simp; omega) (fun k hk => by have := h5 k hk; simp; omega), h.rg.frm hf (by simp; omega), h.rd.frm hf (by simp; omega), h.frm.widen hf (by simp; omega)⟩
theorem DPI.next (o : DPO w0 wb ab rb gb yb db eb v) (hA : ArAt w1 ab wb B) (hG : GgAt w1 gb ab first nodes) (hD : DrAt w1 db (some ⟨gb, 0, none⟩) E) (hY : RgAt w1 yb rb first nodes) (h0 : Frm [] w0 w1)
    (hR : RfAt w2 rb v B) (hE : RdAt w2 eb (some ⟨yb, 0, none⟩) E) (hc : E.busy = true → E.clear = false) (hf : Frm (eb :: rb :: vb v) w1 w2) : DPI w0 w2 wb ab rb gb yb db eb first nodes v B E := by
  have := o.o0; have := o.o1; have := o.o2; have := o.o3; have := o.o4; have := o.o6; have := o.o7; have h5 := o.o5
  have hn : ∀ x, x ≠ eb → x ≠ rb → (∀ k, v.ownBlock = some k → x ≠ k) → x ∉ eb :: rb :: vb v := fun x h1 h2 h3 hm => by
    rcases List.mem_cons.1 hm with h | h
    · exact h1 h
    · exact not_vb3 h2 h3 h
  have hm : ∀ x, x ∈ eb :: rb :: vb v → w0.heap.size ≤ x := fun x hx => by
    rcases List.mem_cons.1 hx with h | h
    · omega
    · rcases List.mem_cons.1 h with h | h
      · omega
      · have := h5 x (by simpa [vb] using h); omega
  exact { ar := hA.frm hf (hn _ (by omega) (by omega) (fun k hk => by have := h5 k hk; omega)) (hn _ (by omega) (by omega) (fun k hk => by have := h5 k hk; omega)), rf := hR,
          gg := hG.frm hf (hn _ (by omega) (by omega) (fun k hk => by have := h5 k hk; omega)), rg := hY.frm hf (hn _ (by omega) (by omega) (fun k hk => by have := h5 k hk; omega)),
          dr := hD.frm hf (hn _ (by omega) (by omega) (fun k hk => by have := h5 k hk; omega)), rd := hE, cl := hc, frm := h0.widen hf (fun x hx => .inr (hm x hx)) }
theorem dpr (h : DPI w0 w wb ab rb gb yb db eb first nodes v A D) : DPI w0 w wb ab rb gb yb db eb first nodes v A D ∧ w.cell? ⟨rb, 1, none⟩ = some v ∧ w.cell? ⟨rb, 2, none⟩ = some (.int .i64 A.ops) ∧
    w.cell? ⟨eb, 4, none⟩ = some (.int .i64 D.op) ∧ w.cell? ⟨eb, 1, none⟩ = some (.int .i64 D.at_) ∧ w.cell? ⟨eb, 6, none⟩ = some (.bool D.clear) :=
  ⟨h, h.rf.box.cell (i := 1) rfl, h.rf.box.cell (i := 2) rfl, HAt.cell h.rd (i := 4) rfl, HAt.cell h.rd (i := 1) rfl, HAt.cell h.rd (i := 6) rfl⟩
theorem DPI.kept (h : DPI w0 w wb ab rb gb yb db eb first nodes v A D) (hf : Frm [] w w1) : DPI w0 w1 wb ab rb gb yb db eb first nodes v A D :=
  { h with ar := h.ar.frm hf (by simp) (by simp), rf := h.rf.frm hf (by simp), gg := h.gg.frm hf (by simp), rg := h.rg.frm hf (by simp), dr := h.dr.frm hf (by simp), rd := h.rd.frm hf (by simp), frm := h.frm.trans hf }
end

set_option maxRecDepth 100000 in
set_option maxHeartbeats 1000000 in
theorem drainPlays_long (n : Int) (v : Value) (acts : List DAct) (w : World) (h : DActsAt w v acts) (hl : 100 < acts.length) :
    Calls Try.prog 11 #[.int .i64 n, v] w fun e w' => e = .returned (.bool true) ∧ Below w.heap.size w w' := by
  obtain ⟨a, cap, rfl, -, -, -⟩ := h
  have d1 : decide ((100 : Int) < acts.length) = true := by simp; omega
  go_enter Try.func11, Try.ntmps11
  go_wp2_with fail
  refine (dawake _).mono ?_
  rintro e w1 ⟨rfl, hF⟩
  have HF := Lib.hid hF
  clear hF
  go_wp2
  go_ret
  exact ⟨rfl, HF.out.below (Nat.le_refl _) (by simp)⟩

set_option maxRecDepth 100000 in
set_option maxHeartbeats 8000000 in
theorem drainPlays_short (n : Int) (v : Value) (acts : List DAct) (w : World) (h : DActsAt w v acts) (hl : acts.length ≤ 100) :
    Calls Try.prog 11 #[.int .i64 n, v] w fun e w' => e = .returned (.bool true) ∧ Below w.heap.size w w' := by
  obtain ⟨a, cap, rfl, -, hc, hwf⟩ := h
  have d1 : decide ((100 : Int) < acts.length) = false := by simp; omega
  have HC := Lib.hid hc
  have HWF := Lib.hid hwf
  clear hc hwf
  go_enter Try.func11, Try.ntmps11
  go_wp2_with fail
  refine (New_any 64 _).mono ?_
  rintro e w1 ⟨rfl, hA, hF⟩
  have hab := hA.box.lt
  have HA : Hid (ArAt w1 (w.heap.size + 1) w.heap.size (AR.fresh 64)) := Lib.hid hA
  have HF := Lib.hid hF
  clear hA hF
  go_wp2_with fail
  refine (rNew_any 64 _).mono ?_
  rintro e w2 ⟨rfl, hR, hF⟩
  have hrl := hR.box.lt
  have HR : Hid (RfAt w2 w1.heap.size (.slice none 0 0) (AR.fresh 64)) := Lib.hid hR
  have HA := Lib.hid (HA.out.frm hF (by simp) (by simp))
  have HF := Lib.hid (HF.out.trans hF)
  clear hR hF
  generalize hrb : w1.heap.size = rb at *
  by_cases hE : (AR.fresh 64).gNewE n = 0
  · have HE := Lib.hid hE
    clear hE
    go_wp2_with fail
    refine (gNew_ok HA.out n HE.out).mono ?_
    rintro e w3 ⟨gb, rfl, hgb, hG3, hA3, hF3⟩
    have HR3 := Lib.hid (HR.out.frm hF3 (by simp; omega))
    have HA3 := Lib.hid hA3
    have HG3 := Lib.hid hG3
    have hgl := hG3.box.lt
    have HF3 := Lib.hid ((HF.out.widen hF3 (by simp)))
    clear hA3 hF3 hG3
    go_wp2_with fail
    refine (rgNew_ok HR3.out n HE.out).mono ?_
    rintro e w4 ⟨yb, v', rfl, hyb, hY4, hR4, hF4, hv4⟩
    have hn : ∀ x, x < gb + 1 → x ≠ rb → x ∉ rb :: vb (.slice none 0 0) := fun x _ h2 => not_vb3 h2 (fun k hk => by simp [Value.ownBlock] at hk)
    have HA4 := Lib.hid (HA3.out.frm hF4 (hn _ (by omega) (by omega)) (hn _ (by omega) (by omega)))
    have HG4 := Lib.hid (HG3.out.frm hF4 (hn _ (by omega) (by omega)))
    have HF4 := Lib.hid (HF3.out.widen hF4 (fun x hx => by
      rcases List.mem_cons.1 hx with h | h
      · right; omega
      · simp [vb, Value.ownBlock] at h))
    have HY4 := Lib.hid hY4
    have HR4 := Lib.hid hR4
    have hyl := hY4.box.lt
    have HV : Hid (∀ k, v'.ownBlock = some k → k ≠ yb ∧ gb < k ∧ k < w4.heap.size) := Lib.hid fun k hk => by
      obtain ⟨h1, h2⟩ := hv4 k hk
      refine ⟨h1, ?_, own_lt hR4.row k hk⟩
      rcases h2 with h2 | h2
      · simp [Value.ownBlock] at h2
      · omega
    clear hY4 hR4 hF4 hv4 hn HR3 HA3 HG3 HF3 HA HR HF
    generalize (AR.fresh 64).taken + 1 = first at *
    generalize (AR.fresh 64).take (2 * n) = A1 at *
    generalize n.toNat = nodes at *
    go_wp2_with fail
    refine (dNew_any (some ⟨gb, 0, none⟩) w4).mono ?_
    rintro e w5 ⟨rfl, hD5, hF5⟩
    have hdl := HAt.lt hD5
    have HA5 := Lib.hid (HA4.out.frm hF5 (by simp) (by simp))
    have HG5 := Lib.hid (HG4.out.frm hF5 (by simp))
    have HY5 := Lib.hid (HY4.out.frm hF5 (by simp))
    have HR5 := Lib.hid (HR4.out.frm hF5 (by simp))
    have HD5 := Lib.hid hD5
    have HF5 := Lib.hid (HF4.out.trans hF5)
    clear hD5 hF5 HA4 HG4 HY4 HR4 HF4
    go_wp2_with fail
    refine (rdNew_any (some ⟨yb, 0, none⟩) w5).mono ?_
    rintro e w6 ⟨rfl, hD6, hF6⟩
    have hI : DPI w w6 w.heap.size (w.heap.size + 1) rb gb yb w4.heap.size w5.heap.size first nodes v' A1 DR.zero :=
      { ar := HA5.out.frm hF6 (by simp) (by simp), gg := HG5.out.frm hF6 (by simp), rg := HY5.out.frm hF6 (by simp), rf := HR5.out.frm hF6 (by simp), dr := HD5.out.frm hF6 (by simp), rd := hD6, cl := fun h => by simp [DR.zero] at h, frm := HF5.out.trans hF6 }
    have hO : DPO w w.heap.size (w.heap.size + 1) rb gb yb w4.heap.size w5.heap.size v' :=
      { o0 := Nat.le_refl _, o1 := by omega, o2 := by omega, o3 := by omega, o4 := by omega, o5 := HV.out, o6 := by omega, o7 := by omega }
    have HI := Lib.hid hI
    have HO := Lib.hid hO
    clear hI hO hD6 hF6 HA5 HG5 HY5 HR5 HD5 HF5 HV HE
    generalize w4.heap.size = db at *
    generalize w5.heap.size = eb at *
    go_wp2_with fail
    go_loopw [13] (fun i wx => ∃ (k : Nat) (A : AR) (D : DR), i = .int .i64 k ∧ k ≤ acts.length ∧ DPI w wx w.heap.size (w.heap.size + 1) rb gb yb db eb first nodes v' A D)
      (fun i _ => acts.length - (intOf i).toNat)
    case atStart => exact ⟨0, A1, _, rfl, Nat.zero_le _, HI.out⟩
    case round =>
      obtain ⟨k, A, D, rfl, hk, hI⟩ := hrel
      by_cases hlt : k < acts.length
      · obtain ⟨b, off, rfl, hcell⟩ := HC.out (by omega)
        have ex : acts[k]? = some acts[k] := by simp
        have l1 : (k : Int) < acts.length := by omega
        have hcx : ∀ wx, Frm [] w wx → _ := fun wx hf => (show wx.cell? ⟨b, off + k * 4, none⟩ = some (.int .i64 acts[k].kind) ∧ wx.cell? ⟨b, off + k * 4 + 1, none⟩ = some (.int .i64 acts[k].i) ∧ wx.cell? ⟨b, off + k * 4 + 2, none⟩ = some (.int .i64 acts[k].to_) ∧ wx.cell? ⟨b, off + k * 4 + 3, none⟩ = some (.bool acts[k].once) from
          ⟨hf.cell (hcell k _ ex).1 (by simp), hf.cell (hcell k _ ex).2.1 (by simp), hf.cell (hcell k _ ex).2.2.1 (by simp), hf.cell (hcell k _ ex).2.2.2 (by simp)⟩)
        have HX := Lib.hid (HWF.out _ (List.getElem_mem hlt))
        have HCX := Lib.hid hcx
        have HI := Lib.hid hI
        clear hI hcell ex hcx
        generalize acts[k] = x at *
        obtain ⟨kind, j, to_, once⟩ := x
        obtain ⟨c0, c1, c2, c3⟩ := HCX.out _ HI.out.frm
        simp only at c0 c1 c2 c3
        go_upto_block 2 with fail
        go_cut [14, 15] (fun s14 s15 wx => ∃ (p : Bool) (A' : AR) (D' : DR), s14 = .bool p ∧ s15 = .bool p ∧ DPI w wx w.heap.size (w.heap.size + 1) rb gb yb db eb first nodes v' A' D')
        case first =>
          simp only at HX
          by_cases h0 : kind = 0
          · subst h0
            go_wp2_with fail
            refine (dStep_any HI.out.dr HI.out.gg HI.out.ar (by have := HO.out.o1; have := HO.out.o2; have := HO.out.o3; have := HO.out.o4; have := HO.out.o6; omega)).mono ?_
            rintro e x1 ⟨rfl, hD, hA, hG, hF⟩
            obtain ⟨hR, hY, hE, hF'⟩ := HI.out.mid HO.out hF
            have HA := Lib.hid hA
            have HG1 := Lib.hid (And.intro hG (And.intro hD hF'))
            have HR := Lib.hid hR
            have HE := Lib.hid hE
            clear hA hF hR hG hD hF' hE c0 c1 c2 c3
            have hst := rdStep_any HE.out HI.out.cl hY HR.out (by have := HO.out.o6; have := HO.out.o7; omega) HO.out.eb_not HO.out.yb_not
            have HST := Lib.hid hst
            clear hst
            generalize D.stepR (A.gGet first nodes D.at_ 0) = pr at *
            go_wp2_with fail
            refine HST.out.mono ?_
            rintro e x2 ⟨rfl, hE, hR, hY2, hF⟩
            have HI2 := Lib.hid (DPI.next HO.out HA.out HG1.out.1 HG1.out.2.1 hY HG1.out.2.2 hR hE (DR.step_cl HI.out.cl _ _) hF)
            clear hR hF hY hE hY2
            go_wp2_with fail
            go_meet
            exact ⟨pr, _, _, rfl, rfl, HI2.out⟩
          have d0 : (kind == 0) = false := by simpa using h0
          by_cases h1 : kind = 1
          · subst h1
            go_upto_region 20 with fail
            go_cut [14] (fun s14 wx => s14 = .bool (decide (to_ ≤ j)) ∧ DrAt wx db (some ⟨gb, 0, none⟩) (D.begins j to_ once) ∧ Frm [db] wr wx)
            case first =>
              go_region_with (go_at_call 43; refine (dBegin_any (HI.out.dr.frm (S := []) (by repeat (first | exact Frm.refl _ _ | apply Frm.drew1 | apply Frm.drew)) (by simp)) j to_ once).mono ?_; rintro e x1 ⟨rfl, hD1, hF1⟩; have HD1 := Lib.hid hD1; have HF1 := Lib.hid (Frm.trans (S := [db]) (a := wr) (by repeat (first | exact Frm.refl _ _ | apply Frm.drew1 | apply Frm.drew)) hF1); clear hD1 hF1)
              all_goals
                go_wp2_with fail
                go_meet
                exact ⟨rfl, HD1.out, HF1.out⟩
            case rest =>
              obtain ⟨rfl, hD, hF⟩ := hcut
              have hA := HI.out.ar.frm hF (by have := HO.out.o1; have := HO.out.o2; have := HO.out.o3; have := HO.out.o4; have := HO.out.o6; simp; omega) (by have := HO.out.o1; have := HO.out.o2; have := HO.out.o3; have := HO.out.o4; have := HO.out.o6; simp; omega)
              have hG := HI.out.gg.frm hF (by have := HO.out.o1; have := HO.out.o2; have := HO.out.o3; have := HO.out.o4; have := HO.out.o6; simp; omega)
              obtain ⟨hR, hY, hE, hF'⟩ := HI.out.mid HO.out (hF.mono (by simp))
              have HA := Lib.hid hA
              have HG1 := Lib.hid (And.intro hG (And.intro hD hF'))
              have HR := Lib.hid hR
              have HE := Lib.hid hE
              have HY := Lib.hid hY
              clear c0 c1 c2 c3
              obtain ⟨c0, c1, c2, c3⟩ := HCX.out _ hF'
              simp only at c0 c1 c2 c3
              clear hA hF hR hG hD hF' hE hY
              go_upto_region 21 with fail
              go_region_with (go_at_call 51; refine (rdBegin_any (HE.out.frm (S := []) (by repeat (first | exact Frm.refl _ _ | apply Frm.drew1 | apply Frm.drew)) (by simp)) j to_ once).mono ?_; rintro e x1 ⟨rfl, hD1, hF1⟩; have HD1 := Lib.hid hD1; have HF1 := Lib.hid (Frm.trans (S := [eb]) (a := wc) (by repeat (first | exact Frm.refl _ _ | apply Frm.drew1 | apply Frm.drew)) hF1); clear hD1 hF1)
              all_goals
                go_wp2_with fail
                go_meet
                have hR2 := HR.out.frm' HF1.out (by have := HO.out.o3; have := HO.out.o4; have := HO.out.o6; have := HO.out.o7; simp; omega) (fun k hk => by have := HO.out.o5 k hk; have := HO.out.o7; simp; omega)
                exact ⟨decide (to_ ≤ j), _, _, rfl, rfl, DPI.next HO.out HA.out HG1.out.1 HG1.out.2.1 HY.out HG1.out.2.2 hR2 HD1.out (DR.begins_cl _ _ _ _) (HF1.out.mono (by simp))⟩
          have d1 : (kind == 1) = false := by simpa using h1
          by_cases h2 : kind = 2
          · subst h2
            go_wp2_with fail
            refine (gEnter_any HI.out.gg HI.out.ar j).mono ?_
            rintro e x1 ⟨rfl, hA, hF⟩
            have hG1 := HI.out.gg.frm hF (by have := HO.out.o1; have := HO.out.o2; have := HO.out.o3; have := HO.out.o4; have := HO.out.o6; simp; omega)
            have hD1 := HI.out.dr.frm hF (by have := HO.out.o1; have := HO.out.o2; have := HO.out.o3; have := HO.out.o4; have := HO.out.o6; simp; omega)
            obtain ⟨hR, hY, hE, hF'⟩ := HI.out.mid HO.out (hF.mono (by simp))
            have HA := Lib.hid hA
            have HG1 := Lib.hid (And.intro hG1 (And.intro hD1 (And.intro hE hF')))
            have HR := Lib.hid hR
            obtain ⟨c0, c1, c2, c3⟩ := HCX.out _ hF'
            clear hA hF hR hG1 hD1 hE hF'
            go_wp2_with fail
            refine (rgEnter_any hY HR.out j).mono ?_
            rintro e x2 ⟨rfl, hR, hF⟩
            have HI2 := Lib.hid (DPI.next HO.out HA.out HG1.out.1 HG1.out.2.1 hY HG1.out.2.2.2 hR (HG1.out.2.2.1.frm hF HO.out.eb_not) HI.out.cl (hF.mono (fun x hx => List.mem_cons_of_mem _ hx)))
            clear hR hF hY c0 c1 c2 c3
            go_wp2_with fail
            go_meet
            exact ⟨false, _, _, rfl, rfl, HI2.out⟩
          have d2 : (kind == 2) = false := by simpa using h2
          by_cases h3 : kind = 3
          · subst h3
            go_wp2_with fail
            refine (gExit_any HI.out.gg HI.out.ar j).mono ?_
            rintro e x1 ⟨rfl, hA, hF⟩
            have hG1 := HI.out.gg.frm hF (by have := HO.out.o1; have := HO.out.o2; have := HO.out.o3; have := HO.out.o4; have := HO.out.o6; simp; omega)
            have hD1 := HI.out.dr.frm hF (by have := HO.out.o1; have := HO.out.o2; have := HO.out.o3; have := HO.out.o4; have := HO.out.o6; simp; omega)
            obtain ⟨hR, hY, hE, hF'⟩ := HI.out.mid HO.out (hF.mono (by simp))
            have HA := Lib.hid hA
            have HG1 := Lib.hid (And.intro hG1 (And.intro hD1 (And.intro hE hF')))
            have HR := Lib.hid hR
            obtain ⟨c0, c1, c2, c3⟩ := HCX.out _ hF'
            clear hA hF hR hG1 hD1 hE hF'
            go_wp2_with fail
            refine (rgExit_any hY HR.out j).mono ?_
            rintro e x2 ⟨rfl, hR, hF⟩
            have HI2 := Lib.hid (DPI.next HO.out HA.out HG1.out.1 HG1.out.2.1 hY HG1.out.2.2.2 hR (HG1.out.2.2.1.frm hF HO.out.eb_not) HI.out.cl (hF.mono (fun x hx => List.mem_cons_of_mem _ hx)))
            clear hR hF hY c0 c1 c2 c3
            go_wp2_with fail
            go_meet
            exact ⟨false, _, _, rfl, rfl, HI2.out⟩
          have d3 : (kind == 3) = false := by simpa using h3
          go_wp2_with fail
          go_meet
          exact ⟨false, _, _, rfl, rfl, HI.out⟩
        case rest =>
          obtain ⟨p, A', D', rfl, rfl, hI⟩ := hcut
          obtain ⟨-, q1, q2, q3, q4, q5⟩ := dpr hI
          have HI0 := Lib.hid hI
          have hbz := DR.op_busy D'
          have hp : (p != p) = false := by simp
          clear hI HI c0 c1 c2 c3
          go_upto_region 28 with fail
          go_cut [178] (fun b178 wx => b178 = .bool false ∧ DPI w wx w.heap.size (w.heap.size + 1) rb gb yb db eb first nodes v' A' D')
          case first =>
            go_region_held3 (fun wx => DPI w wx w.heap.size (w.heap.size + 1) rb gb yb db eb first nodes v' A' D' ∧ wx.cell? ⟨rb, 1, none⟩ = some v' ∧ wx.cell? ⟨rb, 2, none⟩ = some (.int .i64 A'.ops) ∧
                wx.cell? ⟨eb, 4, none⟩ = some (.int .i64 D'.op) ∧ wx.cell? ⟨eb, 1, none⟩ = some (.int .i64 D'.at_) ∧ wx.cell? ⟨eb, 6, none⟩ = some (.bool D'.clear)) (first | exact dpr (HI1.out.kept (by repeat (first | exact Frm.refl _ _ | apply Frm.drew1 | apply Frm.drew))) | exact dpr (HI0.out.kept (by repeat (first | exact Frm.refl _ _ | apply Frm.drew1 | apply Frm.drew)))) (first
              | (go_at_call 46; rw [← hbz]; refine (dBusy_any (HI0.out.dr.frm (S := []) (by repeat (first | exact Frm.refl _ _ | apply Frm.drew1 | apply Frm.drew)) (by simp))).mono ?_; rintro e x5 ⟨rfl, rfl⟩)
              | (go_at_call 46; refine (dBusy_any (HI0.out.dr.frm (S := []) (by repeat (first | exact Frm.refl _ _ | apply Frm.drew1 | apply Frm.drew)) (by simp))).mono ?_; rintro e x5 ⟨rfl, rfl⟩)
              | (go_at_call 47; refine (dAt_any (HI0.out.dr.frm (S := []) (by repeat (first | exact Frm.refl _ _ | apply Frm.drew1 | apply Frm.drew)) (by simp))).mono ?_; rintro e x6 ⟨rfl, rfl⟩)
              | (go_at_call 45; refine (dClear_any (HI0.out.dr.frm (S := []) (by repeat (first | exact Frm.refl _ _ | apply Frm.drew1 | apply Frm.drew)) (by simp))).mono ?_; rintro e x7 ⟨rfl, rfl⟩)
              | (go_at_call 27; refine (Ops_any (HI0.out.ar.frm (S := []) (by repeat (first | exact Frm.refl _ _ | apply Frm.drew1 | apply Frm.drew)) (by simp) (by simp))).mono ?_; rintro e x3 ⟨rfl, rfl⟩)
              | (go_at_call 26; refine (Words_any (HI0.out.ar.frm (S := []) (by repeat (first | exact Frm.refl _ _ | apply Frm.drew1 | apply Frm.drew)) (by simp) (by simp))).mono ?_; rintro e x1 ⟨vv, rfl, hO, hF⟩; have hI1 := HI0.out.kept (Frm.trans (by repeat (first | exact Frm.refl _ _ | apply Frm.drew1 | apply Frm.drew)) hF); have HO1 := Lib.hid (hO.base (Nat.zero_le _)); have HI1 := Lib.hid hI1; clear hO hF hI1)
              | (go_at_call 25; refine (Same_any _ (HO1.out.frm (S := []) (by repeat (first | exact Frm.refl _ _ | apply Frm.drew1 | apply Frm.drew)) (by simp)).row (HI1.out.rf.row.frm (S := []) (by repeat (first | exact Frm.refl _ _ | apply Frm.drew1 | apply Frm.drew)) (by simp)).row).mono ?_; rintro e x2 ⟨rfl, nn, rfl⟩))
            all_goals
              go_wp2_with fail
              go_meet
              exact ⟨rfl, HI1.out.kept (by repeat (first | exact Frm.refl _ _ | apply Frm.drew1 | apply Frm.drew))⟩
          case rest =>
            obtain ⟨rfl, hI⟩ := hcut
            have HI := Lib.hid hI
            clear hI q1 q2 q3 q4 q5 HI0
            go_wp2_with fail
            go_roundw
            case rel => exact ⟨k + 1, A', D', rfl, by omega, HI.out⟩
            case measure => simp [intOf]; omega
      · have l1 : ¬ (k : Int) < acts.length := by omega
        have HI0 := Lib.hid hI
        clear hI HI
        go_wp2_with fail
        refine (dawake _).mono ?_
        rintro e x2 ⟨rfl, hF⟩
        have HI9 := Lib.hid (HI0.out.frm.trans hF)
        clear hF
        go_wp2
        go_ret
        exact ⟨rfl, HI9.out.below (Nat.le_refl _) (by simp)⟩
  · have d3 : ((AR.fresh 64).gNewE n == 0) = false := by simpa using hE
    have d4 : ((AR.fresh 64).gNewE n != 0) = true := by simpa using hE
    have HE := Lib.hid hE
    clear hE
    go_wp2_with fail
    refine (gNew_bad HA.out n HE.out).mono ?_
    rintro e w3 ⟨rfl, hA3, hF3⟩
    have HR3 := Lib.hid (HR.out.frm hF3 (by simp; omega))
    have HF3 := Lib.hid ((HF.out.widen hF3 (by simp)))
    clear hA3 hF3
    go_wp2_with fail
    refine (rgNew_bad HR3.out n HE.out).mono ?_
    rintro e w4 ⟨rfl, hF4⟩
    have HF4 := Lib.hid ((HF3.out.widen hF4 (by simp [vb, Value.ownBlock]; omega)))
    clear hF4
    go_wp2_with fail
    refine (dawake _).mono ?_
    rintro e w5 ⟨rfl, hF5⟩
    have HF5 := Lib.hid (HF4.out.trans hF5)
    clear hF5
    go_wp2
    go_ret
    exact ⟨rfl, HF5.out.below (Nat.le_refl _) (by simp)⟩

/-- the whole walk -/
theorem drainPlays_walk (n : Int) (v : Value) (acts : List DAct) (w : World) (_h0 : I64 n) (h : DActsAt w v acts) :
    Calls Try.prog 11 #[.int .i64 n, v] w fun e w' => e = .returned (.bool true) ∧ Below w.heap.size w w' := by
  by_cases hl : acts.length ≤ 100
  · exact drainPlays_short n v acts w h hl
  · exact drainPlays_long n v acts w h (by omega)

end Go.Proofs.Ytakhhbemnodahaa
