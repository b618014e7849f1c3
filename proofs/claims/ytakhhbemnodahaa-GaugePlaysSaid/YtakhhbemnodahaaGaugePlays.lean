/- The walk of the law GaugePlays: it returns true, and writes nothing that was there. -/
import Derived.Test.YtakhhbemnodahaaGaugeAwake
import Derived.Test.YtakhhbemnodahaaRefGauge
import Derived.Test.YtakhhbemnodahaaActs
import Derived.Deep.RegionHeld3
import Derived.Deep.RegionWith
import Derived.Deep.DeepCutAuto
import Derived.Deep.CutBlock
namespace Go.Proofs.Ytakhhbemnodahaa
open Go.RowKit

/-- the blocks of the law's four objects, as they were made -/
structure GPO (w0 : World) (wb ab rb gb yb : Nat) (v : Value) : Prop where
  o0 : w0.heap.size ≤ wb
  o1 : wb < ab
  o2 : ab < rb
  o3 : rb < gb
  o4 : gb < yb
  o5 : ∀ k, v.ownBlock = some k → k ≠ yb ∧ gb < k
/-- the law's invariant: both gauges stand over the same words -/
structure GPI (w0 w : World) (wb ab rb gb yb first nodes : Nat) (v : Value) (A : AR) : Prop where
  ar : ArAt w ab wb A
  rf : RfAt w rb v A
  gg : GgAt w gb ab first nodes
  rg : RgAt w yb rb first nodes
  frm : Frm [] w0 w

theorem not_vb {x rb : Nat} {v : Value} (h1 : x ≠ rb) (h2 : ∀ k, v.ownBlock = some k → x ≠ k) : x ∉ rb :: vb v := by
  intro hm
  rcases List.mem_cons.1 hm with h | h
  · exact h1 h
  · exact h2 x (by simpa [vb] using h) rfl

section
variable {w0 w w1 w2 : World} {wb ab rb gb yb first nodes : Nat} {v : Value} {A B : AR}
theorem GPI.mid (o : GPO w0 wb ab rb gb yb v) (h : GPI w0 w wb ab rb gb yb first nodes v A) (hf : Frm [ab, wb] w w1) : RfAt w1 rb v A ∧ GgAt w1 gb ab first nodes ∧ RgAt w1 yb rb first nodes ∧ Frm [] w0 w1 := by
  have := o.o0; have := o.o1; have := o.o2; have := o.o3; have := o.o4
  exact ⟨h.rf.frm hf (by simp; omega), h.gg.frm hf (by simp; omega), h.rg.frm hf (by simp; omega), h.frm.widen hf (by simp; omega)⟩
theorem GPI.next (o : GPO w0 wb ab rb gb yb v) (hA : ArAt w1 ab wb B) (hm : GgAt w1 gb ab first nodes ∧ RgAt w1 yb rb first nodes ∧ Frm [] w0 w1) (hR : RfAt w2 rb v B) (hf : Frm (rb :: vb v) w1 w2) : GPI w0 w2 wb ab rb gb yb first nodes v B := by
  have := o.o0; have := o.o1; have := o.o2; have := o.o3; have := o.o4; have h5 := o.o5
  exact { ar := hA.frm hf (not_vb (by omega) (fun k hk => by have := h5 k hk; omega)) (not_vb (by omega) (fun k hk => by have := h5 k hk; omega)), rf := hR,
          gg := hm.1.frm hf (not_vb (by omega) (fun k hk => by have := h5 k hk; omega)), rg := hm.2.1.frm hf (not_vb (by omega) (fun k hk => by have := h5 k hk; omega)),
          frm := hm.2.2.widen hf (fun x hx => by
            rcases List.mem_cons.1 hx with h | h
            · right; omega
            · right; have := h5 x (by simpa [vb] using h); omega) }
theorem gps (h : GPI w0 w wb ab rb gb yb first nodes v A) : GPI w0 w wb ab rb gb yb first nodes v A ∧ w.cell? ⟨rb, 1, none⟩ = some v ∧ w.cell? ⟨rb, 2, none⟩ = some (.int .i64 A.ops) :=
  ⟨h, h.rf.box.cell (i := 1) rfl, h.rf.box.cell (i := 2) rfl⟩
theorem gpy (h : GPI w0 w wb ab rb gb yb first nodes v A) : GPI w0 w wb ab rb gb yb first nodes v A ∧ w.cell? ⟨yb, 2, none⟩ = some (.int .i64 nodes) :=
  ⟨h, h.rg.box.cell (i := 2) rfl⟩
theorem GPI.kept (h : GPI w0 w wb ab rb gb yb first nodes v A) (hf : Frm [] w w1) : GPI w0 w1 wb ab rb gb yb first nodes v A :=
  { ar := h.ar.frm hf (by simp) (by simp), rf := h.rf.frm hf (by simp), gg := h.gg.frm hf (by simp), rg := h.rg.frm hf (by simp), frm := h.frm.trans hf }
end

set_option maxHeartbeats 1000000 in
theorem gaugePlays_long (v : Value) (acts : List (Int × Int)) (n0 n1 : Int) (w : World) (h : ActsAt w v acts) (hl : 100 < acts.length) :
    Calls Try.prog 3 #[.agg #[.int .i64 n0, .int .i64 n1], v] w fun e w' => e = .returned (.bool true) ∧ Below w.heap.size w w' := by
  obtain ⟨a, cap, rfl, -, -, -⟩ := h
  have d1 : decide ((100 : Int) < acts.length) = true := by simp; omega
  go_enter Try.func3, Try.ntmps3
  go_wp2_with fail
  refine (gawake _).mono ?_
  rintro e w1 ⟨rfl, hF⟩
  have HF := Lib.hid (((Frm.refl [] w).alloc _).trans hF)
  clear hF
  go_wp2
  go_ret
  exact ⟨rfl, HF.out.below (Nat.le_refl _) (by simp)⟩

set_option maxRecDepth 100000 in
set_option maxHeartbeats 2000000 in
theorem gaugePlays_short (v : Value) (acts : List (Int × Int)) (n0 n1 : Int) (w : World) (h : ActsAt w v acts) (hl : acts.length ≤ 100) :
    Calls Try.prog 3 #[.agg #[.int .i64 n0, .int .i64 n1], v] w fun e w' => e = .returned (.bool true) ∧ Below w.heap.size w w' := by
  obtain ⟨a, cap, rfl, -, hc, hwf⟩ := h
  have d1 : decide ((100 : Int) < acts.length) = false := by simp; omega
  have HC := Lib.hid hc
  have HWF := Lib.hid hwf
  clear hc hwf
  go_enter Try.func3, Try.ntmps3
  go_upto_region 3 with fail
  generalize hW : World.alloc _ _ = W
  have hb : HAt W w.heap.size [.int .i64 n0, .int .i64 n1] 22 := by subst hW; exact HAt.new w _ _
  have hf : Frm [] w W := by subst hW; exact (Frm.refl _ _).alloc _
  have hsz : W.heap.size = w.heap.size + 1 := by subst hW; simp
  have c0 := hb.cell (i := 0) rfl
  have HB := Lib.hid hb
  have HF0 := Lib.hid hf
  have HSZ := Lib.hid hsz
  clear hW hb hf hsz
  go_cut [5, 6] (fun s5 s6 wx => ∃ rb, s5 = .pointer (some ⟨W.heap.size + 1, 0, none⟩) ∧ s6 = .pointer (some ⟨rb, 0, none⟩) ∧ W.heap.size + 2 ≤ rb ∧ ArAt wx (W.heap.size + 1) W.heap.size (AR.fresh (roomOf n0)) ∧ RfAt wx rb (.slice none 0 0) (AR.fresh (roomOf n0)) ∧ Frm [] W wx)
  case first =>
    go_region_with (first | (go_at_call 13; refine (New_any n0 _).mono ?_; rintro e w1 ⟨rfl, hA, hF⟩; have c1 := hF.cell (w := W.drew) (a := ⟨w.heap.size, 0, none⟩) c0 (by simp)) | (go_at_call 14; refine (rNew_any n0 _).mono ?_; rintro e w2 ⟨rfl, hR, hF'⟩))
    all_goals
      have g1 := hA.frm hF' (by simp) (by simp)
      have g2 := ((Frm.refl [] W).drew1.trans hF).trans hF'
      have g3 := hA.box.lt
      have G1 := Lib.hid g1
      have G2 := Lib.hid g2
      have G3 := Lib.hid hR
      clear g1 g2 hA hF hR hF'
      go_wp2_with fail
      go_meet
      exact ⟨_, rfl, rfl, g3, G1.out, G3.out, G2.out⟩
  case rest =>
    obtain ⟨rb, rfl, rfl, hrb, hA, hR, hF⟩ := hcut
    have hB := HB.out.frm hF (by simp)
    have c1 := hB.cell (i := 1) rfl
    have HA := Lib.hid hA
    have HR := Lib.hid hR
    have HF := Lib.hid hF
    have HB1 := Lib.hid hB
    clear hA hR hF hB c0
    by_cases hE : (AR.fresh (roomOf n0)).gNewE n1 = 0
    · have HE := Lib.hid hE
      have hrl := HR.out.box.lt
      clear hE
      go_wp2_with fail
      refine (gNew_ok HA.out n1 HE.out).mono ?_
      rintro e w3 ⟨gb, rfl, hgb, hG3, hA3, hF3⟩
      have hR3 := HR.out.frm hF3 (by simp; omega)
      have c3 := (HB1.out.frm hF3 (by simp [HSZ.out]; omega)).cell (i := 1) rfl
      have HR3 := Lib.hid hR3
      have HA3 := Lib.hid hA3
      have HG3 := Lib.hid hG3
      have hgl := hG3.box.lt
      have HF3 := Lib.hid ((HF.out.widen hF3 (by simp)))
      clear hA3 hF3 hR3 hG3 c1
      go_wp2_with fail
      refine (rgNew_ok HR3.out n1 HE.out).mono ?_
      rintro e w4 ⟨yb, v', rfl, hyb, hY4, hR4, hF4, hv4⟩
      have hO : GPO w W.heap.size (W.heap.size + 1) rb gb yb v' := by
        have := HSZ.out
        refine ⟨by omega, by omega, by omega, by omega, by omega, fun k hk => ?_⟩
        obtain ⟨h1, h2⟩ := hv4 k hk
        refine ⟨h1, ?_⟩
        rcases h2 with h2 | h2
        · simp [Value.ownBlock] at h2
        · omega
      have hI : GPI w w4 W.heap.size (W.heap.size + 1) rb gb yb ((AR.fresh (roomOf n0)).taken + 1) n1.toNat v' ((AR.fresh (roomOf n0)).take (2 * n1)) := by
        have hn : ∀ x, x < gb + 1 → x ≠ rb → x ∉ rb :: vb (.slice none 0 0) := fun x _ h2 => not_vb h2 (fun k hk => by simp [Value.ownBlock] at hk)
        refine { ar := HA3.out.frm hF4 (hn _ (by omega) (by omega)) (hn _ (by omega) (by omega)), rf := hR4, gg := HG3.out.frm hF4 (hn _ (by omega) (by omega)), rg := hY4, frm := ?_ }
        exact ((HF0.out.trans HF3.out).widen hF4 (fun x hx => by
          rcases List.mem_cons.1 hx with h | h
          · right; have := HSZ.out; omega
          · simp [vb, Value.ownBlock] at h))
      have HO := Lib.hid hO
      have HI := Lib.hid hI
      clear hO hI hY4 hR4 hF4 hv4 c3 HR HA HB HF HB1 HR3 HA3 HG3 HF3
      generalize (AR.fresh (roomOf n0)).taken + 1 = first at HI
      generalize (AR.fresh (roomOf n0)).take (2 * n1) = A1 at HI
      go_wp2_with fail
      go_loopw [11] (fun i wx => ∃ (k : Nat) (A : AR), i = .int .i64 k ∧ k ≤ acts.length ∧ GPI w wx W.heap.size (W.heap.size + 1) rb gb yb first n1.toNat v' A)
        (fun i _ => acts.length - (intOf i).toNat)
      case atStart => exact ⟨0, A1, rfl, Nat.zero_le _, HI.out⟩
      case round =>
        obtain ⟨k, A, rfl, hk, hI⟩ := hrel
        by_cases hlt : k < acts.length
        · obtain ⟨b, off, rfl, hb, hcell⟩ := HC.out (by omega)
          have ex : acts[k]? = some acts[k] := by simp
          have l1 : (k : Int) < acts.length := by omega
          have c0 := hI.frm.cell (hcell k _ ex).1 (by simp)
          have c1 := hI.frm.cell (hcell k _ ex).2 (by simp)
          have hx := HWF.out _ (List.getElem_mem hlt)
          have HX := Lib.hid hx
          have HI := Lib.hid hI
          clear hI hcell ex hx
          generalize acts[k] = x at *
          obtain ⟨kind, j⟩ := x
          simp only at c0 c1
          go_upto_block 2 with fail
          go_cut [12] (fun s12 wx => s12 = .int .i64 j ∧ ∃ A' : AR, GPI w wx W.heap.size (W.heap.size + 1) rb gb yb first n1.toNat v' A')
          case first =>
            by_cases h0 : kind = 0
            · subst h0
              go_wp2_with fail
              refine (gIn_any HI.out.gg HI.out.ar j).mono ?_
              rintro e x1 ⟨rfl, hA, hF⟩
              obtain ⟨hR, hG, hY, hF'⟩ := HI.out.mid HO.out hF
              have HA := Lib.hid hA
              have HG := Lib.hid (And.intro hG (And.intro hY hF'))
              have HR := Lib.hid hR
              clear hA hF hR hG hF' c0 c1
              go_wp2_with fail
              refine (rgIn_any hY HR.out j).mono ?_
              rintro e x2 ⟨rfl, hR, hF⟩
              have HI2 := Lib.hid (GPI.next HO.out HA.out HG.out hR hF)
              clear hR hF hY
              go_wp2_with fail
              go_meet
              exact ⟨rfl, _, HI2.out⟩
            have d0 : (kind == 0) = false := by simpa using h0
            by_cases h1 : kind = 1
            · subst h1
              go_wp2_with fail
              refine (gEnter_any HI.out.gg HI.out.ar j).mono ?_
              rintro e x1 ⟨rfl, hA, hF⟩
              obtain ⟨hR, hG, hY, hF'⟩ := HI.out.mid HO.out hF
              have HA := Lib.hid hA
              have HG := Lib.hid (And.intro hG (And.intro hY hF'))
              have HR := Lib.hid hR
              clear hA hF hR hG hF' c0 c1
              go_wp2_with fail
              refine (rgEnter_any hY HR.out j).mono ?_
              rintro e x2 ⟨rfl, hR, hF⟩
              have HI2 := Lib.hid (GPI.next HO.out HA.out HG.out hR hF)
              clear hR hF hY
              go_wp2_with fail
              go_meet
              exact ⟨rfl, _, HI2.out⟩
            have d1 : (kind == 1) = false := by simpa using h1
            by_cases h2 : kind = 2
            · subst h2
              go_wp2_with fail
              refine (gExit_any HI.out.gg HI.out.ar j).mono ?_
              rintro e x1 ⟨rfl, hA, hF⟩
              obtain ⟨hR, hG, hY, hF'⟩ := HI.out.mid HO.out hF
              have HA := Lib.hid hA
              have HG := Lib.hid (And.intro hG (And.intro hY hF'))
              have HR := Lib.hid hR
              clear hA hF hR hG hF' c0 c1
              go_wp2_with fail
              refine (rgExit_any hY HR.out j).mono ?_
              rintro e x2 ⟨rfl, hR, hF⟩
              have HI2 := Lib.hid (GPI.next HO.out HA.out HG.out hR hF)
              clear hR hF hY
              go_wp2_with fail
              go_meet
              exact ⟨rfl, _, HI2.out⟩
            have d2 : (kind == 2) = false := by simpa using h2
            by_cases h3 : kind = 3
            · subst h3
              go_wp2_with fail
              refine (gOut_any HI.out.gg HI.out.ar j).mono ?_
              rintro e x1 ⟨rfl, hA, hF⟩
              obtain ⟨hR, hG, hY, hF'⟩ := HI.out.mid HO.out hF
              have HA := Lib.hid hA
              have HG := Lib.hid (And.intro hG (And.intro hY hF'))
              have HR := Lib.hid hR
              clear hA hF hR hG hF' c0 c1
              go_wp2_with fail
              refine (rgOut_any hY HR.out j).mono ?_
              rintro e x2 ⟨rfl, hR, hF⟩
              have HI2 := Lib.hid (GPI.next HO.out HA.out HG.out hR hF)
              clear hR hF hY
              go_wp2_with fail
              go_meet
              exact ⟨rfl, _, HI2.out⟩
            have d3 : (kind == 3) = false := by simpa using h3
            go_wp2_with fail
            go_meet
            exact ⟨rfl, _, HI.out⟩
          case rest =>
            obtain ⟨rfl, A', hI⟩ := hcut
            have hl := hI.rf.box.lt
            have q1 := hI.rf.box.cell (i := 1) rfl
            have q2 := hI.rf.box.cell (i := 2) rfl
            have HI0 := Lib.hid hI
            clear hI HI c0 c1
            go_upto_region 27 with fail
            go_cut [125] (fun b125 wx => b125 = .bool false ∧ GPI w wx W.heap.size (W.heap.size + 1) rb gb yb first n1.toNat v' A')
            case first =>
              go_region_held3 (fun wx => GPI w wx W.heap.size (W.heap.size + 1) rb gb yb first n1.toNat v' A' ∧ wx.cell? ⟨rb, 1, none⟩ = some v' ∧ wx.cell? ⟨rb, 2, none⟩ = some (.int .i64 A'.ops)) (first | exact gps (HI1.out.kept (by repeat (first | exact Frm.refl _ _ | apply Frm.drew1 | apply Frm.drew))) | exact gps (HI0.out.kept (by repeat (first | exact Frm.refl _ _ | apply Frm.drew1 | apply Frm.drew)))) (first
                | (go_at_call 26; refine (Words_any (HI0.out.ar.frm (S := []) (by repeat (first | exact Frm.refl _ _ | apply Frm.drew1 | apply Frm.drew)) (by simp) (by simp))).mono ?_; rintro e x1 ⟨vv, rfl, hO, hF⟩; have hI1 := HI0.out.kept (Frm.trans (by repeat (first | exact Frm.refl _ _ | apply Frm.drew1 | apply Frm.drew)) hF); have HO1 := Lib.hid (hO.base (Nat.zero_le _)); have HI1 := Lib.hid hI1; clear hO hF hI1)
                | (go_at_call 25; refine (Same_any _ (HO1.out.frm (S := []) (by repeat (first | exact Frm.refl _ _ | apply Frm.drew1 | apply Frm.drew)) (by simp)).row (HI1.out.rf.row.frm (S := []) (by repeat (first | exact Frm.refl _ _ | apply Frm.drew1 | apply Frm.drew)) (by simp)).row).mono ?_; rintro e x2 ⟨rfl, nn, rfl⟩)
                | (go_at_call 27; refine (Ops_any (HI1.out.ar.frm (S := []) (by repeat (first | exact Frm.refl _ _ | apply Frm.drew1 | apply Frm.drew)) (by simp) (by simp))).mono ?_; rintro e x3 ⟨rfl, rfl⟩)
                | (go_at_call 28; refine (gWord_any (HI1.out.gg.frm (S := []) (by repeat (first | exact Frm.refl _ _ | apply Frm.drew1 | apply Frm.drew)) (by simp)) j).mono ?_; rintro e x4 ⟨rfl, rfl⟩)
                | (go_at_call 29; refine (rgWord_any (HI1.out.rg.frm (S := []) (by repeat (first | exact Frm.refl _ _ | apply Frm.drew1 | apply Frm.drew)) (by simp)) j).mono ?_; rintro e x5 ⟨rfl, rfl⟩))
              all_goals
                go_wp2_with fail
                go_meet
                exact ⟨rfl, HI1.out.kept (by repeat (first | exact Frm.refl _ _ | apply Frm.drew1 | apply Frm.drew))⟩
            case rest =>
              obtain ⟨rfl, hI⟩ := hcut
              have HI := Lib.hid hI
              clear hI q1 q2 HI0
              go_wp2_with fail
              go_roundw
              case rel => exact ⟨k + 1, A', rfl, by omega, HI.out⟩
              case measure => simp [intOf]; omega
        · have l1 : ¬ (k : Int) < acts.length := by omega
          have hke : k = acts.length := by omega
          have q2 := hI.rg.box.cell (i := 2) rfl
          have HI0 := Lib.hid hI
          clear hI HI
          go_upto_region 29 with fail
          go_region_held3 (fun wx => GPI w wx W.heap.size (W.heap.size + 1) rb gb yb first n1.toNat v' A ∧ wx.cell? ⟨yb, 2, none⟩ = some (.int .i64 n1.toNat)) (first | exact gpy (HI9.out.kept (by repeat (first | exact Frm.refl _ _ | apply Frm.drew1 | apply Frm.drew))) | exact gpy (HI0.out.kept (by repeat (first | exact Frm.refl _ _ | apply Frm.drew1 | apply Frm.drew)))) (first
            | (go_at_call 30; refine (gNodes_any (HI0.out.gg.frm (S := []) (by repeat (first | exact Frm.refl _ _ | apply Frm.drew1 | apply Frm.drew)) (by simp))).mono ?_; rintro e x1 ⟨rfl, rfl⟩)
            | (go_at_call 12; refine (gawake _).mono ?_; rintro e x2 ⟨rfl, hF⟩; have HI9 := Lib.hid (HI0.out.kept (Frm.trans (S := []) (a := wr) (by repeat (first | exact Frm.refl _ _ | apply Frm.drew1 | apply Frm.drew)) hF)); clear hF))
          all_goals
            go_wp2
            go_ret
            exact ⟨rfl, HI9.out.frm.below (Nat.le_refl _) (by simp)⟩
    · have d3 : ((AR.fresh (roomOf n0)).gNewE n1 == 0) = false := by simpa using hE
      have d4 : ((AR.fresh (roomOf n0)).gNewE n1 != 0) = true := by simpa using hE
      have HE := Lib.hid hE
      clear hE
      go_wp2_with fail
      refine (gNew_bad HA.out n1 HE.out).mono ?_
      rintro e w3 ⟨rfl, hA3, hF3⟩
      have hR3 := HR.out.frm hF3 (by simp; omega)
      have c3 := (HB1.out.frm hF3 (by simp [HSZ.out]; omega)).cell (i := 1) rfl
      have HR3 := Lib.hid hR3
      have HF3 := Lib.hid ((HF.out.widen hF3 (by simp)))
      clear hA3 hF3 hR3 c1
      go_wp2_with fail
      refine (rgNew_bad HR3.out n1 HE.out).mono ?_
      rintro e w4 ⟨rfl, hF4⟩
      have HF4 := Lib.hid ((HF3.out.widen hF4 (by simp [vb, Value.ownBlock]; omega)))
      clear hF4 c3
      go_wp2_with fail
      refine (gawake _).mono ?_
      rintro e w5 ⟨rfl, hF5⟩
      have HF5 := Lib.hid ((HF0.out.trans HF4.out).trans hF5)
      clear hF5
      go_wp2
      go_ret
      exact ⟨rfl, HF5.out.below (Nat.le_refl _) (by simp)⟩

/-- the whole walk -/
theorem gaugePlays_walk (n0 n1 : Int) (v : Value) (acts : List (Int × Int)) (w : World) (_h0 : I64 n0) (_h1 : I64 n1) (h : ActsAt w v acts) :
    Calls Try.prog 3 #[.agg #[.int .i64 n0, .int .i64 n1], v] w fun e w' => e = .returned (.bool true) ∧ Below w.heap.size w w' := by
  by_cases hl : acts.length ≤ 100
  · exact gaugePlays_short v acts n0 n1 w h hl
  · exact gaugePlays_long v acts n0 n1 w h (by omega)

end Go.Proofs.Ytakhhbemnodahaa
