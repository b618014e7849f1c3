/- The walk of the law TurnPlays: it returns true, and writes nothing that was there. -/
import Derived.Test.YtakhhbemnodahaaTurnStay
import Derived.Deep.RegionHeld3
import Derived.Deep.RegionWith
import Derived.Deep.DeepCutAuto
import Derived.Deep.CutBlock
namespace Go.Proofs.Ytakhhbemnodahaa
open Go.RowKit

/-- the blocks of the law's four objects, as they were made -/
structure TPO (w0 : World) (wb ab rb tb yb : Nat) (v : Value) : Prop where
  o0 : w0.heap.size ≤ wb
  o1 : wb < ab
  o2 : ab < rb
  o3 : rb < tb
  o4 : tb < yb
  o5 : ∀ k, v.ownBlock = some k → k ≠ yb ∧ tb < k
/-- the law's invariant: both rows of turns stand over the same words -/
structure TPI (w0 w : World) (wb ab rb tb yb slots : Nat) (v : Value) (A : AR) (d : Nat → Nat) (m : Nat) : Prop where
  ar : ArAt w ab wb A
  rf : RfAt w rb v A
  tr : TrAt w tb ab 1 slots d m
  rt : RtAt w yb rb 1 slots
  td : TrD A slots d
  frm : Frm [] w0 w

theorem not_vb2 {x rb : Nat} {v : Value} (h1 : x ≠ rb) (h2 : ∀ k, v.ownBlock = some k → x ≠ k) : x ∉ rb :: vb v := by
  intro hm
  rcases List.mem_cons.1 hm with h | h
  · exact h1 h
  · exact h2 x (by simpa [vb] using h) rfl

section
variable {w0 w w1 w2 : World} {wb ab rb tb yb slots m m' : Nat} {v : Value} {A B : AR} {d d' : Nat → Nat}
theorem TPI.mid (o : TPO w0 wb ab rb tb yb v) (h : TPI w0 w wb ab rb tb yb slots v A d m) (hf : Frm [ab, wb] w w1) : RfAt w1 rb v A ∧ TrAt w1 tb ab 1 slots d m ∧ RtAt w1 yb rb 1 slots ∧ Frm [] w0 w1 := by
  have := o.o0; have := o.o1; have := o.o2; have := o.o3; have := o.o4
  exact ⟨h.rf.frm hf (by simp; omega), h.tr.frm hf (by simp; omega), h.rt.frm hf (by simp; omega), h.frm.widen hf (by simp; omega)⟩
theorem TPI.mid' (o : TPO w0 wb ab rb tb yb v) (h : TPI w0 w wb ab rb tb yb slots v A d m) (hf : Frm [tb, ab, wb] w w1) : RfAt w1 rb v A ∧ RtAt w1 yb rb 1 slots ∧ Frm [] w0 w1 := by
  have := o.o0; have := o.o1; have := o.o2; have := o.o3; have := o.o4; have h5 := o.o5
  exact ⟨h.rf.frm' hf (by simp; omega) (fun k hk => by have := h5 k hk; simp; omega), h.rt.frm hf (by simp; omega), h.frm.widen hf (by simp; omega)⟩
theorem TPI.next (o : TPO w0 wb ab rb tb yb v) (hA : ArAt w1 ab wb B) (hm : TrAt w1 tb ab 1 slots d' m' ∧ RtAt w1 yb rb 1 slots ∧ Frm [] w0 w1) (hd : TrD B slots d') (hR : RfAt w2 rb v B) (hf : Frm (rb :: vb v) w1 w2) : TPI w0 w2 wb ab rb tb yb slots v B d' m' := by
  have := o.o0; have := o.o1; have := o.o2; have := o.o3; have := o.o4; have h5 := o.o5
  exact { ar := hA.frm hf (not_vb2 (by omega) (fun k hk => by have := h5 k hk; omega)) (not_vb2 (by omega) (fun k hk => by have := h5 k hk; omega)), rf := hR, td := hd,
          tr := hm.1.frm hf (not_vb2 (by omega) (fun k hk => by have := h5 k hk; omega)), rt := hm.2.1.frm hf (not_vb2 (by omega) (fun k hk => by have := h5 k hk; omega)),
          frm := hm.2.2.widen hf (fun x hx => by
            rcases List.mem_cons.1 hx with h | h
            · right; omega
            · right; have := h5 x (by simpa [vb] using h); omega) }
theorem TPO.ynot (o : TPO w0 wb ab rb tb yb v) : yb ∉ rb :: vb v := by
  have := o.o3; have := o.o4; have h5 := o.o5
  exact not_vb2 (by omega) (fun k hk => by have := h5 k hk; omega)
theorem tps (h : TPI w0 w wb ab rb tb yb slots v A d m) : TPI w0 w wb ab rb tb yb slots v A d m ∧ w.cell? ⟨rb, 1, none⟩ = some v ∧ w.cell? ⟨rb, 2, none⟩ = some (.int .i64 A.ops) :=
  ⟨h, h.rf.box.cell (i := 1) rfl, h.rf.box.cell (i := 2) rfl⟩
theorem tpy (h : TPI w0 w wb ab rb tb yb slots v A d m) : TPI w0 w wb ab rb tb yb slots v A d m ∧ w.cell? ⟨yb, 2, none⟩ = some (.int .i64 slots) :=
  ⟨h, h.rt.box.cell (i := 2) rfl⟩
theorem TPI.kept (h : TPI w0 w wb ab rb tb yb slots v A d m) (hf : Frm [] w w1) : TPI w0 w1 wb ab rb tb yb slots v A d m :=
  { h with ar := h.ar.frm hf (by simp) (by simp), rf := h.rf.frm hf (by simp), tr := h.tr.frm hf (by simp), rt := h.rt.frm hf (by simp), frm := h.frm.trans hf }
theorem TrD.fresh {n : Nat} {s : Int} (h : (AR.fresh n).tNewE s = 0) : TrD ((AR.fresh n).take s) s.toNat (fun _ => 0) := by
  have h12 : ¬ (s < 1 ∨ 32 < s) := by intro hc; unfold AR.tNewE at h; rw [if_pos hc] at h; omega
  have he : (AR.fresh n).takeE s = 0 := by unfold AR.tNewE at h; rwa [if_neg h12] at h
  have hle : s ≤ n := by
    unfold AR.takeE AR.fresh at he
    rw [if_neg (by omega)] at he
    by_cases hb : ((List.replicate n (0 : Int)).length : Int) - ((0 : Nat) : Int) < s
    · rw [if_pos hb] at he; omega
    · simp at hb; omega
  unfold AR.take
  rw [if_pos he]
  unfold AR.fresh
  refine ⟨by simp, by simp; omega, fun j hj => ?_⟩
  show (List.replicate n (0 : Int))[j]? = _
  rw [List.getElem?_replicate, if_pos (by omega)]; rfl
end

theorem turnPlays_long (v u : Value) (zs ys : List Int) (n0 n1 : Int) (w : World) (h : IsRow .i64 w v zs) (hu : IsRow .i64 w u ys) (hl : 100 < zs.length ∨ 20 < ys.length) :
    Calls Try.prog 6 #[.agg #[.int .i64 n0, .int .i64 n1], v, u] w fun e w' => e = .returned (.bool true) ∧ Below w.heap.size w w' := by
  obtain ⟨a, cap, rfl, -, -, -⟩ := h
  obtain ⟨a', cap', rfl, -, -, -⟩ := hu
  by_cases h1 : 100 < zs.length
  · have d1 : decide ((100 : Int) < zs.length) = true := by simp; omega
    go_enter Try.func6, Try.ntmps6
    go_wp2_with fail
    refine (tawake _).mono ?_
    rintro e w1 ⟨rfl, hF⟩
    have HF := Lib.hid (((Frm.refl [] w).alloc _).trans hF)
    clear hF
    go_wp2
    go_ret
    exact ⟨rfl, HF.out.below (Nat.le_refl _) (by simp)⟩
  · have d1 : decide ((100 : Int) < zs.length) = false := by simp; omega
    have d2 : decide ((20 : Int) < ys.length) = true := by simp; omega
    go_enter Try.func6, Try.ntmps6
    go_wp2_with fail
    refine (tawake _).mono ?_
    rintro e w1 ⟨rfl, hF⟩
    have HF := Lib.hid (((Frm.refl [] w).alloc _).trans hF)
    clear hF
    go_wp2
    go_ret
    exact ⟨rfl, HF.out.below (Nat.le_refl _) (by simp)⟩

set_option maxRecDepth 100000 in
set_option maxHeartbeats 2000000 in
theorem turnPlays_short (v u : Value) (zs ys : List Int) (n0 n1 : Int) (w : World) (h : IsRow .i64 w v zs) (hu : IsRow .i64 w u ys) (hl : zs.length ≤ 100) (hl2 : ys.length ≤ 20) :
    Calls Try.prog 6 #[.agg #[.int .i64 n0, .int .i64 n1], v, u] w fun e w' => e = .returned (.bool true) ∧ Below w.heap.size w w' := by
  obtain ⟨a, cap, rfl, -, hc, hwf⟩ := h
  obtain ⟨a', cap', rfl, -, hc', hwf'⟩ := hu
  have d1 : decide ((100 : Int) < zs.length) = false := by simp; omega
  have d2 : decide ((20 : Int) < ys.length) = false := by simp; omega
  have HC := Lib.hid hc
  have HWF := Lib.hid hwf
  have HC' := Lib.hid hc'
  have HWF' := Lib.hid hwf'
  clear hc hwf hc' hwf'
  go_enter Try.func6, Try.ntmps6
  go_upto_region 3 with fail
  generalize hW : World.alloc _ _ = W
  have hb : HAt W w.heap.size [.int .i64 n0, .int .i64 n1] 22 := by subst hW; exact HAt.new w _ _
  have hf : Frm [] w W := by subst hW; exact (Frm.refl _ _).alloc _
  have hsz : W.heap.size = w.heap.size + 1 := by subst hW; simp
  have c0 := hb.cell (i := 0) rfl
  have HB := Lib.hid hb
  have HF0 := Lib.hid hf
  have HSZ := Lib.hid hsz
  clear hW hb hf hsz
  go_cut [7, 8] (fun s5 s6 wx => ∃ rb, s5 = .pointer (some ⟨W.heap.size + 1, 0, none⟩) ∧ s6 = .pointer (some ⟨rb, 0, none⟩) ∧ W.heap.size + 2 ≤ rb ∧ ArAt wx (W.heap.size + 1) W.heap.size (AR.fresh (roomOf n0)) ∧ RfAt wx rb (.slice none 0 0) (AR.fresh (roomOf n0)) ∧ Frm [] W wx)
  case first =>
    go_region_with (first | (go_at_call 13; refine (New_any n0 _).mono ?_; rintro e w1 ⟨rfl, hA, hF⟩; have c1 := hF.cell (w := W.drew) (a := ⟨w.heap.size, 0, none⟩) c0 (by simp)) | (go_at_call 14; refine (rNew_any n0 _).mono ?_; rintro e w2 ⟨rfl, hR, hF'⟩))
    all_goals
      have g1 := hA.frm hF' (by simp) (by simp)
      have g2 := ((Frm.refl [] W).drew1.trans hF).trans hF'
      have g3 := hA.box.lt
      have G1 := Lib.hid g1
      have G2 := Lib.hid g2
      have G3 := Lib.hid hR
      clear g1 g2 hA hF hR hF'
      go_wp2_with fail
      go_meet
      exact ⟨_, rfl, rfl, g3, G1.out, G3.out, G2.out⟩
  case rest =>
    obtain ⟨rb, rfl, rfl, hrb, hA, hR, hF⟩ := hcut
    have hB := HB.out.frm hF (by simp)
    have c1 := hB.cell (i := 1) rfl
    have HA := Lib.hid hA
    have HR := Lib.hid hR
    have HF := Lib.hid hF
    have HB1 := Lib.hid hB
    clear hA hR hF hB c0
    by_cases hE : (AR.fresh (roomOf n0)).tNewE n1 = 0
    · have HE := Lib.hid hE
      have hrl := HR.out.box.lt
      clear hE
      go_wp2_with fail
      refine (tNew_ok HA.out n1 HE.out).mono ?_
      rintro e w3 ⟨gb, rfl, hgb, hG3, hA3, hF3⟩
      have hR3 := HR.out.frm hF3 (by simp; omega)
      have c3 := (HB1.out.frm hF3 (by simp [HSZ.out]; omega)).cell (i := 1) rfl
      have HR3 := Lib.hid hR3
      have HA3 := Lib.hid hA3
      have HG3 := Lib.hid hG3
      have hgl := hG3.box.lt
      have HF3 := Lib.hid ((HF.out.widen hF3 (by simp)))
      clear hA3 hF3 hR3 hG3 c1
      go_wp2_with fail
      refine (rtNew_ok HR3.out n1 HE.out).mono ?_
      rintro e w4 ⟨yb, v', rfl, hyb, hY4, hR4, hF4, hv4⟩
      have hO : TPO w W.heap.size (W.heap.size + 1) rb gb yb v' := by
        have := HSZ.out
        refine ⟨by omega, by omega, by omega, by omega, by omega, fun k hk => ?_⟩
        obtain ⟨h1, h2⟩ := hv4 k hk
        refine ⟨h1, ?_⟩
        rcases h2 with h2 | h2
        · simp [Value.ownBlock] at h2
        · omega
      have hI : TPI w w4 W.heap.size (W.heap.size + 1) rb gb yb n1.toNat v' ((AR.fresh (roomOf n0)).take n1) (fun _ => 0) 0 := by
        have hn : ∀ x, x < gb + 1 → x ≠ rb → x ∉ rb :: vb (.slice none 0 0) := fun x _ h2 => not_vb2 h2 (fun k hk => by simp [Value.ownBlock] at hk)
        refine { ar := HA3.out.frm hF4 (hn _ (by omega) (by omega)) (hn _ (by omega) (by omega)), rf := hR4, tr := HG3.out.frm hF4 (hn _ (by omega) (by omega)), rt := hY4, td := TrD.fresh HE.out, frm := ?_ }
        exact ((HF0.out.trans HF3.out).widen hF4 (fun x hx => by
          rcases List.mem_cons.1 hx with h | h
          · right; have := HSZ.out; omega
          · simp [vb, Value.ownBlock] at h))
      have HO := Lib.hid hO
      have HI := Lib.hid hI
      clear hO hI hY4 hR4 hF4 hv4 c3 HR HA HB HF HB1 HR3 HA3 HG3 HF3
      have hs32 : n1.toNat ≤ 32 := HI.out.tr.slots2
      generalize (AR.fresh (roomOf n0)).take n1 = A1 at HI
      generalize n1.toNat = slots at *
      go_wp2_with fail
      go_loopw [13] (fun i wx => ∃ (k : Nat) (A : AR) (d : Nat → Nat), i = .int .i64 k ∧ k ≤ zs.length ∧ TPI w wx W.heap.size (W.heap.size + 1) rb gb yb slots v' A d k)
        (fun i _ => zs.length - (intOf i).toNat)
      case atStart => exact ⟨0, A1, _, rfl, Nat.zero_le _, HI.out⟩
      case round =>
        obtain ⟨k, A, d, rfl, hk, hI⟩ := hrel
        by_cases hlt : k < zs.length
        · obtain ⟨b, off, rfl, hcell⟩ := HC.out (by omega)
          have l1 : (k : Int) < zs.length := by omega
          have HI := Lib.hid hI
          have hx : I64 (zs.getD k 0) := i64_of_wf (HWF.out _ (by rw [List.getD_eq_getElem?_getD, List.getElem?_eq_getElem hlt]; exact List.getElem_mem hlt))
          have hcx : ∀ wx, Frm [] w wx → wx.cell? ⟨b, off + k, none⟩ = some (.int .i64 (zs.getD k 0)) := fun wx hf => hf.cell (hcell k hlt) (by simp)
          have c0 := hcx _ hI.frm
          have HX := Lib.hid hx
          have HCX := Lib.hid hcx
          clear hI hcell hx hcx
          generalize zs.getD k 0 = x at *
          have HN1 := Lib.hid (fun n => tNext_any (HI.out.tr.frm (S := []) ((Frm.refl _ wr).drew n) (by simp)) (by omega) x)
          have HN2 := Lib.hid (fun n => rtNext_any (HI.out.rt.frm (S := []) ((Frm.refl _ wr).drew n) (by simp)) (HI.out.rf.frm (S := []) ((Frm.refl _ wr).drew n) (by simp)) (by omega) HI.out.tr.bd x (HI.out.td.gets x))
          generalize hq : tNext slots d x = q at *
          clear hq
          go_wp2_with fail
          go_quiet ((first | (go_at_call 34; exact Calls.quiet_of (HN1.out _)) | (go_at_call 35; exact Calls.quiet_of (HN2.out _))))
          go_wp2_with fail
          have HI1 := Lib.hid (HI.out.kept ((Frm.refl [] wr).drew nq))
          have c1 := HCX.out _ HI1.out.frm
          generalize wr.drewN nq = y0 at *
          clear HN1 HN2 HI c0
          refine (tDone_any HI1.out.tr HI1.out.ar (by omega) (by have := HO.out.o1; have := HO.out.o2; have := HO.out.o3; omega) x).mono ?_
          rintro e y1 ⟨rfl, hA, hT, hF⟩
          obtain ⟨hR, hY, hF'⟩ := HI1.out.mid' HO.out hF
          have HA := Lib.hid hA
          have HT := Lib.hid (And.intro hT (And.intro hY hF'))
          have HD := Lib.hid (HI1.out.td.done HI1.out.tr.bd (by omega) x)
          have HR := Lib.hid hR
          have c2 := HCX.out _ hF'
          clear hA hT hF hR hF' c1
          go_wp2_with fail
          refine (rtDone_any hY HR.out x).mono ?_
          rintro e y2 ⟨rfl, hR, hF⟩
          have HI2 := Lib.hid (TPI.next HO.out HA.out HT.out HD.out hR hF)
          clear hR hF hY HI1 HA HT HD HR HCX HX c2
          generalize A.tDone 1 slots x = A2 at *
          generalize tUp slots d x = d2' at *
          go_wp2_with fail
          go_loopw [14] (fun i wx => ∃ (j : Nat) (B : AR), i = .int .i64 j ∧ j ≤ ys.length ∧ TPI w wx W.heap.size (W.heap.size + 1) rb gb yb slots v' B d2' (k + 1)) (fun i _ => ys.length - (intOf i).toNat)
          case atStart => exact ⟨0, A2, rfl, Nat.zero_le _, HI2.out⟩
          case round =>
            obtain ⟨j, B, rfl, hj, hI⟩ := hrel
            by_cases hlt2 : j < ys.length
            · obtain ⟨b2, off2, rfl, hcell⟩ := HC'.out (by omega)
              have l2 : (j : Int) < ys.length := by omega
              have HI3 := Lib.hid hI
              have hx : I64 (ys.getD j 0) := i64_of_wf (HWF'.out _ (by rw [List.getD_eq_getElem?_getD, List.getElem?_eq_getElem hlt2]; exact List.getElem_mem hlt2))
              have hcx : ∀ wx, Frm [] w wx → wx.cell? ⟨b2, off2 + j, none⟩ = some (.int .i64 (ys.getD j 0)) := fun wx hf => hf.cell (hcell j hlt2) (by simp)
              have c0 := hcx _ hI.frm
              have HX := Lib.hid hx
              have HCX := Lib.hid hcx
              clear hI hcell hx hcx HI2
              generalize ys.getD j 0 = x2 at *
              go_upto_region 20 with fail
              go_cut [106] (fun b106 wx => b106 = .bool false ∧ ∃ B', TPI w wx W.heap.size (W.heap.size + 1) rb gb yb slots v' B' d2' (k + 1))
              case first =>
                go_region_held3 (fun wx => wx.cell? ⟨b2, off2 + j, none⟩ = some (.int .i64 x2)) (first | exact HCX.out _ (by repeat (first | exact HI5.out.frm | exact HT4.out.2.2 | exact HI3.out.frm | apply Frm.drew1 | apply Frm.drew)) | exact HCX.out _ (by repeat (first | exact HT4.out.2.2 | exact HI3.out.frm | apply Frm.drew1 | apply Frm.drew)) | exact HCX.out _ (by repeat (first | exact HI3.out.frm | apply Frm.drew1 | apply Frm.drew)))
                  (first
                    | (go_at_call 38; refine (tIs_any (HI3.out.tr.frm (S := []) (by repeat (first | exact Frm.refl _ _ | apply Frm.drew1 | apply Frm.drew)) (by simp)) (HI3.out.ar.frm (S := []) (by repeat (first | exact Frm.refl _ _ | apply Frm.drew1 | apply Frm.drew)) (by simp) (by simp)) (by have := HO.out.o1; have := HO.out.o2; have := HO.out.o3; omega) x2 HX.out).mono ?_; rintro e4 y4 ⟨rfl, hA, hF⟩; obtain ⟨hR, hT, hY, hF'⟩ := HI3.out.mid HO.out (Frm.trans (by repeat (first | exact Frm.refl _ _ | apply Frm.drew1 | apply Frm.drew)) hF); have HA4 := Lib.hid hA; have HT4 := Lib.hid (And.intro hT (And.intro hY hF')); have HR4 := Lib.hid hR; clear hA hT hF hR hF' hY)
                    | (go_at_call 39; refine (rtIs_any (HT4.out.2.1.frm (S := []) (by repeat (first | exact Frm.refl _ _ | apply Frm.drew1 | apply Frm.drew)) (by simp)) (HR4.out.frm (S := []) (by repeat (first | exact Frm.refl _ _ | apply Frm.drew1 | apply Frm.drew)) (by simp)) HO.out.ynot x2 HX.out).mono ?_; rintro e5 y5 ⟨rfl, hR, hF⟩; have HI5 := Lib.hid (TPI.next HO.out (HA4.out.frm (S := []) (by repeat (first | exact Frm.refl _ _ | apply Frm.drew1 | apply Frm.drew)) (by simp) (by simp)) (And.intro (HT4.out.1.frm (S := []) (by repeat (first | exact Frm.refl _ _ | apply Frm.drew1 | apply Frm.drew)) (by simp)) (And.intro (HT4.out.2.1.frm (S := []) (by repeat (first | exact Frm.refl _ _ | apply Frm.drew1 | apply Frm.drew)) (by simp)) (HT4.out.2.2.trans (by repeat (first | exact Frm.refl _ _ | apply Frm.drew1 | apply Frm.drew))))) (HI3.out.td.look 1 x2) hR hF); clear hR hF))
                all_goals
                  go_wp2_with fail
                  go_meet
                  exact ⟨by simp, _, HI5.out.kept (by repeat (first | exact Frm.refl _ _ | apply Frm.drew1 | apply Frm.drew))⟩
              case rest =>
                obtain ⟨rfl, B', hI⟩ := hcut
                have HI6 := Lib.hid hI
                clear hI HI3 c0
                go_wp2_with fail
                go_roundw
                case rel => exact ⟨j + 1, B', by go_num, by omega, HI6.out⟩
                case measure => simp [intOf]; omega
            · have l2 : ¬ (j : Int) < ys.length := by omega
              have hl := hI.rf.box.lt
              have q1 := hI.rf.box.cell (i := 1) rfl
              have q2 := hI.rf.box.cell (i := 2) rfl
              have HI0 := Lib.hid hI
              clear hI HI2
              go_upto_region 22 with fail
              go_cut [123] (fun b123 wx => b123 = .bool false ∧ TPI w wx W.heap.size (W.heap.size + 1) rb gb yb slots v' B d2' (k + 1))
              case first =>
                go_region_held3 (fun wx => TPI w wx W.heap.size (W.heap.size + 1) rb gb yb slots v' B d2' (k + 1) ∧ wx.cell? ⟨rb, 1, none⟩ = some v' ∧ wx.cell? ⟨rb, 2, none⟩ = some (.int .i64 B.ops)) (first | exact tps (HI1.out.kept (by repeat (first | exact Frm.refl _ _ | apply Frm.drew1 | apply Frm.drew))) | exact tps (HI0.out.kept (by repeat (first | exact Frm.refl _ _ | apply Frm.drew1 | apply Frm.drew)))) (first
                  | (go_at_call 26; refine (Words_any (HI0.out.ar.frm (S := []) (by repeat (first | exact Frm.refl _ _ | apply Frm.drew1 | apply Frm.drew)) (by simp) (by simp))).mono ?_; rintro e x1 ⟨vv, rfl, hO, hF⟩; have hI1 := HI0.out.kept (Frm.trans (by repeat (first | exact Frm.refl _ _ | apply Frm.drew1 | apply Frm.drew)) hF); have HO1 := Lib.hid (hO.base (Nat.zero_le _)); have HI1 := Lib.hid hI1; clear hO hF hI1)
                  | (go_at_call 25; refine (Same_any _ (HO1.out.frm (S := []) (by repeat (first | exact Frm.refl _ _ | apply Frm.drew1 | apply Frm.drew)) (by simp)).row (HI1.out.rf.row.frm (S := []) (by repeat (first | exact Frm.refl _ _ | apply Frm.drew1 | apply Frm.drew)) (by simp)).row).mono ?_; rintro e x2 ⟨rfl, nn, rfl⟩)
                  | (go_at_call 27; refine (Ops_any (HI1.out.ar.frm (S := []) (by repeat (first | exact Frm.refl _ _ | apply Frm.drew1 | apply Frm.drew)) (by simp) (by simp))).mono ?_; rintro e x3 ⟨rfl, rfl⟩))
                all_goals
                  go_wp2_with fail
                  go_meet
                  exact ⟨rfl, HI1.out.kept (by repeat (first | exact Frm.refl _ _ | apply Frm.drew1 | apply Frm.drew))⟩
              case rest =>
                obtain ⟨rfl, hI⟩ := hcut
                have HI := Lib.hid hI
                clear hI q1 q2 HI0
                go_wp2_with fail
                go_roundw
                case rel => exact ⟨k + 1, B, d2', rfl, by omega, HI.out⟩
                case measure => simp [intOf]; omega
        · have l1 : ¬ (k : Int) < zs.length := by omega
          have hke : k = zs.length := by omega
          have q2 := hI.rt.box.cell (i := 2) rfl
          have HI0 := Lib.hid hI
          clear hI HI
          go_upto_region 24 with fail
          go_region_held3 (fun wx => TPI w wx W.heap.size (W.heap.size + 1) rb gb yb slots v' A d k ∧ wx.cell? ⟨yb, 2, none⟩ = some (.int .i64 slots)) (first | exact tpy (HI9.out.kept (by repeat (first | exact Frm.refl _ _ | apply Frm.drew1 | apply Frm.drew))) | exact tpy (HI0.out.kept (by repeat (first | exact Frm.refl _ _ | apply Frm.drew1 | apply Frm.drew)))) (first
            | (go_at_call 40; refine (tSlots_any (HI0.out.tr.frm (S := []) (by repeat (first | exact Frm.refl _ _ | apply Frm.drew1 | apply Frm.drew)) (by simp))).mono ?_; rintro e x1 ⟨rfl, rfl⟩)
            | (go_at_call 31; refine (tawake _).mono ?_; rintro e x2 ⟨rfl, hF⟩; have HI9 := Lib.hid (HI0.out.kept (Frm.trans (S := []) (a := wr) (by repeat (first | exact Frm.refl _ _ | apply Frm.drew1 | apply Frm.drew)) hF)); clear hF))
          all_goals
            go_wp2
            go_ret
            exact ⟨rfl, HI9.out.frm.below (Nat.le_refl _) (by simp)⟩
    · have d3 : ((AR.fresh (roomOf n0)).tNewE n1 == 0) = false := by simpa using hE
      have d4 : ((AR.fresh (roomOf n0)).tNewE n1 != 0) = true := by simpa using hE
      have HE := Lib.hid hE
      clear hE
      go_wp2_with fail
      refine (tNew_bad HA.out n1 HE.out).mono ?_
      rintro e w3 ⟨rfl, hA3, hF3⟩
      have hR3 := HR.out.frm hF3 (by simp; omega)
      have c3 := (HB1.out.frm hF3 (by simp [HSZ.out]; omega)).cell (i := 1) rfl
      have HR3 := Lib.hid hR3
      have HF3 := Lib.hid ((HF.out.widen hF3 (by simp)))
      clear hA3 hF3 hR3 c1
      go_wp2_with fail
      refine (rtNew_bad HR3.out n1 HE.out).mono ?_
      rintro e w4 ⟨rfl, hF4⟩
      have HF4 := Lib.hid ((HF3.out.widen hF4 (by simp [vb, Value.ownBlock]; omega)))
      clear hF4 c3
      go_wp2_with fail
      refine (tawake _).mono ?_
      rintro e w5 ⟨rfl, hF5⟩
      have HF5 := Lib.hid ((HF0.out.trans HF4.out).trans hF5)
      clear hF5
      go_wp2
      go_ret
      exact ⟨rfl, HF5.out.below (Nat.le_refl _) (by simp)⟩

/-- the whole walk -/
theorem turnPlays_walk (n0 n1 : Int) (v : Value) (zs : List Int) (u : Value) (ys : List Int) (w : World) (_h0 : I64 n0) (_h1 : I64 n1) (h : IsRow .i64 w v zs) (hu : IsRow .i64 w u ys) :
    Calls Try.prog 6 #[.agg #[.int .i64 n0, .int .i64 n1], v, u] w fun e w' => e = .returned (.bool true) ∧ Below w.heap.size w w' := by
  by_cases hl : zs.length ≤ 100 ∧ ys.length ≤ 20
  · exact turnPlays_short v u zs ys n0 n1 w h hu hl.1 hl.2
  · exact turnPlays_long v u zs ys n0 n1 w h hu (by omega)

end Go.Proofs.Ytakhhbemnodahaa
