/- The walk of the law GaugeCounts: it returns true, and writes nothing that was there. -/
import Derived.Test.YtakhhbemnodahaaGaugeCount
import Derived.Deep.RegionHeld3
import Derived.Deep.RegionWith
import Derived.Deep.DeepCutAuto
import Derived.Deep.CutBlock
namespace Go.Proofs.Ytakhhbemnodahaa
open Go.RowKit

/-- the law's invariant: the arena, the gauge and what the law counts -/
structure GCI (w0 w : World) (wb ab gb ib : Nat) (A : AR) (e x : Nat → Nat) (n : Nat) : Prop where
  ar : ArAt w ab wb A
  gg : GgAt w gb ab 1 8
  bx : HAt w ib (ins e x) 52
  frm : Frm [] w0 w
  cnt : Cnt A e x n
  o0 : w0.heap.size ≤ wb
  o1 : w0.heap.size ≤ ab
  o2 : gb ≠ ab ∧ gb ≠ wb
  o3 : ib ≠ ab ∧ ib ≠ wb
  o4 : w0.heap.size ≤ ib ∧ ib ≠ gb

section
variable {w0 w w1 : World} {wb ab gb ib n m : Nat} {e x e' x' : Nat → Nat} {A B : AR}
theorem GCI.next (h : GCI w0 w wb ab gb ib A e x n) (hA : ArAt w1 ab wb B) (hf : Frm [ab, wb] w w1) : GgAt w1 gb ab 1 8 ∧ HAt w1 ib (ins e x) 52 ∧ Frm [] w0 w1 := by
  have := h.o0; have := h.o1; have := h.o2; have := h.o3; have := hA
  exact ⟨h.gg.frm hf (by simp; omega), h.bx.frm hf (by simp; omega), h.frm.widen hf (by simp; omega)⟩
theorem GCI.kept (h : GCI w0 w wb ab gb ib A e x n) (hf : Frm [] w w1) : GCI w0 w1 wb ab gb ib A e x n :=
  { h with ar := h.ar.frm hf (by simp) (by simp), gg := h.gg.frm hf (by simp), bx := h.bx.frm hf (by simp), frm := h.frm.trans hf }
theorem GCI.moved (h : GCI w0 w wb ab gb ib A e x n) (hA : ArAt w1 ab wb B) (hf : Frm [ab, wb] w w1) (hc : Cnt B e x m) : GCI w0 w1 wb ab gb ib B e x m := by
  obtain ⟨h1, h2, h3⟩ := h.next hA hf
  exact { h with ar := hA, gg := h1, bx := h2, frm := h3, cnt := hc }
/-- the law's own count is written -/
theorem GCI.put (h : GCI w0 w wb ab gb ib A e x n) (hA : ArAt w1 ab wb B) (hf : Frm [ab, wb] w w1) {k : Nat} {v : Value} (hs : (ins e x).set k v = ins e' x') (hc : Cnt B e' x' m) : GCI w0 (w1.setCell ⟨ib, k, none⟩ v) wb ab gb ib B e' x' m := by
  obtain ⟨h1, h2, h3⟩ := h.next hA hf
  have hf2 : Frm [ib] w1 (w1.setCell ⟨ib, k, none⟩ v) := (Frm.refl _ _).set _ _ (by simp)
  have := h.o0; have := h.o1; have o2 := h.o2; have o3 := h.o3; have o4 := h.o4
  have hb := h2.set k v
  rw [hs] at hb
  exact { h with ar := hA.frm hf2 (by simp; omega) (by simp; omega), gg := h1.frm hf2 (by simp; omega), bx := hb, frm := h3.widen hf2 (by simp; omega), cnt := hc }
end

theorem gWord8 {w : World} {gb ab q : Nat} (h : GgAt w gb ab 1 8) (hq : q < 8) : Calls Try.prog 28 #[.pointer (some ⟨gb, 0, none⟩), .int .i64 q] w fun e w' => e = .returned (.int .i64 (1 + 2 * (q : Int))) ∧ w = w' := by
  have := gWord_any h (q : Int)
  rw [Cnt.gword hq] at this
  exact this

set_option maxHeartbeats 1000000 in
theorem gaugeCounts_long (v : Value) (zs : List Int) (w : World) (h : IsRow .u8 w v zs) (hl : 100 < zs.length) :
    Calls Try.prog 4 #[v] w fun e w' => e = .returned (.bool true) ∧ Below w.heap.size w w' := by
  obtain ⟨a, cap, rfl, -, -, -⟩ := h
  have d1 : decide ((100 : Int) < zs.length) = true := by simp; omega
  go_enter Try.func4, Try.ntmps4
  go_wp2_with fail
  refine (gawake _).mono ?_
  rintro e w1 ⟨rfl, hF⟩
  have HF := Lib.hid hF
  clear hF
  go_wp2
  go_ret
  exact ⟨rfl, HF.out.below (Nat.le_refl _) (by simp)⟩

set_option maxRecDepth 100000 in
set_option maxHeartbeats 4000000 in
theorem gaugeCounts_short (v : Value) (zs : List Int) (w : World) (h : IsRow .u8 w v zs) (hl : zs.length ≤ 100) :
    Calls Try.prog 4 #[v] w fun e w' => e = .returned (.bool true) ∧ Below w.heap.size w w' := by
  obtain ⟨a, cap, rfl, -, hc, hwf⟩ := h
  have d1 : decide ((100 : Int) < zs.length) = false := by simp; omega
  have HC := Lib.hid hc
  have HWF := Lib.hid hwf
  have e0 : (AR.fresh (roomOf 20)).gNewE 8 = 0 := by kernel_rfl
  have HE := Lib.hid e0
  clear hc hwf e0
  go_enter Try.func4, Try.ntmps4
  go_wp2_with fail
  refine (New_any 20 _).mono ?_
  rintro e w1 ⟨rfl, hA, hF⟩
  have hab := hA.box.lt
  have HA := Lib.hid hA
  have HF1 := Lib.hid hF
  clear hA hF
  go_wp2_with fail
  refine (gNew_ok HA.out 8 HE.out).mono ?_
  rintro e w2 ⟨gb, rfl, hgb, hG, hA, hF⟩
  have hgl := hG.box.lt
  have HA := Lib.hid (hA.to (B := (AR.fresh 20).take 16) (by kernel_rfl))
  have HG : Hid (GgAt w2 gb (w.heap.size + 1) 1 8) := Lib.hid hG
  have HF2 := Lib.hid (HF1.out.widen hF (by simp))
  clear hA hF hG
  go_wp2_with fail
  generalize hW : World.alloc _ _ = W
  have hI : GCI w W w.heap.size (w.heap.size + 1) gb w2.heap.size ((AR.fresh 20).take 16) (fun _ => 0) (fun _ => 0) 0 := by
    subst hW
    have hf : Frm [] w2 (w2.alloc (.cells #[.int .i64 0, .int .i64 0, .int .i64 0, .int .i64 0, .int .i64 0, .int .i64 0, .int .i64 0, .int .i64 0] 52)) := (Frm.refl _ _).alloc _
    exact { ar := HA.out.frm hf (by simp) (by simp), gg := HG.out.frm hf (by simp), bx := HAt.new w2 _ _, frm := HF2.out.trans hf, cnt := Cnt.start, o0 := Nat.le_refl _, o1 := by omega, o2 := by omega, o3 := by omega, o4 := by omega }
  have HI := Lib.hid hI
  have hlt : w2.heap.size < W.heap.size := hI.bx.lt
  clear hW hI
  generalize w2.heap.size = ib at *
  go_loopw [7] (fun i wx => ∃ (k : Nat) (A : AR) (e x : Nat → Nat), i = .int .i64 k ∧ k ≤ zs.length ∧ GCI w wx w.heap.size (w.heap.size + 1) gb ib A e x k)
    (fun i _ => zs.length - (intOf i).toNat)
  case atStart => exact ⟨0, _, _, _, rfl, Nat.zero_le _, HI.out⟩
  case round =>
    obtain ⟨k, A, e, x, rfl, hk, hI⟩ := hrel
    have hlt' := hI.bx.lt
    by_cases hlt : k < zs.length
    · obtain ⟨b, off, rfl, hcell⟩ := HC.out (by omega)
      have l1 : (k : Int) < zs.length := by omega
      have c0 := hI.frm.cell (hcell k hlt) (by simp)
      have hz : (Lit.int .u8 (zs.getD k 0)).wf = true := HWF.out _ (by rw [List.getD_eq_getElem?_getD, List.getElem?_eq_getElem hlt]; exact List.getElem_mem hlt)
      have HI1 := Lib.hid hI
      clear hI hcell HI
      generalize zs.getD k 0 = z at *
      have hz2 : 0 ≤ z ∧ z < 256 := by have := u8_of_wf hz; unfold U8 at this; omega
      obtain ⟨m, rfl⟩ := Int.eq_ofNat_of_zero_le hz2.1
      obtain ⟨hm0, hm⟩ := hz2
      clear hz
      obtain ⟨q, hq, hq8⟩ : ∃ q : Nat, (m : Int) % 8 = q ∧ q < 8 := ⟨m % 8, by omega, by omega⟩
      go_wp2_with fail
      refine (Words_any HI1.out.ar).mono ?_
      rintro e1 x1 ⟨vv, rfl, hO, hF⟩
      have c1 := hF.cell c0 (by simp)
      have HI2 := Lib.hid (HI1.out.kept hF)
      have HO := Lib.hid hO
      clear hO hF HI1 c0
      go_upto_if 47 with fail
      go_cut [8] (fun s8 wx => s8 = .int .i64 q ∧ ∃ (A' : AR) (e' x' : Nat → Nat) (t : Nat), GCI w wx w.heap.size (w.heap.size + 1) gb ib A' e' x' (k + 1) ∧ Own wx wr.heap.size vv A.words ∧ t < 2 ∧ ∀ i, i ≠ 2 * q + t → A'.words[i]? = A.words[i]?)
      case first =>
        have hbx := HI2.out.bx.cell (ins_get e x hq8)
        have hb1 := HI2.out.cnt.be q hq8
        have hb2 := HI2.out.cnt.bx q hq8
        by_cases hm8 : (m : Int) < 128
        · go_wp2_with fail
          refine (gEnter_any HI2.out.gg HI2.out.ar q).mono ?_
          rintro e2 x2 ⟨rfl, hA, hF⟩
          have hbx2 := hF.cell hbx (by have := HI2.out.o3; simp; omega)
          have hfz := (HI2.out.next hA hF).2.1.frozen
          have hs := ins_up e x hq8
          have HP := Lib.hid (HI2.out.put hA hF hs (HI2.out.cnt.enter (by omega) hq8))
          have HO2 := Lib.hid ((HO.out.frm hF (by simp; omega)).frm ((Frm.refl [ib] x2).set ⟨ib, q, none⟩ (.int .i64 ((e q : Int) - x q + 1)) (by simp)) (by simp; omega))
          clear hA hF hbx hs
          go_wp2_with fail
          go_meet
          exact ⟨rfl, _, _, _, 0, HP.out, HO2.out, by omega, fun i hi => HI2.out.cnt.words (by omega) hq8 0 (by omega) hi⟩
        · go_wp2_with fail
          refine (gExit_any HI2.out.gg HI2.out.ar q).mono ?_
          rintro e2 x2 ⟨rfl, hA, hF⟩
          have hbx2 := hF.cell hbx (by have := HI2.out.o3; simp; omega)
          have hfz := (HI2.out.next hA hF).2.1.frozen
          have hs := ins_down e x hq8
          have HP := Lib.hid (HI2.out.put hA hF hs (HI2.out.cnt.exit (by omega) hq8))
          have HO2 := Lib.hid ((HO.out.frm hF (by simp; omega)).frm ((Frm.refl [ib] x2).set ⟨ib, q, none⟩ (.int .i64 ((e q : Int) - x q - 1)) (by simp)) (by simp; omega))
          clear hA hF hbx hs
          go_wp2_with fail
          go_meet
          exact ⟨rfl, _, _, _, 1, HP.out, HO2.out, by omega, fun i hi => HI2.out.cnt.words (by omega) hq8 1 (by omega) hi⟩
      case rest =>
        obtain ⟨rfl, A', e', x', t, hI, hO', ht, hw⟩ := hcut
        have hlen : A.words.length = 16 := HI2.out.cnt.wlen
        have hlen' : A'.words.length = 16 := hI.cnt.wlen
        have HI3 := Lib.hid hI
        have HO3 := Lib.hid hO'
        have HWD := Lib.hid hw
        clear hI hO' hw HI2 HO c1
        go_wp2_with fail
        refine (Words_any HI3.out.ar).mono ?_
        rintro e3 x3 ⟨uu, rfl, hO, hF⟩
        have HI4 := Lib.hid (HI3.out.kept hF)
        have hr1 := (HO3.out.frm hF (by simp)).row
        have hr2 := hO.row
        obtain ⟨a1, cap1, hv1, -, hr1⟩ := hr1
        obtain ⟨a2, cap2, hv2, -, hr2⟩ := hr2
        rw [hlen] at hv1
        rw [hlen'] at hv2
        subst hv1 hv2
        obtain ⟨g1, o1, -, rfl, hc1⟩ := hr1 (by omega)
        obtain ⟨g2, o2, -, rfl, hc2⟩ := hr2 (by omega)
        rw [hlen] at hc1
        rw [hlen'] at hc2
        have HC1 := Lib.hid hc1
        have HC2 := Lib.hid hc2
        clear hc1 hc2 hr1 hr2 hO hF HI3 HO3 hlen hlen'
        go_wp2_with fail
        go_loopw [11] (fun i wy => ∃ j : Nat, i = .int .i64 j ∧ j ≤ 16 ∧ Frm [] x3 wy) (fun i _ => 16 - (intOf i).toNat)
        case atStart => exact ⟨0, rfl, by omega, Frm.refl _ _⟩
        case round =>
          obtain ⟨j, rfl, hj, hW⟩ := hrel
          by_cases hlt2 : j < 16
          · have l2 : (j : Int) < 16 := by omega
            have c1 := hW.cell (HC1.out j hlt2) (by simp)
            have c2 := hW.cell (HC2.out j hlt2) (by simp)
            have hsame := HWD.out j
            have HG5 := Lib.hid (HI4.out.gg.frm hW (by simp))
            have HFW := Lib.hid hW
            clear hW
            have HGW := Lib.hid (fun n => (gWord8 (HG5.out.frm (S := []) ((Frm.refl _ wr).drew n) (by simp)) hq8).mono (fun e w' h => (show e = .returned (.int .i64 (1 + 2 * (q : Int))) ∧ ∃ k, w' = (wr.drewN n).drewN k from ⟨h.1, 0, h.2.symm⟩)))
            by_cases hjt : j = 2 * q + t
            · clear hsame
              generalize A.words[j]?.getD 0 = p1 at *
              generalize A'.words[j]?.getD 0 = p2 at *
              have HJT := Lib.hid hjt
              clear hjt
              cases hp : (p2 != p1) with
              | false =>
                go_wp2_with fail
                go_quiet ((go_at_call 28; exact Calls.quiet_of (HGW.out _)))
                go_wp2_with fail
                go_roundw
                case rel => exact ⟨j + 1, by go_num, by omega, HFW.out.drew _⟩
                case measure => simp [intOf]; omega
              | true =>
                rcases Nat.lt_or_ge t 1 with ht0 | ht0
                · have e1 : (IntKind.i64.wrap ((j : Int) + 1) != 1 + 2 * (q : Int)) = false := by have := HJT.out; rw [IntWalk.i64_in _ (by omega)]; simp; omega
                  have e2 : ((j : Int) + 1 != 1 + 2 * (q : Int)) = false := by have := HJT.out; simp; omega
                  clear HJT ht0
                  go_wp2_with fail
                  go_quiet ((go_at_call 28; exact Calls.quiet_of (HGW.out _)))
                  go_wp2_with fail
                  go_roundw
                  case rel => exact ⟨j + 1, by go_num, by omega, HFW.out.drew _⟩
                  case measure => simp [intOf]; omega
                · have e1 : (IntKind.i64.wrap ((j : Int) + 1) != 1 + 2 * (q : Int)) = true := by have := HJT.out; rw [IntWalk.i64_in _ (by omega)]; simp; omega
                  have e3 : ((j : Int) + 1 != 1 + 2 * (q : Int)) = true := by have := HJT.out; simp; omega
                  have e2 : ((j : Int) != 1 + 2 * (q : Int)) = false := by have := HJT.out; simp; omega
                  clear HJT ht0
                  go_wp2_with fail
                  go_quiet ((go_at_call 28; exact Calls.quiet_of (HGW.out _)))
                  go_wp2_with fail
                  go_roundw
                  case rel => exact ⟨j + 1, by go_num, by omega, HFW.out.drew _⟩
                  case measure => simp [intOf]; omega
            · have hs := hsame hjt
              rw [hs] at c2
              clear hsame hs
              generalize A.words[j]?.getD 0 = p1 at *
              have hp : (p1 != p1) = false := by simp
              go_wp2_with fail
              go_quiet ((go_at_call 28; exact Calls.quiet_of (HGW.out _)))
              go_wp2_with fail
              go_roundw
              case rel => exact ⟨j + 1, by go_num, by omega, HFW.out.drew _⟩
              case measure => simp [intOf]; omega
          · have hje : j = 16 := by omega
            subst hje
            have hI5 : GCI w wr w.heap.size (w.heap.size + 1) gb ib A' e' x' (k + 1) := HI4.out.kept hW
            have HI5 := Lib.hid hI5
            clear hI5 hW HI4 HC1 HC2
            go_wp2_with fail
            go_loopw [12] (fun i wy => ∃ (j : Nat) (A2 : AR), i = .int .i64 j ∧ j ≤ 8 ∧ GCI w wy w.heap.size (w.heap.size + 1) gb ib A2 e' x' (k + 1)) (fun i _ => 8 - (intOf i).toNat)
            case atStart => exact ⟨0, A', rfl, by omega, HI5.out⟩
            case round =>
              obtain ⟨j, A2, rfl, hj, hI⟩ := hrel
              by_cases hlt3 : j < 8
              · have l2 : (j : Int) < 8 := by omega
                have c8 := hI.bx.cell (ins_get e' x' hlt3)
                have HI6 := Lib.hid hI
                have hb1 := hI.cnt.be j hlt3
                have hb2 := hI.cnt.bx j hlt3
                have hkk : ∀ wx, GCI w wx w.heap.size (w.heap.size + 1) gb ib A2 e' x' (k + 1) → wx.cell? ⟨ib, j, none⟩ = some (.int .i64 ((e' j : Int) - x' j)) := fun wx h => h.bx.cell (ins_get e' x' hlt3)
                have hg1 := (hI.cnt.get hlt3).1
                have hg2 := ((hI.cnt.load j 0).get hlt3).2
                have HG1 := Lib.hid hg1
                have HG2 := Lib.hid hg2
                have HC1 := Lib.hid (hI.cnt.load j 0)
                have HC2 := Lib.hid ((hI.cnt.load j 0).load j 1)
                have hkk : ∀ wx B, GCI w wx w.heap.size (w.heap.size + 1) gb ib B e' x' (k + 1) → wx.cell? ⟨ib, j, none⟩ = some (.int .i64 ((e' j : Int) - x' j)) := fun wx B h => h.bx.cell (ins_get e' x' hlt3)
                have KK := Lib.hid hkk
                have hw1 : (IntKind.i64.wrap ((e' j : Int) - x' j) != (e' j : Int) - x' j) = false := by rw [IntWalk.i64_in _ (by omega)]; simp
                have hw2 : (wrap64 ((e' j : Int) - x' j) != (e' j : Int) - x' j) = false := by rw [show wrap64 ((e' j : Int) - x' j) = (e' j : Int) - x' j from by unfold wrap64; omega]; simp
                clear hI hg1 hg2 hkk hb1 hb2
                go_upto_region 27 with fail
                go_cut [116] (fun b116 wx => b116 = .bool false ∧ ∃ A3, GCI w wx w.heap.size (w.heap.size + 1) gb ib A3 e' x' (k + 1))
                case first =>
                  go_region_held3 (fun wx => wx.cell? ⟨ib, j, none⟩ = some (.int .i64 ((e' j : Int) - x' j))) (first | exact KK.out _ _ (HI8.out.kept (by repeat (first | exact Frm.refl _ _ | apply Frm.drew1 | apply Frm.drew))) | exact KK.out _ _ (HI7.out.kept (by repeat (first | exact Frm.refl _ _ | apply Frm.drew1 | apply Frm.drew))) | exact KK.out _ _ (HI6.out.kept (by repeat (first | exact Frm.refl _ _ | apply Frm.drew1 | apply Frm.drew))))
                    (first
                      | (go_at_call 17; refine (gIn_any (HI6.out.gg.frm (S := []) (by repeat (first | exact Frm.refl _ _ | apply Frm.drew1 | apply Frm.drew)) (by simp)) (HI6.out.ar.frm (S := []) (by repeat (first | exact Frm.refl _ _ | apply Frm.drew1 | apply Frm.drew)) (by simp) (by simp)) j).mono ?_; rw [HG1.out]; rintro e7 y7 ⟨rfl, hA, hF⟩; have HI7 := Lib.hid (HI6.out.moved hA (Frm.trans (by repeat (first | exact Frm.refl _ _ | apply Frm.drew1 | apply Frm.drew)) hF) HC1.out); clear hA hF)
                      | (go_at_call 23; refine (gOut_any (HI7.out.gg.frm (S := []) (by repeat (first | exact Frm.refl _ _ | apply Frm.drew1 | apply Frm.drew)) (by simp)) (HI7.out.ar.frm (S := []) (by repeat (first | exact Frm.refl _ _ | apply Frm.drew1 | apply Frm.drew)) (by simp) (by simp)) j).mono ?_; rw [HG2.out]; rintro e8 y8 ⟨rfl, hA, hF⟩; have HI8 := Lib.hid (HI7.out.moved hA (Frm.trans (by repeat (first | exact Frm.refl _ _ | apply Frm.drew1 | apply Frm.drew)) hF) HC2.out); clear hA hF))
                  all_goals
                    go_wp2_with fail
                    go_meet
                    exact ⟨by first | rfl | (simp only [hw1]) | (simp only [hw2]), _, HI8.out.kept (by repeat (first | exact Frm.refl _ _ | apply Frm.drew1 | apply Frm.drew))⟩
                case rest =>
                  obtain ⟨rfl, A3, hI⟩ := hcut
                  have HI9 := Lib.hid hI
                  clear hI c8 HI6 hw1 hw2 HG1 HG2 HC1 HC2 KK
                  go_wp2_with fail
                  go_roundw
                  case rel => exact ⟨j + 1, A3, by go_num, by omega, HI9.out⟩
                  case measure => simp [intOf]; omega
              · have hje : j = 8 := by omega
                subst hje
                go_wp2_with fail
                go_roundw
                case rel => exact ⟨k + 1, A2, e', x', rfl, by omega, hI⟩
                case measure => simp [intOf]; omega
    · have l1 : ¬ (k : Int) < zs.length := by omega
      have HI1 := Lib.hid hI
      clear hI
      go_wp2_with fail
      refine (gawake _).mono ?_
      rintro e w1 ⟨rfl, hF⟩
      have HF := Lib.hid (HI1.out.frm.trans hF)
      clear hF
      go_wp2
      go_ret
      exact ⟨rfl, HF.out.below (Nat.le_refl _) (by simp)⟩

theorem gaugeCounts_walk (v : Value) (zs : List Int) (w : World) (h : IsRow .u8 w v zs) :
    Calls Try.prog 4 #[v] w fun e w' => e = .returned (.bool true) ∧ Below w.heap.size w w' := by
  by_cases hl : zs.length ≤ 100
  · exact gaugeCounts_short v zs w h hl
  · exact gaugeCounts_long v zs w h (by omega)

end Go.Proofs.Ytakhhbemnodahaa
