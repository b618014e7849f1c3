/- The walk of the law DrainSure: it returns true, and writes nothing that was there. -/
import Derived.Test.YtakhhbemnodahaaDrainSeen
namespace Go.Proofs.Ytakhhbemnodahaa
open Go.RowKit

set_option maxHeartbeats 1000000 in
theorem drainSure_long (n : Int) (v : Value) (zs : List Int) (w : World) (h : IsRow .u8 w v zs) (hl : 100 < zs.length) :
    Calls Try.prog 9 #[.int .u8 n, v] w fun e w' => e = .returned (.bool true) ∧ Below w.heap.size w w' := by
  obtain ⟨a, cap, rfl, -, -, -⟩ := h
  have d1 : decide ((100 : Int) < zs.length) = true := by simp; omega
  go_enter Try.func9, Try.ntmps9
  go_wp2_with fail
  refine (dawake _).mono ?_
  rintro e w1 ⟨rfl, hF⟩
  have HF := Lib.hid hF
  clear hF
  go_wp2
  go_ret
  exact ⟨rfl, HF.out.below (Nat.le_refl _) (by simp)⟩

set_option maxRecDepth 100000 in
set_option maxHeartbeats 8000000 in
theorem drainSure_short (n : Int) (v : Value) (zs : List Int) (w : World) (hn : U8 n) (h : IsRow .u8 w v zs) (hl : zs.length ≤ 100) :
    Calls Try.prog 9 #[.int .u8 n, v] w fun e w' => e = .returned (.bool true) ∧ Below w.heap.size w w' := by
  obtain ⟨a, cap, rfl, -, hc, hwf⟩ := h
  have d1 : decide ((100 : Int) < zs.length) = false := by simp; omega
  have HC := Lib.hid hc
  have HWF := Lib.hid hwf
  unfold U8 at hn
  obtain ⟨hn0, hn1⟩ := hn
  obtain ⟨q, hq, hq8⟩ : ∃ q : Nat, n % 8 = q ∧ q < 8 := ⟨(n % 8).toNat, by omega, by omega⟩
  obtain ⟨s, hs⟩ : ∃ s : Nat, 1 + (q : Int) = (s : Int) := ⟨1 + q, by omega⟩
  have s1 : 1 ≤ s := by omega
  have s8 : s ≤ 8 := by omega
  have d2 : ((s : Int) == 0) = false := by simp; omega
  have d3 : (s : Int) ≠ 0 := by omega
  have hS := CntN.start (r := 64) s1 (by omega) (by omega)
  have HS1 := Lib.hid hS.1
  have HS2 := Lib.hid hS.2
  clear hS hc hwf
  go_enter Try.func9, Try.ntmps9
  go_wp2_with fail
  refine (New_any 64 _).mono ?_
  rintro e w1 ⟨rfl, hA, hF⟩
  have hab := hA.box.lt
  have HA : Hid (ArAt w1 (w.heap.size + 1) w.heap.size (AR.fresh 64)) := Lib.hid hA
  have HF2 := Lib.hid hF
  clear hA hF
  go_wp2_with fail
  refine (gNew_ok HA.out s HS1.out).mono ?_
  rintro e w2 ⟨gb, rfl, hgb, hG, hA, hF⟩
  have hgl := hG.box.lt
  have HA := Lib.hid hA
  have HG : Hid (GgAt w2 gb (w.heap.size + 1) 1 s) := Lib.hid hG
  have HF3 := Lib.hid (HF2.out.widen hF (by simp))
  clear hA hF hG
  go_wp2_with fail
  refine (dNew_any (some ⟨gb, 0, none⟩) w2).mono ?_
  rintro e w3 ⟨rfl, hD, hF⟩
  have hI : DWI w w3 w.heap.size (w.heap.size + 1) gb w2.heap.size s ((AR.fresh 64).take (2 * s)) (fun _ => 0) (fun _ => 0) 0 DR.zero :=
    { ar := HA.out.frm hF (by simp) (by simp), gg := HG.out.frm hF (by simp), dr := hD, cnt := HS2.out, frm := HF3.out.trans hF, o0 := Nat.le_refl _, o1 := by omega, o2 := by omega, o3 := by omega }
  have HI := Lib.hid hI
  clear hD hF hI HA HG HF3 HF2 HS1 HS2
  generalize w2.heap.size = db at *
  generalize hwb : w.heap.size = wb at *
  go_wp2_with fail
  refine (HI.out.begin 0 s false).mono ?_
  rw [decide_eq_false (show ¬ (s : Int) ≤ 0 from by omega)]
  rintro e w4 ⟨rfl, hI⟩
  have hdl := HAt.lt hI.dr
  have HI2 := Lib.hid hI
  have HSU := Lib.hid (Sure.start s1 (fun _ => 0) (fun _ => false))
  clear hI HI
  generalize DR.zero.begins 0 s false = D0 at *
  have mk1 := mkInts s (by omega)
  have mk2 := mkBools s (by omega)
  go_wp2_with fail
  go_cut [11, 12] (fun s11 s12 wx => ∃ ib sb, s11 = .slice (some ⟨ib, 0, none⟩) s s ∧ s12 = .slice (some ⟨sb, 0, none⟩) s s ∧ DSI w wx wb (wb + 1) gb db ib sb s ((AR.fresh 64).take (2 * s)) (fun _ => 0) (fun _ => 0) 0 D0 (fun _ => false))
  case first =>
    go_region
    all_goals
      go_wp2_with fail
      go_meet
    · exact ⟨_, _, rfl, rfl, DSI.born HI2.out hdl⟩
    · exact ⟨_, _, rfl, rfl, DSI.born' HI2.out hdl⟩
  case rest =>
    obtain ⟨ib, sb, rfl, rfl, hI⟩ := hcut
    have HI3 := Lib.hid hI
    clear hI HI2 mk1 mk2
    generalize (AR.fresh 64).take (2 * s) = A0 at *
    go_wp2_with fail
    go_loopw [10, 13] (fun o i wx => ∃ (b : Bool) (k : Nat) (A : AR) (e x : Nat → Nat) (D : DR) (seen : Nat → Bool), o = .bool b ∧ i = .int .i64 k ∧ k ≤ zs.length ∧ DSI w wx wb (wb + 1) gb db ib sb s A e x k D seen ∧ ((b = false ∧ Sure s e seen D) ∨ (b = true ∧ Over s seen D)))
      (fun _ i _ => zs.length - (intOf i).toNat)
    case atStart => exact ⟨false, 0, A0, _, _, _, _, rfl, rfl, Nat.zero_le _, HI3.out, .inl ⟨rfl, HSU.out⟩⟩
    case round =>
      obtain ⟨b, k, A, e, x, D, seen, rfl, rfl, hk, hI, hor⟩ := hrel
      have HI4 := Lib.hid hI
      clear hI HI3 HSU
      rcases hor with ⟨rfl, hsu⟩ | ⟨rfl, hov⟩
      · have HSU := Lib.hid hsu
        clear hsu
        by_cases hlt : k < zs.length
        · obtain ⟨bb, off, rfl, hcell⟩ := HC.out (by omega)
          have l1 : (k : Int) < zs.length := by omega
          have hcx : ∀ wx, Frm [] w wx → wx.cell? ⟨bb, off + k, none⟩ = some (.int .u8 (zs.getD k 0)) := fun wx hf => hf.cell (hcell k hlt) (by simp)
          have hz : (Lit.int .u8 (zs.getD k 0)).wf = true := HWF.out _ (by rw [List.getD_eq_getElem?_getD, List.getElem?_eq_getElem hlt]; exact List.getElem_mem hlt)
          have HCX := Lib.hid hcx
          clear hcell hcx
          generalize zs.getD k 0 = z at *
          have hz2 : 0 ≤ z ∧ z < 256 := by have := u8_of_wf hz; unfold U8 at this; omega
          obtain ⟨m, rfl⟩ := Int.eq_ofNat_of_zero_le hz2.1
          obtain ⟨hm0, hm⟩ := hz2
          clear hz
          go_wp2_with fail
          go_loopw [14] (fun i wx => ∃ j : Nat, i = .int .i64 j ∧ j ≤ s ∧ DSI w wx wb (wb + 1) gb db ib sb s A e x k D (seenJ seen e x j)) (fun i _ => s - (intOf i).toNat)
          case atStart => exact ⟨0, rfl, Nat.zero_le _, by rw [seenJ_zero]; exact HI4.out⟩
          case round =>
            obtain ⟨j, rfl, hj, hI⟩ := hrel
            have HI5 := Lib.hid hI
            by_cases hlt2 : j < s
            · have l2 : (j : Int) < s := by omega
              have c1 := hI.hsn.cell (seenC_get s (seenJ seen e x j) hlt2)
              rw [seenJ_at] at c1
              have c2 := hI.hin.cell (insN_get s e x hlt2)
              have hfz := hI.hsn.frozen
              have hb1 := hI.dw.cnt.be j hlt2
              have hb2 := hI.dw.cnt.bx j hlt2
              have hnx := seenC_next s seen e x j
              have d4 : (((e j : Int) - x j) == 0) = decide (e j = x j) := by rw [Bool.eq_iff_iff]; simp; omega
              clear hI
              cases hsj : seen j with
              | true =>
                rw [hsj] at c1 hnx
                simp only [Bool.true_or] at hnx
                have HNX := Lib.hid (HI5.out.look hnx)
                clear hnx hsj d4 hb1 hb2
                go_wp2_with fail
                go_roundw
                case rel => exact ⟨j + 1, by go_num, by omega, HNX.out⟩
                case measure => simp [intOf]; omega
              | false =>
                rw [hsj] at c1 hnx
                simp only [Bool.false_or] at hnx
                have HNX := Lib.hid (HI5.out.look hnx)
                clear hnx hsj
                generalize decide (e j = x j) = dq at *
                generalize (e j : Int) - x j = y at *
                clear hb1 hb2
                go_wp2_with fail
                go_roundw
                case rel => exact ⟨j + 1, by go_num, by omega, HNX.out⟩
                case measure => simp [intOf]; omega
            · have hje : j = s := by omega
              subst hje
              clear hI HI4 hlt2
              have hsu2 : Sure j e (seenJ seen e x j) D := HSU.out.mono (fun v _ h => seenJ_mono _ _ _ _ _ h) (fun v => Nat.le_refl _)
              have hall : ∀ v, v < j → e v = x v → seenJ seen e x j v = true := fun v hv h => seenJ_all hv h
              have HSU2 := Lib.hid hsu2
              have HALL := Lib.hid hall
              clear hsu2 hall HSU
              generalize seenJ seen e x j = seen2 at *
              have c0 := HCX.out _ HI5.out.dw.frm
              obtain ⟨q4, hq4⟩ : ∃ q4 : Nat, (m : Int) / 4 = q4 := ⟨m / 4, by omega⟩
              obtain ⟨p, hp, hps⟩ : ∃ p : Nat, (q4 : Int) % (j : Int) = p ∧ p < j := ⟨q4 % j, by simp, Nat.mod_lt _ (by omega)⟩
              have hbe := HI5.out.dw.cnt.be p hps
              have hbx := HI5.out.dw.cnt.bx p hps
              have cin := fun (wx : World) (h : HAt wx ib (insN j e x) 3) => h.cell (insN_get j e x hps)
              have CIN := Lib.hid cin
              clear cin
              rcases (by omega : m % 4 = 2 ∨ m % 4 = 3 ∨ (m % 4 ≠ 2 ∧ m % 4 ≠ 3)) with h2 | h3 | ⟨h2, h3⟩
              · have d5 : (m : Int) % 4 = 2 := by omega
                clear h2
                go_wp2_with fail
                refine (HI5.out.dw.enterF (by omega) hps).mono ?_
                rintro r x1 ⟨rfl, B, hD, hF⟩
                obtain ⟨hin, hsn⟩ := HI5.out.moved hF
                have c3 := CIN.out _ hin
                have hfz := hin.frozen
                have HN := Lib.hid (DSI.put hD hin hsn HI5.out.q1 HI5.out.q2 HI5.out.q3 (fun v hv => Nat.le_trans (HI5.out.le v hv) (by unfold upN; split <;> omega)) (insN_up j e x p))
                clear hD hF hin hsn c0
                go_wp2_with fail
                go_roundw
                case rel => exact ⟨false, k + 1, B, _, _, _, _, rfl, by go_num, by omega, HN.out, .inl ⟨rfl, HSU2.out.mono (fun v _ h => h) (fun v => by unfold upN; split <;> omega)⟩⟩
                case measure => simp [intOf]; omega
              · have d5 : (m : Int) % 4 = 3 := by omega
                clear h3
                have c3 := CIN.out _ HI5.out.hin
                have hle := HI5.out.le p hps
                by_cases hgt : x p < e p
                · have d6 : decide (0 < (e p : Int) - x p) = true := by simp; omega
                  go_wp2_with fail
                  refine (HI5.out.dw.exitF (by omega) hps).mono ?_
                  rintro r x1 ⟨rfl, B, hD, hF⟩
                  obtain ⟨hin, hsn⟩ := HI5.out.moved hF
                  have c4 := CIN.out _ hin
                  have hfz := hin.frozen
                  have HN := Lib.hid (DSI.put hD hin hsn HI5.out.q1 HI5.out.q2 HI5.out.q3 (fun v hv => by have := HI5.out.le v hv; unfold upN; split <;> (try subst v) <;> omega) (insN_down j e x p))
                  clear hD hF hin hsn c0 c3
                  go_wp2_with fail
                  go_roundw
                  case rel => exact ⟨false, k + 1, B, _, _, _, _, rfl, by go_num, by omega, HN.out, .inl ⟨rfl, HSU2.out⟩⟩
                  case measure => simp [intOf]; omega
                · have d6 : decide (0 < (e p : Int) - x p) = false := by simp; omega
                  go_wp2_with fail
                  go_roundw
                  case rel => exact ⟨false, k + 1, A, _, _, _, _, rfl, by go_num, by omega, { HI5.out with dw := { HI5.out.dw with cnt := { HI5.out.dw.cnt with be := fun v hv => Nat.le_succ_of_le (HI5.out.dw.cnt.be v hv), bx := fun v hv => Nat.le_succ_of_le (HI5.out.dw.cnt.bx v hv) } } }, .inl ⟨rfl, HSU2.out⟩⟩
                  case measure => simp [intOf]; omega
              · have d5 : ((m : Int) % 4 == 2) = false := by simp; omega
                have d6 : ((m : Int) % 4 == 3) = false := by simp; omega
                clear h2 h3
                obtain ⟨a, ha, halt⟩ := HSU2.out.at
                obtain ⟨o, ho, hor⟩ := HSU2.out.step (x := x) HI5.out.le HALL.out (by omega) ha
                have hst := HI5.out.dw.stepF ha halt
                rw [ho] at hst
                have HST := Lib.hid hst
                have HOR := Lib.hid hor
                clear hst hor ho ha
                go_wp2_with fail
                refine HST.out.mono ?_
                rintro r x1 ⟨rfl, B, hD, hF⟩
                obtain ⟨hin, hsn⟩ := HI5.out.moved hF
                have HN : Hid (DSI w x1 wb (wb + 1) gb db ib sb j B e x (k + 1) (D.step (x a) (e a)) seen2) := Lib.hid { dw := { hD with cnt := { hD.cnt with be := fun v hv => Nat.le_succ_of_le (hD.cnt.be v hv), bx := fun v hv => Nat.le_succ_of_le (hD.cnt.bx v hv) } }, hin := hin, hsn := hsn, le := HI5.out.le, q1 := HI5.out.q1, q2 := HI5.out.q2, q3 := HI5.out.q3 }
                clear hD hF hin hsn c0 HST
                go_wp2_with fail
                go_roundw
                case rel => exact ⟨o, k + 1, B, _, _, _, _, rfl, by go_num, by omega, HN.out, HOR.out⟩
                case measure => simp [intOf]; omega
        · have l1 : ¬ (k : Int) < zs.length := by omega
          have hcl : D.clear = false ∧ D.busy = true := by obtain ⟨a, sec, out, rfl, _⟩ := HSU.out; exact ⟨rfl, rfl⟩
          have hc := dClear_any HI4.out.dw.dr
          have hb := dBusy_any HI4.out.dw.dr
          rw [hcl.1] at hc
          rw [hcl.2] at hb
          have HCL := Lib.hid hc
          have HBU := Lib.hid hb
          clear hc hb hcl
          go_wp2_with fail
          refine HCL.out.mono ?_
          rintro r x1 ⟨rfl, rfl⟩
          go_wp2_with fail
          refine HBU.out.mono ?_
          rintro r x1 ⟨rfl, rfl⟩
          go_wp2_with fail
          refine (dawake _).mono ?_
          rintro r x2 ⟨rfl, hF⟩
          have HF := Lib.hid (HI4.out.dw.frm.trans hF)
          clear hF
          go_wp2
          go_ret
          exact ⟨rfl, HF.out.below (by omega) (by simp)⟩
      · obtain ⟨⟨out, rfl⟩, hall⟩ := hov
        have HALL := Lib.hid hall
        clear hall
        rcases Nat.lt_or_ge k zs.length with hkl | hkl
        all_goals
          first | (have l1 : (k : Int) < zs.length := by omega) | (have l1 : ¬ (k : Int) < zs.length := by omega)
          go_wp2_with fail
          go_loopw [16] (fun i wx => ∃ j : Nat, i = .int .i64 j ∧ j ≤ s ∧ DSI w wx wb (wb + 1) gb db ib sb s A e x k ⟨s, s, false, false, false, out, true⟩ seen) (fun i _ => s - (intOf i).toNat)
          case atStart => exact ⟨0, rfl, Nat.zero_le _, HI4.out⟩
          case round =>
            obtain ⟨j, rfl, hj, hI⟩ := hrel
            have HI5 := Lib.hid hI
            clear hI HI4
            by_cases hlt2 : j < s
            · have l2 : (j : Int) < s := by omega
              have c1 := HI5.out.hsn.cell (seenC_get s seen hlt2)
              rw [HALL.out j hlt2] at c1
              go_wp2_with fail
              go_roundw
              case rel => exact ⟨j + 1, by go_num, by omega, HI5.out⟩
              case measure => simp [intOf]; omega
            · have l2 : ¬ (j : Int) < s := by omega
              have hc := dClear_any HI5.out.dw.dr
              have hb := dBusy_any HI5.out.dw.dr
              have ha := dAt_any HI5.out.dw.dr
              simp only at hc hb ha
              have HCL := Lib.hid hc
              have HBU := Lib.hid hb
              have HAA := Lib.hid ha
              clear hc hb ha
              go_wp2_with fail
              refine HCL.out.mono ?_
              rintro r x1 ⟨rfl, rfl⟩
              go_wp2_with fail
              refine HBU.out.mono ?_
              rintro r x1 ⟨rfl, rfl⟩
              go_wp2_with fail
              refine HAA.out.mono ?_
              rintro r x1 ⟨rfl, rfl⟩
              go_wp2_with fail
              refine (dawake _).mono ?_
              rintro r x2 ⟨rfl, hF⟩
              have HF := Lib.hid (HI5.out.dw.frm.trans hF)
              clear hF
              go_wp2
              go_ret
              exact ⟨rfl, HF.out.below (by omega) (by simp)⟩

theorem drainSure_walk (n : Int) (v : Value) (zs : List Int) (w : World) (hn : U8 n) (h : IsRow .u8 w v zs) :
    Calls Try.prog 9 #[.int .u8 n, v] w fun e w' => e = .returned (.bool true) ∧ Below w.heap.size w w' := by
  by_cases hl : zs.length ≤ 100
  · exact drainSure_short n v zs w hn h hl
  · exact drainSure_long n v zs w h (by omega)

end Go.Proofs.Ytakhhbemnodahaa
