/- The walk of the law MalthusAll. -/
import Derived.Test.YtacogelejffbhaaMalOne
import Derived.Test.YtacogelejffbhaaMalLive
namespace Go.Proofs.Ytacogelejffbhaa
open Go.RowKit

section
variable {w0 w w1 : World} {tb : Nat} {TV : List Value} {lb sb bb ab wb n : Nat} {bud : Int} {m m' : MS}
theorem MWI.step_ (h : MWI w0 w tb TV lb sb bb ab wb n bud m) (i : Int) : Calls Try.prog 33 #[.pointer (some ⟨lb, 0, none⟩), .int .i64 i] w fun e w' => (∃ b, e = .returned (.bool b)) ∧ MWI w0 w' tb TV lb sb bb ab wb n bud (mStepI 1 (3 + 2 * n) n bud m i) :=
  (mStep_any h.lk i (fun j hj => h.inv.pc j hj)).mono fun _ _ ⟨h1, h2, h3⟩ => ⟨⟨_, h1⟩, h.move (fun _ hk => hk) h3 h2 (h.inv.stepI i)⟩
theorem MWI.leave_ (h : MWI w0 w tb TV lb sb bb ab wb n bud m) (i : Int) : Calls Try.prog 34 #[.pointer (some ⟨lb, 0, none⟩), .int .i64 i] w fun e w' => (∃ b, e = .returned (.bool b)) ∧ MWI w0 w' tb TV lb sb bb ab wb n bud (mBeg n m i 10 11) :=
  (mLeave_any h.lk i).mono fun _ _ ⟨h1, h2, h3⟩ => ⟨⟨_, h1⟩, h.move (fun _ hk => by simp at hk ⊢; exact .inr (.inl hk)) h3 h2 (h.inv.leave i)⟩
end
theorem malthusAll_none (v u : Value) (n : Int) (lv : Value) (P T : List Int) (acts : List (Int × Int)) (w : World) (hx : RowAt w 0 v P) (hy : RowAt w 0 u T) (h : ActsAt w lv acts) (hs : ¬ tSmall P T 8) :
    Calls Try.prog 7 #[.agg #[v, u], .int .u8 n, lv] w fun e w' => e = .returned (.bool true) ∧ Below w.heap.size w w' := by
  have HM := Lib.hid (fun (W : World) (hf : Frm [] w W) => made_no (hx.frm hf (by simp)) (hy.frm hf (by simp)) hs n)
  have HS := Lib.hid (fun (W : World) (hf : Frm [] w W) => Small_any W (hx.frm hf (by simp)) (hy.frm hf (by simp)) 6)
  have HN := Lib.hid (show ¬ tSmall P T 6 from fun h6 => hs ⟨h6.1, by have := h6.2; omega⟩)
  obtain ⟨a, cap, rfl, hlm, -, -⟩ := h
  obtain ⟨a1, cap1, rfl, -, -⟩ := hx
  obtain ⟨a2, cap2, rfl, -, -⟩ := hy
  unfold maxLen at hlm
  clear hs
  by_cases hl : acts.length ≤ 100
  · have d1 : decide ((100 : Int) < acts.length) = false := by simp; omega
    have d3 : decide (100 < acts.length) = false := by simp; omega
    go_enter Try.func7, Try.ntmps7
    go_wp2_with fail
    refine (HM.out _ ((Frm.refl _ _).alloc _)).mono ?_
    rintro e w1 ⟨rfl, hF⟩
    have HF := Lib.hid (((Frm.refl [] w).alloc (.cells #[.slice a1 P.length cap1, .slice a2 T.length cap2] 58)).trans hF)
    have g := (HAt.new w #[.slice a1 P.length cap1, .slice a2 T.length cap2] 58).frm hF (by simp)
    have k0 := g.cell (i := 0) rfl
    have k1 := g.cell (i := 1) rfl
    clear hF g
    go_wp2_with fail
    refine (HS.out _ HF.out).mono ?_
    rintro e w2 ⟨r, rfl, hr, hF⟩
    obtain rfl : r = false := by cases r with | false => rfl | true => exact absurd (hr.1 rfl) HN.out
    have HF2 := Lib.hid (HF.out.trans hF)
    clear hF hr k0 k1
    go_wp2_with fail
    refine (mawake _).mono ?_
    rintro e w3 ⟨rfl, hF⟩
    have HF3 := Lib.hid (HF2.out.trans hF)
    clear hF
    go_wp2
    go_ret
    exact ⟨rfl, HF3.out.below (Nat.le_refl _) (by simp)⟩
  · have d1 : decide ((100 : Int) < acts.length) = true := by simp; omega
    have d3 : decide (100 < acts.length) = true := by simp; omega
    go_enter Try.func7, Try.ntmps7
    go_wp2_with fail
    refine (HM.out _ ((Frm.refl _ _).alloc _)).mono ?_
    rintro e w1 ⟨rfl, hF⟩
    have HF := Lib.hid (((Frm.refl [] w).alloc (.cells #[.slice a1 P.length cap1, .slice a2 T.length cap2] 58)).trans hF)
    clear hF
    go_wp2_with fail
    refine (mawake _).mono ?_
    rintro e w3 ⟨rfl, hF⟩
    have HF3 := Lib.hid (HF.out.trans hF)
    clear hF
    go_wp2
    go_ret
    exact ⟨rfl, HF3.out.below (Nat.le_refl _) (by simp)⟩
set_option maxRecDepth 100000 in
set_option maxHeartbeats 8000000 in
theorem malthusAll_some (v u : Value) (n : Int) (lv : Value) (P T : List Int) (acts : List (Int × Int)) (w : World) (hn : U8 n) (hx : RowAt w 0 v P) (hy : RowAt w 0 u T) (h : ActsAt w lv acts) (hs : tSmall P T 8) :
    Calls Try.prog 7 #[.agg #[v, u], .int .u8 n, lv] w fun e w' => e = .returned (.bool true) ∧ Below w.heap.size w w' := by
  have HM := Lib.hid (fun (W : World) (hf : Frm [] w W) => made_ok (hx.frm hf (by simp)) (hy.frm hf (by simp)) hs n hn)
  have HS := Lib.hid (fun (W : World) (hf : Frm [] w W) => Small_any W (hx.frm hf (by simp)) (hy.frm hf (by simp)) 6)
  have hT8 := hs.2
  obtain ⟨a, cap, rfl, hlm, hc, -⟩ := h
  unfold maxLen at hlm
  have HC := Lib.hid hc
  obtain ⟨a1, cap1, rfl, -, -⟩ := hx
  obtain ⟨a2, cap2, rfl, -, -⟩ := hy
  clear hs hn hc
  generalize hd : decide ((100 : Int) < acts.length) = big
  have hd' : decide (100 < acts.length) = big := by rw [← hd]; exact decide_eq_decide.2 (by omega)
  have HD := Lib.hid hd
  go_enter Try.func7, Try.ntmps7
  go_wp2_with fail
  refine (HM.out _ ((Frm.refl _ _).alloc _)).mono ?_
  rintro e w1 ⟨lb, sb, bb, ab, wb, rfl, hlb, hsb, hbb, hab, hwb, hL, hI, hF⟩
  have g := (HAt.new w #[.slice a1 P.length cap1, .slice a2 T.length cap2] 58).frm hF (by simp)
  have hf := ((Frm.refl [] w).alloc (.cells #[.slice a1 P.length cap1, .slice a2 T.length cap2] 58)).trans hF
  simp at hlb hsb hbb hab hwb
  have HI := Lib.hid (show MWI w w1 w.heap.size [.slice a1 P.length cap1, .slice a2 T.length cap2] lb sb bb ab wb T.length (n % 4) ⟨{ AR.fresh 4096 with taken := 4 + 3 * T.length }, ⟨0, 0, 0, 0⟩, 0, fun _ _ => 0⟩ from ⟨hL, hI, hf, fun k hk => by simp at hk; omega, g, fun hk => by simp at hk; omega⟩)
  have k0 := g.cell (i := 0) rfl
  have k1 := g.cell (i := 1) rfl
  clear hF hL hI hf g hlb hsb hbb hab hwb HM
  generalize n % 4 = bud at *
  generalize (⟨{ AR.fresh 4096 with taken := 4 + 3 * T.length }, ⟨0, 0, 0, 0⟩, 0, fun _ _ => 0⟩ : MS) = ms0 at *
  cases big with
  | true =>
    go_wp2_with fail
    refine (mawake _).mono ?_
    rintro e w3 ⟨rfl, hF⟩
    have HF3 := Lib.hid (HI.out.frm.trans hF)
    clear hF
    go_wp2
    go_ret
    exact ⟨rfl, HF3.out.below (Nat.le_refl _) (by simp)⟩
  | false =>
    have hl : acts.length ≤ 100 := by have := HD.out; simp at this; omega
    go_wp2_with fail
    refine (HS.out _ HI.out.frm).mono ?_
    rintro e w2 ⟨r, rfl, hr, hF⟩
    have HI2 := Lib.hid (HI.out.kept hF)
    have HR := Lib.hid hr
    clear hF hr k0 k1 HI hd hd'
    cases r with
    | false =>
      go_wp2_with fail
      refine (mawake _).mono ?_
      rintro e w3 ⟨rfl, hF⟩
      have HF3 := Lib.hid (HI2.out.frm.trans hF)
      clear hF
      go_wp2
      go_ret
      exact ⟨rfl, HF3.out.below (Nat.le_refl _) (by simp)⟩
    | true =>
      have hT6 : T.length ≤ 6 := (HR.out.1 rfl).2
      clear HR HS
      generalize hq : T.length = q at *
      clear hq
      go_wp2_with fail
      go_loopw [10] (fun iv wx => ∃ (k : Nat) (m : MS), iv = .int .i64 k ∧ k ≤ acts.length ∧ MWI w wx w.heap.size [.slice a1 P.length cap1, .slice a2 q cap2] lb sb bb ab wb q bud m) (fun iv _ => acts.length - (intOf iv).toNat)
      case atStart => exact ⟨0, ms0, rfl, Nat.zero_le _, HI2.out⟩
      case round =>
        obtain ⟨k, m, rfl, hk, hI⟩ := hrel
        have HI1 := Lib.hid hI
        clear hI HI2
        by_cases hlt : k < acts.length
        · obtain ⟨b, off, rfl, hb, hcell⟩ := HC.out (by omega)
          have ex : acts[k]? = some acts[k] := by simp
          have l1 : (k : Int) < acts.length := by omega
          have e0 : decide ((k : Int) < acts.length) = true := by simpa using hlt
          have e0' : decide (k < acts.length) = true := by simpa using hlt
          have v0 := HI1.out.frm.cell (hcell k _ ex).1 (by simp)
          have v1 := HI1.out.frm.cell (hcell k _ ex).2 (by simp)
          clear hcell ex
          generalize acts[k] = x at *
          obtain ⟨kind, i⟩ := x
          simp only at v0 v1
          go_wp2_with fail
          refine (HI1.out.do_ kind i).mono ?_
          rintro e w3 ⟨⟨bx, rfl⟩, hI⟩
          have HI3 := Lib.hid hI
          clear hI v0 v1
          go_wp2_with fail
          go_roundw
          case rel => exact ⟨k + 1, _, by go_num, by omega, HI3.out⟩
          case measure => simp [intOf]; omega
        · have e0 : decide ((k : Int) < acts.length) = false := by simpa using hlt
          have e0' : decide (k < acts.length) = false := by simpa using hlt
          have k0 := HI1.out.top.cell (i := 0) rfl
          have k1 := HI1.out.top.cell (i := 1) rfl
          have HB0 := Lib.hid HI1.out.lk.bn.st.1
          have HV := Lib.hid HI1.out.inv
          clear hlt hk
          go_wp2_with fail
          go_loopw [12] (fun iv wx => ∃ r : Nat, iv = .int .i64 r ∧ r ≤ 60 * (q + 1) ∧ MWI w wx w.heap.size [.slice a1 P.length cap1, .slice a2 q cap2] lb sb bb ab wb q bud (mRuns 1 (3 + 2 * q) q bud r m)) (fun iv _ => 60 * (q + 1) - (intOf iv).toNat)
          case atStart => exact ⟨0, rfl, Nat.zero_le _, HI1.out⟩
          case round =>
            obtain ⟨r, rfl, hr, hI⟩ := hrel
            have HI4 := Lib.hid hI
            clear hI HI1 k0 k1
            by_cases hrl : r < 60 * (q + 1)
            · have e0 : decide ((r : Int) < 60 * ((q : Int) + 1)) = true := by simp; omega
              have e0' : decide (r < 60 * (q + 1)) = true := by simpa using hrl
              go_wp2_with fail
              go_loopw [13] (fun iv wx => ∃ i : Nat, iv = .int .i64 i ∧ i ≤ q ∧ MWI w wx w.heap.size [.slice a1 P.length cap1, .slice a2 q cap2] lb sb bb ab wb q bud (mRound 1 (3 + 2 * q) q bud i (mRuns 1 (3 + 2 * q) q bud r m))) (fun iv _ => q - (intOf iv).toNat)
              case atStart => exact ⟨0, rfl, Nat.zero_le _, HI4.out⟩
              case round =>
                obtain ⟨i, rfl, hi, hI⟩ := hrel
                have HI5 := Lib.hid hI
                clear hI HI4
                by_cases hil : i < q
                · have f0 : decide ((i : Int) < q) = true := by simpa using hil
                  have f0' : decide (i < q) = true := by simpa using hil
                  generalize hmr : mRound 1 (3 + 2 * q) q bud i (mRuns 1 (3 + 2 * q) q bud r m) = mr at *
                  have HMR := Lib.hid hmr
                  clear hmr
                  go_wp2_with fail
                  refine (HI5.out.step_ i).mono ?_
                  rintro e w3 ⟨⟨bx, rfl⟩, hI⟩
                  have HI6 := Lib.hid hI
                  clear hI
                  go_wp2_with fail
                  refine (HI6.out.leave_ i).mono ?_
                  rintro e w4 ⟨⟨bx2, rfl⟩, hI⟩
                  have HI7 := Lib.hid hI
                  clear hI
                  go_wp2_with fail
                  go_roundw
                  case rel => exact ⟨i + 1, by go_num, by omega, by show MWI _ _ _ _ _ _ _ _ _ _ _ (mTurn 1 (3 + 2 * q) q bud (mRound 1 (3 + 2 * q) q bud i (mRuns 1 (3 + 2 * q) q bud r m)) i); rw [HMR.out]; exact HI7.out⟩
                  case measure => simp [intOf]; omega
                · have f0 : decide ((i : Int) < q) = false := by simpa using hil
                  have f0' : decide (i < q) = false := by simpa using hil
                  obtain rfl : i = q := by omega
                  go_wp2_with fail
                  go_roundw
                  case rel => exact ⟨r + 1, by go_num, by omega, HI5.out⟩
                  case measure => simp [intOf]; omega
            · have e0 : decide ((r : Int) < 60 * ((q : Int) + 1)) = false := by simp; omega
              have e0' : decide (r < 60 * (q + 1)) = false := by simpa using hrl
              have HZ := Lib.hid (HV.out.rests (bud := bud) HB0.out (k := r) (by omega))
              generalize mRuns 1 (3 + 2 * q) q bud r m = mr at *
              clear hr hrl
              go_wp2_with fail
              go_loopw [14] (fun iv wx => ∃ i : Nat, iv = .int .i64 i ∧ i ≤ q ∧ MWI w wx w.heap.size [.slice a1 P.length cap1, .slice a2 q cap2] lb sb bb ab wb q bud mr) (fun iv _ => q - (intOf iv).toNat)
              case atStart => exact ⟨0, rfl, Nat.zero_le _, HI4.out⟩
              case round =>
                obtain ⟨i, rfl, hi, hI⟩ := hrel
                have HI5 := Lib.hid hI
                clear hI HI4
                by_cases hil : i < q
                · have f0 : decide ((i : Int) < q) = true := by simpa using hil
                  have f0' : decide (i < q) = true := by simpa using hil
                  have fd := spotPc
                  have HSP := Lib.hid (mSpot_any HI5.out.lk i)
                  have hsv : spV q mr.S i = .agg #[.int .i64 0, .int .i64 (mr.S i 1), .int .i64 (mr.S i 2), .int .i64 (mr.S i 3)] := by unfold spV sHas; rw [if_pos (by simpa using hil)]; simp [HZ.out i hil]
                  rw [hsv] at HSP
                  clear hsv
                  go_wp2_with fail
                  refine HSP.out.mono ?_
                  rintro e w3 ⟨rfl, hF⟩
                  have HI6 := Lib.hid (HI5.out.kept hF)
                  clear hF
                  go_wp2_with fail
                  go_roundw
                  case rel => exact ⟨i + 1, by go_num, by omega, HI6.out⟩
                  case measure => simp [intOf]; omega
                · have f0 : decide ((i : Int) < q) = false := by simpa using hil
                  have f0' : decide (i < q) = false := by simpa using hil
                  go_wp2_with fail
                  refine (mawake _).mono ?_
                  rintro e w5 ⟨rfl, hF5⟩
                  have HF5 := Lib.hid (HI5.out.frm.trans hF5)
                  clear hF5
                  go_wp2
                  go_ret
                  exact ⟨rfl, HF5.out.below (Nat.le_refl _) (by simp)⟩
theorem malthusAll_walk (v : Value) (PT : List Int × List Int) (n : Int) (lv : Value) (acts : List (Int × Int)) (w : World) (hT : TopoAt w v PT) (hn : U8 n) (h : ActsAt w lv acts) :
    Calls Try.prog 7 #[v, .int .u8 n, lv] w fun e w' => e = .returned (.bool true) ∧ Below w.heap.size w w' := by
  obtain ⟨v, u, rfl, hx, hy⟩ := hT
  by_cases hs : tSmall PT.1 PT.2 8
  · exact malthusAll_some v u n lv _ _ acts w hn hx hy h hs
  · exact malthusAll_none v u n lv _ _ acts w hx hy h hs
end Go.Proofs.Ytacogelejffbhaa
