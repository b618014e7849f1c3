/- The contracts of malthus: New, Most; and the law's steps. -/
import Derived.Test.YtacogelejffbhaaMalAll
import Derived.Test.YtacogelejffbhaaTopoAll
namespace Go.Proofs.Ytacogelejffbhaa
open Go.RowKit

theorem right_any (w : World) (b : Int) : Calls Try.prog 49 #[.int .i64 b] w fun e w' => e = .returned (.bool (decide (0 ≤ b ∧ b ≤ 1000))) ∧ w = w' := by
  by_cases h0 : 0 ≤ b
  · by_cases h1 : b ≤ 1000
    · have d0 : decide (0 ≤ b) = true := by simpa using h0
      have d1 : decide (b ≤ 1000) = true := by simpa using h1
      rw [decide_eq_true (show 0 ≤ b ∧ b ≤ 1000 from ⟨h0, h1⟩)]
      clear h0 h1
      go_enter Try.func49, Try.ntmps49
      go_wp2
      go_ret
      exact ⟨rfl, rfl⟩
    · have d0 : decide (0 ≤ b) = true := by simpa using h0
      have d1 : decide (b ≤ 1000) = false := by simpa using h1
      rw [decide_eq_false (show ¬ (0 ≤ b ∧ b ≤ 1000) by omega)]
      clear h0 h1
      go_enter Try.func49, Try.ntmps49
      go_wp2
      go_ret
      exact ⟨rfl, rfl⟩
  · have d0 : decide (0 ≤ b) = false := by simpa using h0
    rw [decide_eq_false (show ¬ (0 ≤ b ∧ b ≤ 1000) by omega)]
    clear h0
    go_enter Try.func49, Try.ntmps49
    go_wp2
    go_ret
    exact ⟨rfl, rfl⟩
/-- how many others enter at most from a thread's doorway to its entry -/
def mMost (n b : Int) : Int := if n < 1 ∨ 32 < n ∨ ¬ (0 ≤ b ∧ b ≤ 1000) then 0 else n * (n + b + 2)
theorem most_any (w : World) (n b : Int) : Calls Try.prog 32 #[.int .i64 n, .int .i64 b] w fun e w' => e = .returned (.int .i64 (mMost n b)) ∧ w = w' := by
  have HR := Lib.hid (right_any w b)
  unfold mMost
  by_cases h1 : n < 1
  · rw [if_pos (.inl h1)]
    have d1 : decide (n < 1) = true := by simpa using h1
    clear h1
    go_enter Try.func32, Try.ntmps32
    go_wp2
    go_ret
    exact ⟨rfl, rfl⟩
  have d1 : decide (n < 1) = false := by simpa using h1
  by_cases h2 : 32 < n
  · rw [if_pos (.inr (.inl h2))]
    have d2 : decide (32 < n) = true := by simpa using h2
    clear h1 h2
    go_enter Try.func32, Try.ntmps32
    go_wp2
    go_ret
    exact ⟨rfl, rfl⟩
  have d2 : decide (32 < n) = false := by simpa using h2
  by_cases h3 : 0 ≤ b ∧ b ≤ 1000
  · rw [if_neg (by omega)]
    rw [decide_eq_true h3] at HR
    have m0 : 0 ≤ n * (n + b + 2) := Int.mul_nonneg (by omega) (by omega)
    have m1 : n * (n + b + 2) ≤ 32 * (n + b + 2) := Int.mul_le_mul_of_nonneg_right (by omega) (by omega)
    have q1 : wrap64 (n * (n + b + 2)) = n * (n + b + 2) := by unfold wrap64; omega
    obtain ⟨b0, b1⟩ := h3
    have n1 : 1 ≤ n := by omega
    have n2 : n ≤ 32 := by omega
    clear h1 h2 m0 m1
    have HQ := Lib.hid q1
    clear q1
    go_enter Try.func32, Try.ntmps32
    go_wp2_with fail
    refine HR.out.mono ?_
    rintro e w' ⟨rfl, rfl⟩
    go_wp2
    go_ret
    exact ⟨ret_int (by first | exact HQ.out | rfl), rfl⟩
  · rw [if_pos (.inr (.inr h3))]
    rw [decide_eq_false h3] at HR
    clear h1 h2 h3
    go_enter Try.func32, Try.ntmps32
    go_wp2_with fail
    refine HR.out.mono ?_
    rintro e w' ⟨rfl, rfl⟩
    go_wp2
    go_ret
    exact ⟨rfl, rfl⟩
section
variable {w : World} {ab wb b1 b2 : Nat} {A : AR} {v u : Value} {P T : List Int} {bud : Int}
theorem mNew_bud (hx : RowAt w b1 v P) (hy : RowAt w b2 u T) (hok : TOk P T) (p : Option Addr) (hb : ¬ (0 ≤ bud ∧ bud ≤ 1000)) :
    Calls Try.prog 44 #[.pointer p, .agg #[v, u], .int .i64 bud] w fun e w' => e = .returned (.tuple #[.pointer none, .int .i64 1]) ∧ Frm [] w w' := by
  have HC := Lib.hid (fun (W : World) (hf : Frm [] w W) => pCheck_ok W (hx.frm hf (by simp)) (hy.frm hf (by simp)) hok)
  have HR := Lib.hid (fun W => right_any W bud)
  rw [decide_eq_false hb] at HR
  obtain ⟨a, cap, rfl, -, -⟩ := hx
  obtain ⟨a', cap', rfl, -, -⟩ := hy
  clear hok hb
  go_enter Try.func44, Try.ntmps44
  go_wp2_with fail
  refine (HC.out _ ((Frm.refl _ _).alloc _)).mono ?_
  rintro e w1 ⟨rfl, hF⟩
  have HF := Lib.hid (((Frm.refl [] w).alloc (.cells #[.slice a P.length cap, .slice a' T.length cap'] 58)).trans hF)
  clear hF
  go_wp2_with fail
  refine (HR.out _).mono ?_
  rintro e w' ⟨rfl, rfl⟩
  go_wp2
  go_ret2
  exact ⟨rfl, HF.out⟩
theorem take_ok {A : AR} {k : Nat} (h : A.taken + k ≤ A.ws.length) : A.takeE k = 0 ∧ A.takeN k = (A.taken : Int) + 1 ∧ A.take k = { A with taken := A.taken + k } := by
  have h1 : A.takeE k = 0 := by unfold AR.takeE; rw [if_neg (by omega), if_neg (by omega)]
  exact ⟨h1, by unfold AR.takeN; rw [if_pos h1], by unfold AR.take; rw [if_pos h1]; simp⟩
set_option maxRecDepth 100000 in
set_option maxHeartbeats 2000000 in
theorem mNew_ok (hA : ArAt w ab wb A) (hx : RowAt w b1 v P) (hy : RowAt w b2 u T) (hok : TOk P T) (hb : 0 ≤ bud ∧ bud ≤ 1000) (hr : A.taken + (4 + 3 * T.length) ≤ A.ws.length) (hz : ∀ i : Int, (A.taken : Int) + 1 ≤ i → ({ A with taken := A.taken + (4 + 3 * T.length) } : AR).get i = 0) (ht : A.taken ≤ 3000) :
    Calls Try.prog 44 #[.pointer (some ⟨ab, 0, none⟩), .agg #[v, u], .int .i64 bud] w fun e w' => ∃ lb sb bb, e = .returned (.tuple #[.pointer (some ⟨lb, 0, none⟩), .int .i64 0]) ∧ w.heap.size ≤ lb ∧ w.heap.size ≤ sb ∧ w.heap.size ≤ bb ∧
      MLk w' lb sb bb ab wb (A.taken + 1) (A.taken + 1 + 2 + 2 * T.length) T.length bud ⟨{ A with taken := A.taken + (4 + 3 * T.length) }, ⟨0, 0, 0, 0⟩, 0, fun _ _ => 0⟩ ∧
      MInv (A.taken + 1) (A.taken + 1 + 2 + 2 * T.length) T.length ⟨{ A with taken := A.taken + (4 + 3 * T.length) }, ⟨0, 0, 0, 0⟩, 0, fun _ _ => 0⟩ ∧ Frm [ab, wb] w w' := by
  have HC := Lib.hid (fun (W : World) (hf : Frm [] w W) => pCheck_ok W (hx.frm hf (by simp)) (hy.frm hf (by simp)) hok)
  have HR := Lib.hid (fun W => right_any W bud)
  rw [decide_eq_true hb] at HR
  obtain ⟨s1, s2, s3, s4⟩ := hok.size
  obtain ⟨a, cap, rfl, -, -⟩ := hx
  obtain ⟨a', cap', rfl, -, -⟩ := hy
  have HZ := Lib.hid hz
  have HBD := Lib.hid hb
  have mk := mkSpots T.length (by omega)
  generalize hn : T.length = n at *
  obtain ⟨t1, t2, t3⟩ := take_ok (A := A) (k := 2 + 2 * n) (by omega)
  obtain ⟨t4, t5, t6⟩ := take_ok (A := { A with taken := A.taken + (2 + 2 * n) }) (k := 2 + n) (by show A.taken + (2 + 2 * n) + (2 + n) ≤ A.ws.length; omega)
  have hab := hA.box.lt
  have hwb := hA.row.lt
  have HA := Lib.hid hA
  have T1 := Lib.hid (And.intro t1 (And.intro t2 t3))
  have T4 := Lib.hid (And.intro t4 (And.intro t5 t6))
  have HRM := Lib.hid hr
  have HTT := Lib.hid ht
  clear hok hb hz hA hn t1 t2 t3 t4 t5 t6 hr ht
  go_enter Try.func44, Try.ntmps44
  go_wp2_with fail
  refine (HC.out _ ((Frm.refl _ _).alloc _)).mono ?_
  rintro e w1 ⟨rfl, hF⟩
  have k1 := ((HAt.new w #[.slice a P.length cap, .slice a' n cap'] 58).frm hF (by simp)).cell (i := 1) rfl
  have hf1 := ((Frm.refl [] w).alloc (.cells #[.slice a P.length cap, .slice a' n cap'] 58)).trans hF
  have HA1 := Lib.hid (HA.out.frm hf1 (by simp) (by simp))
  have HF := Lib.hid hf1
  clear hF hf1
  go_wp2_with fail
  refine (HR.out _).mono ?_
  rintro e w' ⟨rfl, rfl⟩
  have hT := Take_any HA1.out (2 + 2 * (n : Int))
  have ec : (2 + 2 * (n : Int)) = ((2 + 2 * n : Nat) : Int) := by omega
  rw [ec, T1.out.1, T1.out.2.1, T1.out.2.2, ← ec] at hT
  have HTK := Lib.hid hT
  clear hT ec
  go_wp2_with fail
  refine HTK.out.mono ?_
  rintro e w2 ⟨rfl, hA2, hF⟩
  have HF2 := Lib.hid ((HF.out.mono (S' := [ab, wb]) (by simp)).trans hF)
  have HB := Lib.hid (bNew_ok hA2 n (by omega) (by omega) (by have := T4.out.1; rw [show ((2 + n : Nat) : Int) = 2 + (n : Int) by omega] at this; exact this))
  have hs2 := HF2.out.size
  clear hF hA2
  go_wp2_with fail
  refine HB.out.mono ?_
  rintro e w3 ⟨bb, rfl, hbb, hB, hA3, hF⟩
  have HF3 := Lib.hid (HF2.out.trans hF)
  have e6 : ({ A with taken := A.taken + (2 + 2 * n) } : AR).take (2 + (n : Int)) = { A with taken := A.taken + (4 + 3 * n) } := by
    have := T4.out.2.2; rw [show ((2 + n : Nat) : Int) = 2 + (n : Int) by omega] at this
    rw [this]
    show ({ A with taken := A.taken + (2 + 2 * n) + (2 + n) } : AR) = _
    rw [show A.taken + (2 + 2 * n) + (2 + n) = A.taken + (4 + 3 * n) by omega]
  rw [e6] at hA3
  have HA3 := Lib.hid hA3
  have HB3 := Lib.hid (show BnAt w3 bb ab (A.taken + 1 + 2 + 2 * n) n ⟨0, 0, 0, 0⟩ by have := hB; rwa [show (A.taken + (2 + 2 * n)) + 1 = A.taken + 1 + 2 + 2 * n by omega] at this)
  have hs3 := HF3.out.size
  have hbl := hB.box.lt
  clear hF hA3 hB
  clear e6
  go_wp2
  go_ret2
  have ht := HTT.out
  have hr := HRM.out
  have g1 := HAt.new w3 (spC n (fun _ _ => 0)).toArray 64
  have g2 := HAt.new (w3.alloc (.cells (spC n (fun _ _ => 0)).toArray 64)) #[.pointer (some ⟨ab, 0, none⟩), .int .i64 ((A.taken : Int) + 1), .int .i64 bud, .pointer (some ⟨bb, 0, none⟩), .int .i64 0, .slice (some ⟨w3.heap.size, 0, none⟩) n n] 89
  have hf : Frm [] w3 ((w3.alloc (.cells (spC n (fun _ _ => 0)).toArray 64)).alloc (.cells #[.pointer (some ⟨ab, 0, none⟩), .int .i64 ((A.taken : Int) + 1), .int .i64 bud, .pointer (some ⟨bb, 0, none⟩), .int .i64 0, .slice (some ⟨w3.heap.size, 0, none⟩) n n] 89)) := ((Frm.refl _ _).alloc _).alloc _
  refine ⟨w3.heap.size + 1, w3.heap.size, bb, by simp, by omega, by omega, by omega, ?_, ?_, HF3.out.trans (hf.mono (by simp))⟩
  · exact { box := by simpa using g2, row := by simpa using g1.alloc _, bn := HB3.out.frm hf (by simp), ar := HA3.out.frm hf (by simp) (by simp), ne := by omega, n1 := by omega, n32 := by omega, tb := by omega, b0 := HBD.out.1, b1 := HBD.out.2 }
  · exact MInv.new _ { fe := by omega, tk := by show A.taken + (4 + 3 * n) = _; omega, ln := HRM.out, t1 := by omega, tb := by omega, nb := s4 } (fun i hi => HZ.out i (by omega)) s3
end
/-- the law's steps: at most k, until one says that the thread holds, or rests -/
def mSt (tail first n : Nat) (bud : Int) : Nat → MS → Int → Bool × MS
  | 0, m, _ => (false, m)
  | k + 1, m, i => if mStepIR tail first n bud m i then (true, mStepI tail first n bud m i) else mSt tail first n bud k (mStepI tail first n bud m i) i
section
variable {w w' : World} {lb sb bb ab wb tail first n : Nat} {bud : Int} {m : MS}
theorem mSt_inv : ∀ (k : Nat) {m : MS} (_ : MInv tail first n m) (i : Int), MInv tail first n (mSt tail first n bud k m i).2
  | 0, _, h, _ => h
  | k + 1, _, h, i => by
    unfold mSt
    split
    · exact h.stepI i
    · exact mSt_inv k (h.stepI i) i
theorem mSt_any (h : MLk w lb sb bb ab wb tail first n bud m) (hm : MInv tail first n m) (i : Int) (k : Nat) (hk : k ≤ 1000) : Calls Try.prog 46 #[.pointer (some ⟨lb, 0, none⟩), .int .i64 i, .int .i64 k] w fun e w' => e = .returned (.bool (mSt tail first n bud k m i).1) ∧
    MLk w' lb sb bb ab wb tail first n bud (mSt tail first n bud k m i).2 ∧ Frm [lb, sb, bb, ab, wb] w w' := by
  have H := Lib.hid h
  have HM := Lib.hid hm
  generalize hr : mSt tail first n bud k m i = r
  have HR := Lib.hid hr
  clear h hm hr
  go_enter Try.func46, Try.ntmps46
  go_wp2_with fail
  go_loopw [7] (fun iv wx => ∃ (q : Nat) (m' : MS), iv = .int .i64 q ∧ q ≤ k ∧ mSt tail first n bud (k - q) m' i = r ∧ MInv tail first n m' ∧ MLk wx lb sb bb ab wb tail first n bud m' ∧ Frm [lb, sb, bb, ab, wb] w wx) (fun iv _ => k - (intOf iv).toNat)
  case atStart => exact ⟨0, m, rfl, by omega, HR.out, HM.out, H.out, Frm.refl _ _⟩
  case round =>
    obtain ⟨q, m', rfl, hq, hr, hi, hL, hF⟩ := hrel
    have HRR := Lib.hid hr
    have HI := Lib.hid hi
    have HL := Lib.hid hL
    have HF := Lib.hid hF
    clear hr hi hL hF
    by_cases hlt : q < k
    · have e0 : decide ((q : Int) < k) = true := by simpa using hlt
      have e0' : decide (q < k) = true := by simpa using hlt
      have hs := mStep_any HL.out i (fun j hj => HI.out.pc j hj)
      cases hb : mStepIR tail first n bud m' i with
      | true =>
        rw [hb] at hs
        have hx : r = (true, mStepI tail first n bud m' i) := by
          have := HRR.out
          rw [show k - q = (k - (q + 1)) + 1 by omega] at this
          unfold mSt at this
          rw [hb, if_pos rfl] at this
          exact this.symm
        have HX := Lib.hid hx
        have HS := Lib.hid hs
        clear hb hs hx
        go_wp2_with fail
        refine HS.out.mono ?_
        rintro e w1 ⟨rfl, hL, hF⟩
        have HL1 := Lib.hid hL
        have HF1 := Lib.hid (HF.out.trans hF)
        clear hL hF
        go_wp2
        go_ret
        exact ⟨ret_bool (by rw [HX.out]), by rw [HX.out]; exact HL1.out, HF1.out⟩
      | false =>
        rw [hb] at hs
        have hx : mSt tail first n bud (k - (q + 1)) (mStepI tail first n bud m' i) i = r := by
          have := HRR.out
          rw [show k - q = (k - (q + 1)) + 1 by omega] at this
          unfold mSt at this
          rw [hb, if_neg (by simp)] at this
          exact this
        have HX := Lib.hid hx
        have HS := Lib.hid hs
        have HI2 := Lib.hid (HI.out.stepI (bud := bud) i)
        clear hb hs hx
        go_wp2_with fail
        refine HS.out.mono ?_
        rintro e w1 ⟨rfl, hL, hF⟩
        have HL1 := Lib.hid hL
        have HF1 := Lib.hid (HF.out.trans hF)
        clear hL hF
        go_wp2_with fail
        go_roundw
        case rel => exact ⟨q + 1, _, by go_num, by omega, HX.out, HI2.out, HL1.out, HF1.out⟩
        case measure => simp [intOf]; omega
    · have e0 : decide ((q : Int) < k) = false := by simpa using hlt
      have e0' : decide (q < k) = false := by simpa using hlt
      have hx : r = (false, m') := by
        have := HRR.out
        rw [show k - q = 0 by omega] at this
        exact this.symm
      have HX := Lib.hid hx
      clear hx
      go_wp2
      go_ret
      exact ⟨ret_bool (by rw [HX.out]), by rw [HX.out]; exact HL.out, HF.out⟩
end
end Go.Proofs.Ytacogelejffbhaa
