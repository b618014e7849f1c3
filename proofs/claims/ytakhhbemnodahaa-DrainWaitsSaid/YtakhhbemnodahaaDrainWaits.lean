/- The walk of the law DrainWaits: it returns true, and writes nothing that was there. -/
import Derived.Test.YtakhhbemnodahaaDrainWorld
namespace Go.Proofs.Ytakhhbemnodahaa
open Go.RowKit

/-- so many at one node, none at others -/
def atN (k i : Nat) : Nat → Nat := fun j => if j = k then i else 0
theorem atN_zero (k : Nat) : atN k 0 = fun _ => 0 := by funext j; unfold atN; split <;> rfl
theorem atN_up (k i : Nat) : upN (atN k i) k = atN k (i + 1) := by funext j; unfold upN atN; split <;> rfl

/-- while somebody is in at node k: the drain when i steps are done -/
def waits (k s i : Nat) : DR := ⟨(min (i / 2) k : Nat), s, false, true, decide (i % 2 = 1), 0, false⟩
theorem waits_step {k s i r : Nat} (hk : k < s) (hs : s ≤ 32) (hr : 0 < r) :
    (waits k s i).step (0 : Nat) (atN k r (min (i / 2) k) : Nat) = waits k s (i + 1) ∧ (waits k s i).stepR (atN k r (min (i / 2) k) : Nat) = false := by
  rcases (by omega : i % 2 = 0 ∨ i % 2 = 1) with h | h
  · have h1 : ¬ i % 2 = 1 := by omega
    have h2 : (i + 1) % 2 = 1 := by omega
    have h6 : (i + 1) / 2 = i / 2 := by omega
    unfold waits
    rw [decide_eq_false h1, decide_eq_true h2, h6]
    exact DR.step_first _ _ _ _ _ _ _
  · have h2 : ¬ (i + 1) % 2 = 1 := by omega
    have h6 : (i + 1) / 2 = i / 2 + 1 := by omega
    unfold waits
    rw [decide_eq_true h, decide_eq_false h2, h6]
    by_cases hlt : i / 2 < k
    · have e1 : min (i / 2) k = i / 2 := by omega
      have e2 : min (i / 2 + 1) k = i / 2 + 1 := by omega
      have e3 : atN k r (i / 2) = 0 := by unfold atN; rw [if_neg (by omega)]
      rw [e1, e2, e3]
      exact DR.step_on (by omega) (by omega)
    · have e1 : min (i / 2) k = k := by omega
      have e2 : min (i / 2 + 1) k = k := by omega
      have e3 : atN k r k = r := by unfold atN; rw [if_pos rfl]
      rw [e1, e2, e3]
      exact DR.step_ne _ _ _ _ (by omega)

/-- how many steps there are still to do, when nobody is in any more -/
def todo (s a : Nat) (sec : Bool) (out : Int) (r : Int) : Nat := if sec then (if out = r then 2 * (s - a) - 1 else 2 * (s - a) + 1) else 2 * (s - a)

theorem todo_step {s a : Nat} {sec : Bool} {out : Int} (g : Nat → Int) (ha : a < s) (hs : s ≤ 32) :
    ∃ o D', DR.step ⟨a, s, false, true, sec, out, false⟩ (g a) (g a) = D' ∧ DR.stepR ⟨a, s, false, true, sec, out, false⟩ (g a) = o ∧
      ((o = true ∧ D'.clear = true) ∨ (o = false ∧ ∃ a' sec' out', D' = ⟨(a' : Nat), s, false, true, sec', out', false⟩ ∧ a ≤ a' ∧ a' < s ∧ todo s a' sec' out' (g a') + 1 ≤ todo s a sec out (g a))) := by
  cases sec with
  | false =>
    obtain ⟨h1, h2⟩ := DR.step_first a s false out false (g a) (g a)
    refine ⟨_, _, h1, h2, .inr ⟨rfl, a, true, g a, rfl, Nat.le_refl _, ha, ?_⟩⟩
    unfold todo; simp; omega
  | true =>
    by_cases hv : g a = out
    · by_cases he : a + 1 = s
      · obtain ⟨h1, h2⟩ := DR.step_end (a := a) (s := s) (vo := out) (out := out) (c := false) (by omega) he
        rw [hv]
        exact ⟨_, _, h1, h2, .inl ⟨rfl, rfl⟩⟩
      · obtain ⟨h1, h2⟩ := DR.step_on (a := a) (s := s) (vo := out) (out := out) (c := false) (by omega) he
        rw [hv]
        refine ⟨_, _, h1, h2, .inr ⟨rfl, a + 1, false, out, rfl, by omega, by omega, ?_⟩⟩
        unfold todo; simp; omega
    · obtain ⟨h1, h2⟩ := DR.step_ne a s out false (vo := g a) (vi := g a) hv
      refine ⟨_, _, h1, h2, .inr ⟨rfl, a, false, out, rfl, Nat.le_refl _, ha, ?_⟩⟩
      unfold todo; simp [Ne.symm hv]

theorem waits_begin {k s : Nat} (hs : 1 ≤ s) : DR.zero.begins 0 s false = waits k s 0 := by
  unfold DR.begins waits DR.zero
  rw [if_neg (by omega)]
  simp
theorem waits_end (k s t : Nat) : waits k s (2 * k + t) = ⟨(k : Nat), s, false, true, decide (t % 2 = 1), 0, false⟩ := by
  unfold waits
  rw [show min ((2 * k + t) / 2) k = k from by omega, show (2 * k + t) % 2 = t % 2 from by omega]

set_option maxRecDepth 100000 in
set_option maxHeartbeats 4000000 in
theorem drainWaits_walk (n0 n1 n2 n3 : Int) (w : World) (h0 : U8 n0) (h1 : U8 n1) (h2 : U8 n2) (h3 : U8 n3) :
    Calls Try.prog 10 #[.agg #[.int .u8 n0, .int .u8 n1, .int .u8 n2, .int .u8 n3]] w fun e w' => e = .returned (.bool true) ∧ Below w.heap.size w w' := by
  unfold U8 at h0 h1 h2 h3
  obtain ⟨h00, h01⟩ := h0
  obtain ⟨h10, h11⟩ := h1
  obtain ⟨h20, h21⟩ := h2
  obtain ⟨t, rfl⟩ := Int.eq_ofNat_of_zero_le h3.1
  obtain ⟨h30, h31⟩ := h3
  obtain ⟨q, hq, hq8⟩ : ∃ q : Nat, n0 % 8 = q ∧ q < 8 := ⟨(n0 % 8).toNat, by omega, by omega⟩
  obtain ⟨s, hs⟩ : ∃ s : Nat, 1 + (q : Int) = (s : Int) := ⟨1 + q, by omega⟩
  have s1 : 1 ≤ s := by omega
  have s8 : s ≤ 8 := by omega
  obtain ⟨m1, rfl⟩ := Int.eq_ofNat_of_zero_le h10
  obtain ⟨k, hk, hks⟩ : ∃ k : Nat, (m1 : Int) % (s : Int) = k ∧ k < s := ⟨m1 % s, by simp, Nat.mod_lt _ (by omega)⟩
  obtain ⟨q2, hq2, hq24⟩ : ∃ q : Nat, n2 % 4 = q ∧ q < 4 := ⟨(n2 % 4).toNat, by omega, by omega⟩
  obtain ⟨r, hr⟩ : ∃ r : Nat, 1 + (q2 : Int) = (r : Int) := ⟨1 + q2, by omega⟩
  have r1 : 1 ≤ r := by omega
  have r4 : r ≤ 4 := by omega
  have d2 : ((s : Int) == 0) = false := by simp; omega
  have d3 : (s : Int) ≠ 0 := by omega
  have hS := CntN.start (r := 64) s1 (by omega) (by omega)
  have HS1 := Lib.hid hS.1
  have HS2 := Lib.hid hS.2
  clear hS
  go_enter Try.func10, Try.ntmps10
  go_upto_region 2 with fail
  generalize hW : World.alloc _ _ = W
  have hb : HAt W w.heap.size [.int .u8 n0, .int .u8 m1, .int .u8 n2, .int .u8 t] 76 := by subst hW; exact HAt.new w _ _
  have hf : Frm [] w W := by subst hW; exact (Frm.refl _ _).alloc _
  have hsz : W.heap.size = w.heap.size + 1 := by subst hW; simp
  have c1 := hb.cell (i := 1) rfl
  have c2 := hb.cell (i := 2) rfl
  have c3 := hb.cell (i := 3) rfl
  have HF0 := Lib.hid hf
  have HSZ := Lib.hid hsz
  clear hW hb hf hsz
  go_quiet (fail)
  have HF1 := Lib.hid (HF0.out.drew nq)
  have HSZ1 : Hid ((W.drewN nq).heap.size = w.heap.size + 1) := Lib.hid HSZ.out
  generalize W.drewN nq = W1 at *
  clear c1 c2 c3 HF0 HSZ
  go_wp2_with fail
  refine (New_any 64 _).mono ?_
  rintro e w1 ⟨rfl, hA, hF⟩
  have hab := hA.box.lt
  have HA : Hid (ArAt w1 (W1.heap.size + 1) W1.heap.size (AR.fresh 64)) := Lib.hid hA
  have HF2 := Lib.hid (HF1.out.trans hF)
  clear hA hF
  go_wp2_with fail
  refine (gNew_ok HA.out s HS1.out).mono ?_
  rintro e w2 ⟨gb, rfl, hgb, hG, hA, hF⟩
  have hgl := hG.box.lt
  have HA := Lib.hid hA
  have HG : Hid (GgAt w2 gb (W1.heap.size + 1) 1 s) := Lib.hid hG
  have HF3 := Lib.hid (HF2.out.widen hF (by have := HSZ1.out; simp; omega))
  clear hA hF hG
  go_wp2_with fail
  refine (dNew_any (some ⟨gb, 0, none⟩) w2).mono ?_
  rintro e w3 ⟨rfl, hD, hF⟩
  have hI : DWI w w3 W1.heap.size (W1.heap.size + 1) gb w2.heap.size s ((AR.fresh 64).take (2 * s)) (atN k 0) (fun _ => 0) 0 DR.zero := by
    rw [atN_zero]
    exact { ar := HA.out.frm hF (by simp) (by simp), gg := HG.out.frm hF (by simp), dr := hD, cnt := HS2.out, frm := HF3.out.trans hF, o0 := by have := HSZ1.out; omega, o1 := by omega, o2 := by omega, o3 := by omega }
  have HI := Lib.hid hI
  clear hD hF hI HA HG HF3 HF2 HS1 HS2
  generalize w2.heap.size = db at *
  generalize W1.heap.size = wb at *
  go_wp2_with fail
  go_loopw [11] (fun i wx => ∃ (j : Nat) (A : AR), i = .int .i64 j ∧ j ≤ r ∧ DWI w wx wb (wb + 1) gb db s A (atN k j) (fun _ => 0) j DR.zero) (fun i _ => r - (intOf i).toNat)
  case atStart => exact ⟨0, _, rfl, Nat.zero_le _, HI.out⟩
  case round =>
    obtain ⟨j, A, rfl, hj, hI⟩ := hrel
    have HI1 := Lib.hid hI
    clear hI HI
    by_cases hlt : j < r
    · have l1 : (j : Int) < r := by omega
      go_wp2_with fail
      refine (HI1.out.enter (by omega) hks).mono ?_
      rintro e w4 ⟨rfl, B, hI⟩
      rw [atN_up] at hI
      have HI2 := Lib.hid hI
      clear hI
      go_wp2_with fail
      go_roundw
      case rel => exact ⟨j + 1, B, by go_num, by omega, HI2.out⟩
      case measure => simp [intOf]; omega
    · have l1 : ¬ (j : Int) < r := by omega
      obtain rfl : j = r := by omega
      clear hlt
      go_wp2_with fail
      refine (HI1.out.begin 0 s false).mono ?_
      rw [decide_eq_false (show ¬ (s : Int) ≤ 0 from by omega), waits_begin (k := k) s1]
      rintro e w5 ⟨rfl, hI⟩
      have HI3 := Lib.hid hI
      clear hI HI1
      go_wp2_with fail
      go_loopw [12] (fun i wx => ∃ (i' : Nat) (A : AR), i = .int .i64 i' ∧ i' ≤ 2 * k + t ∧ DWI w wx wb (wb + 1) gb db s A (atN k j) (fun _ => 0) j (waits k s i')) (fun i _ => 2 * k + t - (intOf i).toNat)
      case atStart => exact ⟨0, _, rfl, Nat.zero_le _, HI3.out⟩
      case round =>
        obtain ⟨i, A, rfl, hi, hI⟩ := hrel
        have HI4 := Lib.hid hI
        clear hI HI3
        by_cases hlt : i < 2 * k + t
        · have l2 : (i : Int) < 2 * (k : Int) + t := by omega
          have hst := HI4.out.step (a := min (i / 2) k) rfl (by omega)
          obtain ⟨q1, q2'⟩ := waits_step (k := k) (s := s) (i := i) (r := j) hks (by omega) (by omega)
          (try dsimp only at hst)
          rw [q1, q2'] at hst
          have HST := Lib.hid hst
          clear hst q1 q2'
          go_wp2_with fail
          refine HST.out.mono ?_
          rintro e w6 ⟨rfl, B, hI⟩
          have HI5 := Lib.hid hI
          clear hI HST
          go_wp2_with fail
          go_roundw
          case rel => exact ⟨i + 1, B, by go_num, by omega, HI5.out⟩
          case measure => simp [intOf]; omega
        · have l2 : ¬ (i : Int) < 2 * (k : Int) + t := by omega
          obtain rfl : i = 2 * k + t := by omega
          have hI := HI4.out
          rw [waits_end] at hI
          generalize decide (t % 2 = 1) = sec at hI
          have HI6 := Lib.hid hI
          clear hI HI4 hlt
          have hat := dAt_any HI6.out.dr
          simp only at hat
          have HAT := Lib.hid hat
          have l3 : ((k : Int) != k) = false := by simp
          clear hat
          go_wp2_with fail
          refine HAT.out.mono ?_
          rintro e w7 ⟨rfl, rfl⟩
          clear HAT
          go_wp2_with fail
          go_loopw [13] (fun i wx => ∃ (i' : Nat) (A : AR), i = .int .i64 i' ∧ i' ≤ j ∧ DWI w wx wb (wb + 1) gb db s A (atN k j) (atN k i') (j + i') ⟨(k : Nat), s, false, true, sec, 0, false⟩) (fun i _ => j - (intOf i).toNat)
          case atStart => exact ⟨0, _, rfl, Nat.zero_le _, by rw [atN_zero]; exact HI6.out⟩
          case round =>
            obtain ⟨i, A, rfl, hi, hI⟩ := hrel
            have HI7 := Lib.hid hI
            clear hI HI6
            by_cases hlt : i < j
            · have l4 : (i : Int) < j := by omega
              go_wp2_with fail
              refine (HI7.out.exit (by omega) hks).mono ?_
              rintro e w8 ⟨rfl, B, hI⟩
              rw [atN_up] at hI
              have HI8 := Lib.hid hI
              clear hI
              go_wp2_with fail
              go_roundw
              case rel => exact ⟨i + 1, B, by go_num, by omega, HI8.out⟩
              case measure => simp [intOf]; omega
            · have l4 : ¬ (i : Int) < j := by omega
              obtain rfl : i = j := by omega
              clear hlt
              go_wp2_with fail
              go_loopw [14, 15] (fun o i' wx => ∃ (m : Nat) (A : AR) (D : DR) (b : Bool), o = .bool b ∧ i' = .int .i64 m ∧ DWI w wx wb (wb + 1) gb db s A (atN k i) (atN k i) (i + i) D ∧ m ≤ 2 * (s - k) + 2 ∧
                ((b = true ∧ D.clear = true) ∨ (b = false ∧ ∃ (a : Nat) (sec : Bool) (out : Int), D = ⟨(a : Nat), s, false, true, sec, out, false⟩ ∧ k ≤ a ∧ a < s ∧ todo s a sec out (atN k i a : Nat) + m ≤ 2 * (s - k) + 1)))
                (fun _ i _ => 2 * (s - k) + 2 - (intOf i).toNat)
              case atStart => exact ⟨0, A, _, false, rfl, rfl, HI7.out, by omega, .inr ⟨rfl, k, sec, 0, rfl, Nat.le_refl _, hks, by unfold todo; split <;> (try split) <;> omega⟩⟩
              case round =>
                obtain ⟨m, A, D, b, rfl, rfl, hI, hm, hor⟩ := hrel
                have HI9 := Lib.hid hI
                clear hI HI7
                rcases hor with ⟨rfl, hcl⟩ | ⟨rfl, a, sec, out, rfl, ha1, ha2, hto⟩
                · have hc := dClear_any HI9.out.dr
                  rw [hcl] at hc
                  have HC := Lib.hid hc
                  clear hc hcl
                  cases hbb : decide ((m : Int) < 2 * ((s : Int) - k) + 2)
                  all_goals
                    go_wp2_with fail
                    refine HC.out.mono ?_
                    rintro e w9 ⟨rfl, rfl⟩
                    go_wp2_with fail
                    refine (dawake _).mono ?_
                    rintro e w10 ⟨rfl, hF⟩
                    have HF := Lib.hid (HI9.out.frm.trans hF)
                    clear hF
                    go_wp2
                    go_ret
                    exact ⟨rfl, HF.out.below (Nat.le_refl _) (by simp)⟩
                · have hm1 : m < 2 * (s - k) + 2 := by omega
                  have l5 : (m : Int) < 2 * ((s : Int) - k) + 2 := by omega
                  have hst := HI9.out.step (a := a) rfl ha2
                  obtain ⟨o, D', g1, g2, g3⟩ := todo_step (s := s) (a := a) (sec := sec) (out := out) (fun j => (atN k i j : Nat)) ha2 (by omega)
                  (try dsimp only at g1 g2 g3)
                  rw [g1, g2] at hst
                  have HST := Lib.hid hst
                  have HTO := Lib.hid hto
                  have HG3 := Lib.hid g3
                  clear hst g1 g2 g3 hto
                  go_wp2_with fail
                  refine HST.out.mono ?_
                  rintro e w9 ⟨rfl, B, hI⟩
                  have HI10 := Lib.hid hI
                  clear hI HST
                  go_wp2_with fail
                  go_roundw
                  case rel =>
                    refine ⟨m + 1, B, D', o, rfl, by go_num, HI10.out, by omega, ?_⟩
                    rcases HG3.out with h | ⟨h1, a', sec', out', h2, h3, h4, h5⟩
                    · exact .inl h
                    · exact .inr ⟨h1, a', sec', out', h2, by omega, h4, by have := HTO.out; omega⟩
                  case measure => simp [intOf]; omega

end Go.Proofs.Ytakhhbemnodahaa
