/- The walk of the law TasAll. -/
import Derived.Test.YtmfeaancnkadbaaTasLive
import Derived.Test.YtmfeaancnkadbaaTasOne
namespace Go.Proofs.Ytmfeaancnkadbaa
open Go.RowKit

structure TAI (w0 w : World) (wb ab lb sb n : Nat) (most : Int) (S : Nat → Nat → Int) (A : AR) : Prop where
  ar : ArAt w ab wb A
  lk : LkAt w lb ab sb 1 n most S
  frm : Frm [] w0 w
  o0 : w0.heap.size ≤ wb
  o1 : w0.heap.size ≤ ab
  o2 : w0.heap.size ≤ lb
  o3 : w0.heap.size ≤ sb
  ne : lb ≠ ab ∧ lb ≠ wb ∧ sb ≠ ab ∧ sb ≠ wb

section
variable {w0 w w1 : World} {wb ab lb sb n : Nat} {most : Int} {S : Nat → Nat → Int} {A : AR}
theorem TAI.kept (h : TAI w0 w wb ab lb sb n most S A) (hf : Frm [] w w1) : TAI w0 w1 wb ab lb sb n most S A :=
  { h with ar := h.ar.frm hf (by simp) (by simp), lk := h.lk.frm hf (by simp) (by simp), frm := h.frm.trans hf }
theorem TAI.ask (h : TAI w0 w wb ab lb sb n most S A) (i : Int) : Calls Try.prog 10 #[.pointer (some ⟨lb, 0, none⟩), .int .i64 i] w fun e w' => e = .returned (.bool (tAskOk n S i)) ∧ TAI w0 w' wb ab lb sb n most (tAsk n S i) A := by
  have hne := h.ne; have := h.o3
  exact (lAsk_any h.lk i).mono fun e w' ⟨h1, h2, h3⟩ => ⟨h1, { h with lk := h2, ar := h.ar.frm h3 (by simp; omega) (by simp; omega), frm := h.frm.widen h3 (by simp; omega) }⟩
theorem TAI.leave (h : TAI w0 w wb ab lb sb n most S A) (i : Int) : Calls Try.prog 12 #[.pointer (some ⟨lb, 0, none⟩), .int .i64 i] w fun e w' => e = .returned (.bool (tLeaveOk n S i)) ∧ TAI w0 w' wb ab lb sb n most (tLeave n S i) A := by
  have hne := h.ne; have := h.o3
  exact (lLeave_any h.lk i).mono fun e w' ⟨h1, h2, h3⟩ => ⟨h1, { h with lk := h2, ar := h.ar.frm h3 (by simp; omega) (by simp; omega), frm := h.frm.widen h3 (by simp; omega) }⟩
theorem TAI.step (h : TAI w0 w wb ab lb sb n most S A) (i : Int) : Calls Try.prog 11 #[.pointer (some ⟨lb, 0, none⟩), .int .i64 i] w fun e w' => e = .returned (.bool (tStepR n 1 S A i)) ∧ TAI w0 w' wb ab lb sb n most (tStepS n 1 most S A i) (tStepA n 1 S A i) := by
  have := h.o0; have := h.o1; have := h.o3
  exact (lStep_any h.lk h.ar h.ne i).mono fun e w' ⟨h1, h2, h3, h4⟩ => ⟨h1, { h with lk := h2, ar := h3, frm := h.frm.widen h4 (by simp; omega) }⟩
end

set_option maxRecDepth 100000 in
set_option maxHeartbeats 8000000 in
theorem tasAll_walk (n m q : Int) (w : World) (hn : U8 n) (hm : U8 m) (hq : U8 q) :
    Calls Try.prog 3 #[.int .u8 n, .int .u8 m, .int .u8 q] w fun e w' => e = .returned (.bool true) ∧ Below w.heap.size w w' := by
  have fd := spotPc
  unfold U8 at hn hm hq
  obtain ⟨hn0, hn1⟩ := hn
  obtain ⟨hm0, hm1⟩ := hm
  obtain ⟨hq0, hq1⟩ := hq
  obtain ⟨n8, hn8, hn9⟩ : ∃ k : Nat, n % 8 = k ∧ k < 8 := ⟨(n % 8).toNat, by omega, by omega⟩
  obtain ⟨s, hs⟩ : ∃ s : Nat, 1 + (n8 : Int) = (s : Int) := ⟨1 + n8, by omega⟩
  have s1 : 1 ≤ s := by omega
  have s8 : s ≤ 8 := by omega
  obtain ⟨q2, hq2, hq16⟩ : ∃ q : Nat, m % 16 = q ∧ q < 16 := ⟨(m % 16).toNat, by omega, by omega⟩
  obtain ⟨mo, hmo⟩ : ∃ r : Nat, 1 + (q2 : Int) = (r : Int) := ⟨1 + q2, by omega⟩
  have mo1 : 1 ≤ mo := by omega
  have mo2 : mo ≤ 16 := by omega
  go_enter Try.func3, Try.ntmps3
  go_wp2_with fail
  refine (New_any 10 _).mono ?_
  rintro e w1 ⟨rfl, hA, hF⟩
  have hab := hA.box.lt
  have HA : Hid (ArAt w1 (w.heap.size + 1) w.heap.size ⟨[0, 0, 0, 0, 0, 0, 0, 0, 0, 0], 0, 0, 0, 0, false⟩) := Lib.hid (hA.to (by kernel_rfl))
  have HF1 := Lib.hid hF
  clear hA hF
  go_wp2_with fail
  refine (lNew_ok (most := mo) HA.out s s1 (by omega) (by omega) (by omega) (by kernel_rfl)).mono ?_
  rintro e w2 ⟨lb, sb, rfl, hlb, hsb, hL, hA, hF⟩
  have hA' : ArAt w2 (w.heap.size + 1) w.heap.size ⟨[0, 0, 0, 0, 0, 0, 0, 0, 0, 0], 1, 0, 0, 0, false⟩ := hA.to (by kernel_rfl)
  have hI : TAI w w2 w.heap.size (w.heap.size + 1) lb sb s mo (fun _ _ => 0) ⟨[0, 0, 0, 0, 0, 0, 0, 0, 0, 0], 1, 0, 0, 0, false⟩ :=
    { ar := hA', lk := hL, frm := HF1.out.widen hF (by simp), o0 := Nat.le_refl _, o1 := by omega, o2 := by omega, o3 := by omega, ne := by omega }
  have HI := Lib.hid hI
  have HZ : Hid ((⟨[0, 0, 0, 0, 0, 0, 0, 0, 0, 0], 1, 0, 0, 0, false⟩ : AR).taken = 1 ∧ (⟨[0, 0, 0, 0, 0, 0, 0, 0, 0, 0], 1, 0, 0, 0, false⟩ : AR).ws.length = 10 ∧ (⟨[0, 0, 0, 0, 0, 0, 0, 0, 0, 0], 1, 0, 0, 0, false⟩ : AR).get 1 = 0) := Lib.hid ⟨rfl, rfl, by kernel_rfl⟩
  clear hA hA' hL hF hI HA HF1 hab hlb hsb
  generalize (⟨[0, 0, 0, 0, 0, 0, 0, 0, 0, 0], 1, 0, 0, 0, false⟩ : AR) = A0 at *
  generalize w.heap.size + 1 = ab at *
  go_wp2_with fail
  go_loopw [12, 13] (fun lv iv wx => ∃ (i : Nat) (S : Nat → Nat → Int) (left : Int), iv = .int .i64 i ∧ lv = .int .i64 left ∧ i ≤ s ∧ AskI s i S left ∧ TAI w wx w.heap.size ab lb sb s mo S A0) (fun _ iv _ => s - (intOf iv).toNat)
  case atStart => exact ⟨0, _, 0, rfl, rfl, Nat.zero_le _, AskI.start s, HI.out⟩
  case round =>
    obtain ⟨i, S, left, rfl, rfl, his, hK, hI⟩ := hrel
    have HI1 := Lib.hid hI
    have HK := Lib.hid hK
    clear hI hK HI
    have hleft : 0 ≤ left ∧ left ≤ 8 := by
      have h1 := HK.out.left
      have h2 := cnt_le (p := wt S) (n := s)
      omega
    obtain ⟨hl0, hl1⟩ := hleft
    by_cases hlt : i < s
    · have l1 : (i : Int) < s := by omega
      cases hbit : (bits BinOp.and IntKind.u8 (q / 2 ^ i) 1 == 1) with
      | false =>
        go_wp2_with fail
        go_roundw
        case rel => exact ⟨i + 1, S, left, by go_num, rfl, by omega, HK.out.pass, HI1.out⟩
        case measure => simp [intOf]; omega
      | true =>
        obtain ⟨hok, hK2⟩ := HK.out.ask hlt
        have HK2 := Lib.hid hK2
        have HOK := Lib.hid hok
        clear hok hK2
        go_wp2_with fail
        refine (HI1.out.ask i).mono ?_
        rw [HOK.out]
        rintro e w3 ⟨rfl, hI⟩
        have HI2 := Lib.hid hI
        clear hI
        go_wp2_with fail
        go_roundw
        case rel => exact ⟨i + 1, tAsk s S i, left + 1, by go_num, rfl, by omega, HK2.out, HI2.out⟩
        case measure => simp [intOf]; omega
    · have l1 : ¬ (i : Int) < s := by omega
      have hie : i = s := by omega
      have hLV : LV s mo 0 0 S A0 left := by
        subst hie
        exact HK.out.begin mo1 HZ.out.1 HZ.out.2.1 HZ.out.2.2
      have HLV := Lib.hid hLV
      clear hLV hie HK HZ
      obtain ⟨X, hX, hX1⟩ : ∃ X : Nat, (s : Int) * (mo + 5) = X ∧ s * (mo + 1) ≤ X := ⟨s * (mo + 5), by push_cast; rfl, Nat.mul_le_mul_left _ (by omega)⟩
      have hXb : X ≤ 168 := by
        have : s * (mo + 5) ≤ 8 * 21 := Nat.mul_le_mul s8 (by omega)
        have e : (X : Int) = (s * (mo + 5) : Nat) := by rw [← hX]; push_cast; rfl
        omega
      go_wp2_with fail
      go_loopw [12, 14] (fun lv rv wx => ∃ (r : Nat) (S : Nat → Nat → Int) (A : AR) (left : Int), rv = .int .i64 r ∧ lv = .int .i64 left ∧ r ≤ X ∧ LV s mo r 0 S A left ∧ TAI w wx w.heap.size ab lb sb s mo S A) (fun _ rv _ => X - (intOf rv).toNat)
      case atStart => exact ⟨0, S, A0, left, rfl, rfl, Nat.zero_le _, HLV.out, HI1.out⟩
      case round =>
        clear hl0 hl1 HLV HI1
        obtain ⟨r, S, A, left, rfl, rfl, hr, hV, hI⟩ := hrel
        have HV := Lib.hid hV
        have HI2 := Lib.hid hI
        clear hV hI
        by_cases hrx : r < X
        · have l2 : (r : Int) < X := by omega
          go_wp2_with fail
          go_loopw [12, 15] (fun lv pv wx => ∃ (p : Nat) (S : Nat → Nat → Int) (A : AR) (left : Int), pv = .int .i64 p ∧ lv = .int .i64 left ∧ p ≤ s ∧ LV s mo r p S A left ∧ TAI w wx w.heap.size ab lb sb s mo S A) (fun _ pv _ => s - (intOf pv).toNat)
          case atStart => exact ⟨0, S, A, left, rfl, rfl, Nat.zero_le _, HV.out, HI2.out⟩
          case round =>
            clear HV HI2
            obtain ⟨p, S, A, left, rfl, rfl, hp, hV, hI⟩ := hrel
            have HV := Lib.hid hV
            have HI2 := Lib.hid hI
            have hleft : 0 ≤ left ∧ left ≤ 8 := by
              have h1 := hV.left
              have h2 := cnt_le (p := wt S) (n := s)
              omega
            obtain ⟨hl0, hl1⟩ := hleft
            clear hV hI
            by_cases hps : p < s
            · have l3 : (p : Int) < s := by omega
              have HV2 := Lib.hid (HV.out.visit hps mo1 mo2)
              go_wp2_with fail
              refine (HI2.out.step p).mono ?_
              rintro e w3 ⟨rfl, hI⟩
              have HI3 := Lib.hid hI
              clear hI
              go_wp2_with fail
              refine (HI3.out.leave p).mono ?_
              cases hok : tLeaveOk s (tStepS s 1 mo S A p) p with
              | true =>
                rw [hok] at HV2
                rintro e w4 ⟨rfl, hI⟩
                have HI4 := Lib.hid hI
                clear hI hok
                generalize tLeave s (tStepS s 1 mo S A p) p = S2 at *
                generalize tStepA s 1 S A p = A2 at *
                go_wp2_with fail
                go_roundw
                case rel => exact ⟨p + 1, S2, A2, left - 1, by go_num, rfl, by omega, by have := HV2.out; simpa using this, HI4.out⟩
                case measure => simp [intOf]; omega
              | false =>
                rw [hok] at HV2
                rintro e w4 ⟨rfl, hI⟩
                have HI4 := Lib.hid hI
                clear hI hok
                generalize tLeave s (tStepS s 1 mo S A p) p = S2 at *
                generalize tStepA s 1 S A p = A2 at *
                go_wp2_with fail
                go_roundw
                case rel => exact ⟨p + 1, S2, A2, left, by go_num, rfl, by omega, by have := HV2.out; simpa using this, HI4.out⟩
                case measure => simp [intOf]; omega
            · have l3 : ¬ (p : Int) < s := by omega
              have hV3 : LV s mo (r + 1) 0 S A left := by
                obtain rfl : p = s := by omega
                exact HV.out.next
              have HV3 := Lib.hid hV3
              clear hV3
              go_wp2_with fail
              go_roundw
              case rel => exact ⟨r + 1, S, A, left, by go_num, rfl, by omega, HV3.out, HI2.out⟩
              case measure => simp [intOf]; omega
        · have l2 : ¬ (r : Int) < X := by omega
          have hend := HV.out.done (by omega)
          obtain ⟨hrest, hl0, hz⟩ := hend
          subst hl0
          have HREST := Lib.hid hrest
          have HZ2 := Lib.hid hz
          clear hrest hz
          have hwords : A.words = [0] := by
            have h1 := HV.out.taken; have h2 := HV.out.len; have h3 := HZ2.out
            unfold AR.get AR.has at h3
            rw [h1, if_pos (by simp)] at h3
            unfold AR.words
            rw [h1]
            cases hw : A.ws with
            | nil => rw [hw] at h2; simp at h2
            | cons x l => rw [hw] at h3; simp at h3; simp [h3]
          have HWD := Lib.hid hwords
          clear hwords HV
          go_wp2_with fail
          go_loopw [16] (fun iv wx => ∃ i : Nat, iv = .int .i64 i ∧ i ≤ s ∧ TAI w wx w.heap.size ab lb sb s mo S A) (fun iv _ => s - (intOf iv).toNat)
          case atStart => exact ⟨0, rfl, Nat.zero_le _, HI2.out⟩
          case round =>
            clear HI2
            obtain ⟨i, rfl, hi, hI⟩ := hrel
            have HI3 := Lib.hid hI
            clear hI
            by_cases his : i < s
            · have l3 : (i : Int) < s := by omega
              have hsv : spV s S i = .agg #[.int .i64 0, .int .i64 (S i 1), .int .i64 (S i 2), .int .i64 (S i 3)] := by
                unfold spV sHas; rw [if_pos (by simp; omega), show ((i : Int)).toNat = i from by omega, HREST.out i his]
              have HSV := Lib.hid hsv
              clear hsv
              go_wp2_with fail
              refine (lSpot_any HI3.out.lk i).mono ?_
              rw [HSV.out]
              rintro e w4 ⟨rfl, hF⟩
              have HI4 := Lib.hid (HI3.out.kept hF)
              clear hF
              go_wp2_with fail
              go_roundw
              case rel => exact ⟨i + 1, by go_num, by omega, HI4.out⟩
              case measure => simp [intOf]; omega
            · have l3 : ¬ (i : Int) < s := by omega
              go_wp2_with fail
              refine (Words_any HI3.out.ar).mono ?_
              rintro e w4 ⟨vv, rfl, hO, hF⟩
              have HI4 := Lib.hid (HI3.out.kept hF)
              rw [HWD.out] at hO
              have HO := Lib.hid hO
              clear hO hF
              go_wp2_with fail
              have hw : HAt (w4.alloc (.cells #[.int .i64 0] 3)) w4.heap.size ([(0 : Int)].map (Value.int .i64)) 3 := HAt.new _ _ _
              have hFa : Frm [] w4 (w4.alloc (.cells #[.int .i64 0] 3)) := (Frm.refl _ _).alloc _
              have HO2 := Lib.hid (HO.out.frm hFa (by simp))
              have HI5 := Lib.hid (HI4.out.kept hFa)
              have HW := Lib.hid (hw.rowAt (Nat.zero_le _) (by simp [maxLen]))
              clear hw hFa HI4 HO
              refine (Same_any _ HO2.out.row HW.out).mono ?_
              rintro e w10 ⟨he, n, rfl⟩
              obtain rfl : e = .returned (.bool true) := he
              have HI6 := Lib.hid (HI5.out.frm.drew n)
              go_wp2_with fail
              refine (tsawake _).mono ?_
              rintro e w7 ⟨rfl, hF⟩
              have HF7 := Lib.hid (HI6.out.trans hF)
              clear hF
              go_wp2
              go_ret
              exact ⟨rfl, HF7.out.below (Nat.le_refl _) (by simp)⟩
end Go.Proofs.Ytmfeaancnkadbaa
