/- The walk of the law TicketOne: it returns true, and writes nothing that was there. (Printed by gen_ticketone.py.) -/
import Derived.Test.YtmfeaancnkadbaaTicketInv
import Derived.Test.YtmfeaancnkadbaaActs
import Derived.Test.YtmfeaancnkadbaaSeg
namespace Go.Proofs.Ytmfeaancnkadbaa
open Go.RowKit

structure KOI (w0 w : World) (wb ab lb sb n : Nat) (S : Nat → Nat → Int) (A : AR) (D : List Int) (V k : Nat) : Prop where
  ar : ArAt w ab wb A
  lk : KkAt w lb ab sb 1 n S
  inv : KInv n S A D V k
  frm : Frm [] w0 w
  o0 : w0.heap.size ≤ wb
  o1 : w0.heap.size ≤ ab
  o2 : w0.heap.size ≤ lb
  o3 : w0.heap.size ≤ sb
  ne : lb ≠ ab ∧ lb ≠ wb ∧ sb ≠ ab ∧ sb ≠ wb

section
variable {w0 w w1 : World} {wb ab lb sb n k V : Nat} {S : Nat → Nat → Int} {A : AR} {D : List Int}
theorem KOI.kept (h : KOI w0 w wb ab lb sb n S A D V k) (hf : Frm [] w w1) : KOI w0 w1 wb ab lb sb n S A D V k :=
  { h with ar := h.ar.frm hf (by simp) (by simp), lk := h.lk.frm hf (by simp) (by simp), frm := h.frm.trans hf }
theorem KOI.do_ (h : KOI w0 w wb ab lb sb n S A D V k) (hk : k ≤ 3000) (kind i : Int) : Calls Try.prog 26 #[.pointer (some ⟨lb, 0, none⟩), .agg #[.int .i64 kind, .int .i64 i]] w fun e w' => e = .returned (.bool (kDoR n 1 S A kind i)) ∧
    KOI w0 w' wb ab lb sb n (kDoS n 1 S A kind i) (kDoA n 1 S A kind i) (kD n S D kind i) (kV n S V kind i) (k + 1) ∧ Frm [sb, ab, wb] w w' := by
  have := h.o0; have := h.o1; have := h.o2; have := h.o3
  exact (kDo_any h.lk h.ar h.ne kind i).mono fun e w' ⟨h1, h2, h3, h4⟩ => ⟨h1, { h with ar := h3, lk := h2, inv := (h.inv.do_ hk kind i).1, frm := h.frm.widen h4 (by simp; omega) }, h4⟩
end
theorem KInv.start {n : Nat} : KInv n (fun _ _ => 0) ⟨List.replicate 100 0, 2, 0, 0, 0, false⟩ [] 0 0 :=
  { taken := rfl, len := by simp, g1 := by kernel_rfl, g2 := by kernel_rfl, vle := Nat.le_refl _, dle := Nat.le_refl _, pcs := fun _ _ => .inl rfl,
    own := fun i hi ho => by unfold KOwn In at ho; simp at ho, top := fun i hi ho => by unfold In at ho; simp at ho, owned := fun t z _ hz => by simp at hz, ops0 := Int.le_refl _, ops1 := Int.le_refl _ }

set_option maxRecDepth 100000 in
set_option maxHeartbeats 1000000 in
theorem ticketOne_long (n : Int) (v : Value) (acts : List (Int × Int)) (w : World) (h : ActsAt w v acts) (hl : 100 < acts.length) :
    Calls Try.prog 6 #[.int .u8 n, v] w fun e w' => e = .returned (.bool true) ∧ Below w.heap.size w w' := by
  obtain ⟨a, cap, rfl, -, -, -⟩ := h
  have d1 : decide ((100 : Int) < acts.length) = true := by simp; omega
  go_enter Try.func6, Try.ntmps6
  go_wp2_with fail
  refine (kawake _).mono ?_
  rintro e w1 ⟨rfl, hF⟩
  have HF := Lib.hid hF
  clear hF
  go_wp2
  go_ret
  exact ⟨rfl, HF.out.below (Nat.le_refl _) (by simp)⟩

set_option maxRecDepth 100000 in
set_option maxHeartbeats 16000000 in
theorem ticketOne_short (n : Int) (v : Value) (acts : List (Int × Int)) (w : World) (hn : U8 n) (h : ActsAt w v acts) (hl : acts.length ≤ 100) :
    Calls Try.prog 6 #[.int .u8 n, v] w fun e w' => e = .returned (.bool true) ∧ Below w.heap.size w w' := by
  obtain ⟨a, cap, rfl, -, hc, hwf⟩ := h
  have d1 : decide ((100 : Int) < acts.length) = false := by simp; omega
  have HC := Lib.hid hc
  have fd := spotPc
  unfold U8 at hn
  obtain ⟨hn0, hn1⟩ := hn
  obtain ⟨q, hq, hq8⟩ : ∃ q : Nat, n % 8 = q ∧ q < 8 := ⟨(n % 8).toNat, by omega, by omega⟩
  obtain ⟨s, hs⟩ : ∃ s : Nat, 1 + (q : Int) = (s : Int) := ⟨1 + q, by omega⟩
  have s1 : 1 ≤ s := by omega
  have s8 : s ≤ 8 := by omega
  clear hc hwf
  go_enter Try.func6, Try.ntmps6
  go_wp2_with fail
  refine (New_any 100 _).mono ?_
  rintro e w1 ⟨rfl, hA, hF⟩
  have hab := hA.box.lt
  have HA : Hid (ArAt w1 (w.heap.size + 1) w.heap.size ⟨List.replicate 100 0, 0, 0, 0, 0, false⟩) := Lib.hid (hA.to (by kernel_rfl))
  have HF1 := Lib.hid hF
  clear hA hF
  go_wp2_with fail
  refine (kNew_ok HA.out s s1 (by omega) (by kernel_rfl)).mono ?_
  rintro e w2 ⟨lb, sb, rfl, hlb, hsb, hL, hA, hF⟩
  have hA' : ArAt w2 (w.heap.size + 1) w.heap.size ⟨List.replicate 100 0, 2, 0, 0, 0, false⟩ := hA.to (by kernel_rfl)
  have hI : KOI w w2 w.heap.size (w.heap.size + 1) lb sb s (fun _ _ => 0) ⟨List.replicate 100 0, 2, 0, 0, 0, false⟩ [] 0 0 :=
    { ar := hA', lk := hL, frm := HF1.out.widen hF (by simp), o0 := Nat.le_refl _, o1 := by omega, o2 := by omega, o3 := by omega, ne := by omega, inv := KInv.start }
  have HI := Lib.hid hI
  clear hA hA' hL hF hI HA HF1
  generalize (⟨List.replicate 100 0, 2, 0, 0, 0, false⟩ : AR) = A0 at *
  go_wp2_with fail
  go_loopw [9] (fun i wx => ∃ (k V : Nat) (A : AR) (S : Nat → Nat → Int) (D : List Int), i = .int .i64 k ∧ k ≤ acts.length ∧ KOI w wx w.heap.size (w.heap.size + 1) lb sb s S A D V k)
    (fun i _ => acts.length - (intOf i).toNat)
  case atStart => exact ⟨0, 0, A0, _, _, rfl, Nat.zero_le _, HI.out⟩
  case round =>
    obtain ⟨k, V, A, S, D, rfl, hk, hI⟩ := hrel
    have HI1 := Lib.hid hI
    by_cases hlt : k < acts.length
    · obtain ⟨b, off, rfl, hb, hcell⟩ := HC.out (by omega)
      have ex : acts[k]? = some acts[k] := by simp
      have l1 : (k : Int) < acts.length := by omega
      have hcx : ∀ wx, Frm [] w wx → wx.cell? ⟨b, off + k * 2, none⟩ = some (.int .i64 acts[k].1) ∧ wx.cell? ⟨b, off + k * 2 + 1, none⟩ = some (.int .i64 acts[k].2) := fun wx hf => ⟨hf.cell (hcell k _ ex).1 (by simp), hf.cell (hcell k _ ex).2 (by simp)⟩
      have HCX := Lib.hid hcx
      clear hI hcell ex hcx HI
      generalize acts[k] = x at *
      obtain ⟨kind, i⟩ := x
      simp only at HCX
      obtain ⟨c0, c1⟩ := HCX.out _ HI1.out.frm
      obtain ⟨p0, p1, p2, p3, hsp⟩ := spV_form s S i
      have HSP := Lib.hid hsp
      clear hsp
      go_wp2_with fail
      refine (kSpot_any HI1.out.lk i).mono ?_
      rw [HSP.out]
      rintro e x1 ⟨rfl, hF⟩
      have HI2 := Lib.hid (HI1.out.kept hF)
      clear hF
      go_wp2_with fail
      refine (Ops_any HI2.out.ar).mono ?_
      rintro e x2 ⟨rfl, rfl⟩
      go_wp2_with fail
      refine (Words_any HI2.out.ar).mono ?_
      rintro e x3 ⟨vv, rfl, hO, hF⟩
      have HI3 := Lib.hid (HI2.out.kept hF)
      have HO := Lib.hid hO
      clear hO hF
      clear c0 c1
      go_upto_region 12 with fail
      have hw3 : HAt (x3.alloc (.cells #[.int .i64 p0, .int .i64 p1, .int .i64 p2, .int .i64 p3] 30)) x3.heap.size [.int .i64 p0, .int .i64 p1, .int .i64 p2, .int .i64 p3] 30 := HAt.new x3 _ _
      have hf3 : Frm [] x3 (x3.alloc (.cells #[.int .i64 p0, .int .i64 p1, .int .i64 p2, .int .i64 p3] 30)) := (Frm.refl _ _).alloc _
      have hlt1 := HI3.out.lk.row.lt
      have hlt2 := HI3.out.ar.box.lt
      have hlt3 := HI3.out.ar.row.lt
      have hlt4 := HI2.out.lk.row.lt
      have hlt5 := HI2.out.ar.box.lt
      have hlt6 := HI2.out.ar.row.lt
      have HI4 := Lib.hid (HI3.out.kept hf3)
      have HO4 := Lib.hid (HO.out.frm hf3 (by simp))
      generalize x3.alloc (.cells #[.int .i64 p0, .int .i64 p1, .int .i64 p2, .int .i64 p3] 30) = x4 at *
      generalize x3.heap.size = wsb at *
      have HW4 := Lib.hid hw3
      obtain ⟨c0, c1⟩ := HCX.out _ HI4.out.frm
      clear hw3 hf3 HI1 HI2 HI3 HO
      go_wp2_with fail
      refine (HI4.out.do_ (by omega) kind i).mono ?_
      rintro e x5 ⟨rfl, hI, hF⟩
      have HW5 := Lib.hid (HW4.out.frm hF (by simp; omega))
      have HO5 := Lib.hid (HO4.out.frm hF (by simp; omega))
      have HI5 := Lib.hid hI
      have hops := (HI4.out.inv.do_ (by omega) kind i).2
      have HNO := Lib.hid (fun (hk : kind = 1 ∨ kind = 2) => kDo_no (n := s) (S := S) (A := A) (i := i) hk)
      have HAR := Lib.hid (fun (hk : kind = 1 ∨ kind = 2) => kDo_ar (n := s) (S := S) (A := A) (i := i) hk)
      have HWD := Lib.hid (fun (hk : ¬ kind = 0) => kDo_words (n := s) (S := S) (A := A) (i := i) hk)
      have HBH : Hid (kind = 3 → p0 = 10 → kDoR s 1 S A kind i = false → ∃ j, j < s ∧ kDoS s 1 S A kind i j 0 = 2) := Lib.hid (by
        rintro rfl h10 hr
        have hsp := HSP.out
        unfold spV at hsp
        cases hi : sHas s i with
        | false => rw [hi] at hsp; simp at hsp; omega
        | true =>
          rw [hi] at hsp
          simp at hsp
          exact HI4.out.inv.behind (by omega) hi (by rw [hsp.1]; exact h10) hr)
      have ha0 := HI4.out.inv.ops0
      have ha1 := HI4.out.inv.ops1
      clear hI hF c0 c1 HO4 HW4 HI4
      generalize kDoR s 1 S A kind i = ok at *
      generalize kDoS s 1 S A kind i = S' at *
      generalize kDoA s 1 S A kind i = A' at *
      generalize kD s S D kind i = D' at *
      generalize kV s S V kind i = V' at *
      have hg1 : decide (IntKind.i64.wrap (A.ops + 1) < A'.ops) = false := by rw [IntWalk.i64_in _ (by omega)]; simp; omega
      have hg2 : decide (A.ops + 1 < A'.ops) = false := by simp; omega
      have hg3 : decide (wrap64 (A.ops + 1) < A'.ops) = false := by rw [show wrap64 (A.ops + 1) = A.ops + 1 from by unfold wrap64; omega]; simp; omega
      clear ha0 ha1 hops hlt1 hlt2 hlt3 hlt4 hlt5 hlt6
      go_upto_region 13 with fail
      obtain ⟨c0, c1⟩ := HCX.out _ HI5.out.frm
      obtain ⟨asks, hasks⟩ : ∃ z : Bool, z = (kind == 1 || kind == 2) := ⟨_, rfl⟩
      have HASK := Lib.hid hasks
      clear hasks
      go_cut [14] (fun b14 wx => b14 = .bool asks ∧ wx = x5)
      case first =>
        by_cases h1 : kind = 1
        · have e1 : (kind == 1) = true := by simpa using h1
          have ea : Hid (asks = true) := Lib.hid (by rw [HASK.out, e1]; rfl)
          clear h1
          go_wp2_with fail
          go_meet
          exact ⟨by rw [ea.out], rfl⟩
        · have e1 : (kind == 1) = false := by simpa using h1
          by_cases h2 : kind = 2
          · have e2 : (kind == 2) = true := by simpa using h2
            have ea : Hid (asks = true) := Lib.hid (by rw [HASK.out, e1, e2]; rfl)
            clear h1 h2
            go_wp2_with fail
            go_meet
            exact ⟨by rw [ea.out], rfl⟩
          · have e2 : (kind == 2) = false := by simpa using h2
            have ea : Hid (asks = false) := Lib.hid (by rw [HASK.out, e1, e2]; rfl)
            clear h1 h2
            go_wp2_with fail
            go_meet
            exact ⟨by rw [ea.out], rfl⟩
      case rest =>
       obtain ⟨rfl, hw⟩ := hcut
       subst wc
       go_upto_region 14 with fail
       go_cut [120] (fun b120 wx => b120 = .bool false ∧ Frm [] x5 wx)
       case first =>
         rcases (show kind = 0 ∨ kind = 1 ∨ kind = 2 ∨ (¬ kind = 0 ∧ ¬ kind = 1 ∧ ¬ kind = 2) by omega) with hk | hk | hk | hk
         · subst hk
           obtain rfl : asks = false := HASK.out
           clear HASK
           have HOP := Lib.hid (fun n => (Ops_any (HI5.out.ar.frm (S := []) ((Frm.refl _ x5).drew n) (by simp) (by simp))).mono (fun e w' h => (show e = .returned (.int .i64 A'.ops) ∧ ∃ j, w' = (x5.drewN n).drewN j from ⟨h.1, 0, h.2.symm⟩)))
           go_quiet ((go_at_call 21; exact Calls.quiet_of (HOP.out _)))
           go_wp2_with fail
           go_meet
           exact ⟨rfl, (Frm.refl _ _).drew _⟩
         · subst hk
           have EA : Hid (A' = A) := Lib.hid (HAR.out (.inl rfl))
           have EW : Hid (A'.words = A.words) := Lib.hid (HWD.out (by omega))
           have ee : (A'.ops != A.ops) = false := by rw [EA.out]; simp
           obtain rfl : asks = true := HASK.out
           clear HASK
           have hne : Nonempty (HW (fun wx => Frm [] x5 wx)) := ⟨⟨x5, Frm.refl _ _⟩⟩
           have hz0 : ∀ z : HW (fun wx => Frm [] x5 wx), z.w.cell? ⟨b, off + k * 2, none⟩ = some (.int .i64 1) := fun z => (HCX.out _ (HI5.out.frm.trans z.h)).1
           have hz1 : ∀ z : HW (fun wx => Frm [] x5 wx), z.w.cell? ⟨b, off + k * 2 + 1, none⟩ = some (.int .i64 i) := fun z => (HCX.out _ (HI5.out.frm.trans z.h)).2
           have hz2 : ∀ z : HW (fun wx => Frm [] x5 wx), z.w.cell? ⟨wsb, 0, none⟩ = some (.int .i64 p0) := fun z => (HW5.out.frm z.h (by simp)).cell (i := 0) rfl
           have hz3 : ∀ z : HW (fun wx => Frm [] x5 wx), z.w.cell? ⟨wsb, 1, none⟩ = some (.int .i64 p1) := fun z => (HW5.out.frm z.h (by simp)).cell (i := 1) rfl
           have hz4 : ∀ z : HW (fun wx => Frm [] x5 wx), z.w.cell? ⟨wsb, 2, none⟩ = some (.int .i64 p2) := fun z => (HW5.out.frm z.h (by simp)).cell (i := 2) rfl
           have hz5 : ∀ z : HW (fun wx => Frm [] x5 wx), z.w.cell? ⟨wsb, 3, none⟩ = some (.int .i64 p3) := fun z => (HW5.out.frm z.h (by simp)).cell (i := 3) rfl
           cases ok with
           | true =>
             refine held_begin (S := fun wx => Frm [] x5 wx) (by kernel_rfl) ?_
             refine held_row_at (fuel := 41) (is := [0, 2, 3]) (.cons rfl (.cons rfl (.cons rfl .nil))) (by kernel_rfl) (fun _ _ _ _ _ h => h) rfl (by kernel_rfl) (Frm.refl _ _).drew1 ?_
             intro K hK
             repeat (go_big_quiet_step (fail))
             refine wpQuiet_nil (hK _ ?_)
             clear hK K
             refine held_call (fuel := 40) (i := 1) rfl (by kernel_rfl) ?_
             go_wp2_with fail
             refine (Ops_any (HI5.out.ar.frm (S := []) (by repeat (first | exact HFS.out | exact HFW.out | exact Frm.refl _ _ | apply Frm.drew1 | apply Frm.drew)) (by simp) (by simp))).mono ?_; rintro e x7 ⟨rfl, rfl⟩
             go_wp2_with fail
             refine onNormal_mk ⟨(by repeat (first | exact HFS.out | exact HFW.out | exact Frm.refl _ _ | apply Frm.drew1 | apply Frm.drew)), ?_⟩
             refine held_row_at (fuel := 34) (is := [4, 5, 6, 7, 8, 10]) (.cons rfl (.cons rfl (.cons rfl (.cons rfl (.cons rfl (.cons rfl .nil)))))) (by kernel_rfl) (fun _ _ _ _ _ h => h) rfl (by kernel_rfl) (by repeat (first | exact HFS.out | exact HFW.out | exact Frm.refl _ _ | apply Frm.drew1 | apply Frm.drew)) ?_
             intro K hK
             repeat (go_big_quiet_step (fail))
             refine wpQuiet_nil (hK _ ?_)
             clear hK K
             refine held_call (fuel := 33) (i := 9) rfl (by kernel_rfl) ?_
             go_wp2_with fail
             refine (Ops_any (HI5.out.ar.frm (S := []) (by repeat (first | exact HFS.out | exact HFW.out | exact Frm.refl _ _ | apply Frm.drew1 | apply Frm.drew)) (by simp) (by simp))).mono ?_; rintro e x7 ⟨rfl, rfl⟩
             go_wp2_with fail
             refine onNormal_mk ⟨(by repeat (first | exact HFS.out | exact HFW.out | exact Frm.refl _ _ | apply Frm.drew1 | apply Frm.drew)), ?_⟩
             refine held_row_at (fuel := 21) (is := [11, 12, 13, 14, 15, 16, 17, 18, 19, 20, 21, 23]) (.cons rfl (.cons rfl (.cons rfl (.cons rfl (.cons rfl (.cons rfl (.cons rfl (.cons rfl (.cons rfl (.cons rfl (.cons rfl (.cons rfl .nil)))))))))))) (by kernel_rfl) (fun _ _ _ _ _ h => h) rfl (by kernel_rfl) (by repeat (first | exact HFS.out | exact HFW.out | exact Frm.refl _ _ | apply Frm.drew1 | apply Frm.drew)) ?_
             intro K hK
             repeat (go_big_quiet_step (fail))
             refine wpQuiet_nil (hK _ ?_)
             clear hK K
             refine held_call (fuel := 20) (i := 22) rfl (by kernel_rfl) ?_
             go_wp2_with fail
             refine onNormal_mk ⟨(by repeat (first | exact HFS.out | exact HFW.out | exact Frm.refl _ _ | apply Frm.drew1 | apply Frm.drew)), ?_⟩
             refine held_row_at (fuel := 5) (is := [24, 25, 26, 27, 28, 29, 30, 31, 32, 33, 34, 35, 36, 37, 39]) (.cons rfl (.cons rfl (.cons rfl (.cons rfl (.cons rfl (.cons rfl (.cons rfl (.cons rfl (.cons rfl (.cons rfl (.cons rfl (.cons rfl (.cons rfl (.cons rfl (.cons rfl .nil))))))))))))))) (by kernel_rfl) (fun _ _ _ _ _ h => h) rfl (by kernel_rfl) (by repeat (first | exact HFS.out | exact HFW.out | exact Frm.refl _ _ | apply Frm.drew1 | apply Frm.drew)) ?_
             intro K hK
             repeat (go_big_quiet_step (fail))
             refine wpQuiet_nil (hK _ ?_)
             clear hK K
             refine held_call (fuel := 4) (i := 38) rfl (by kernel_rfl) ?_
             go_wp2_with fail
             refine (Words_any (HI5.out.ar.frm (S := []) (by repeat (first | exact HFS.out | exact HFW.out | exact Frm.refl _ _ | apply Frm.drew1 | apply Frm.drew)) (by simp) (by simp))).mono ?_; rintro e x8 ⟨v8, rfl, hO, hF⟩; have HFW := Lib.hid (Frm.trans (S := []) (a := x5) (by repeat (first | exact HFS.out | exact HFW.out | exact Frm.refl _ _ | apply Frm.drew1 | apply Frm.drew)) hF); have HO8 := Lib.hid (hO.base (Nat.zero_le _)); clear hO hF
             go_wp2_with fail
             refine onNormal_mk ⟨(by repeat (first | exact HFS.out | exact HFW.out | exact Frm.refl _ _ | apply Frm.drew1 | apply Frm.drew)), ?_⟩
             refine held_call (fuel := 3) (i := 40) rfl (by kernel_rfl) ?_
             go_wp2_with fail
             refine (Same_any _ HO8.out.row (HO5.out.frm (S := []) (by repeat (first | exact HFS.out | exact HFW.out | exact Frm.refl _ _ | apply Frm.drew1 | apply Frm.drew)) (by simp)).row).mono ?_; rw [show decide (A'.words = A.words) = true from by rw [EW.out]; simp]; rintro e x9 ⟨rfl, nn, rfl⟩
             go_wp2_with fail
             refine onNormal_mk ⟨(by repeat (first | exact HFS.out | exact HFW.out | exact Frm.refl _ _ | apply Frm.drew1 | apply Frm.drew)), ?_⟩
             refine held_row_at (fuel := 0) (is := [41, 42, 43]) (.cons rfl (.cons rfl (.cons rfl .nil))) (by kernel_rfl) (fun _ _ _ _ _ h => h) rfl (by kernel_rfl) (by repeat (first | exact HFS.out | exact HFW.out | exact Frm.refl _ _ | apply Frm.drew1 | apply Frm.drew)) ?_
             intro K hK
             repeat (go_big_quiet_step (fail))
             refine wpQuiet_nil (hK _ ?_)
             clear hK K
             refine held_end (by kernel_rfl) ?_
             go_wp2_with fail
             go_meet
             exact ⟨rfl, (by repeat (first | exact HFS.out | exact HFW.out | exact Frm.refl _ _ | apply Frm.drew1 | apply Frm.drew))⟩
           | false =>
             have hS2 : S' = S := HNO.out (.inl rfl) rfl
             have HSP2 : Hid (spV s S' i = .agg #[.int .i64 p0, .int .i64 p1, .int .i64 p2, .int .i64 p3]) := Lib.hid (by rw [hS2]; exact HSP.out)
             clear hS2
             refine held_begin (S := fun wx => Frm [] x5 wx) (by kernel_rfl) ?_
             refine held_row_at (fuel := 41) (is := [0, 2, 3]) (.cons rfl (.cons rfl (.cons rfl .nil))) (by kernel_rfl) (fun _ _ _ _ _ h => h) rfl (by kernel_rfl) (Frm.refl _ _).drew1 ?_
             intro K hK
             repeat (go_big_quiet_step (fail))
             refine wpQuiet_nil (hK _ ?_)
             clear hK K
             refine held_call (fuel := 40) (i := 1) rfl (by kernel_rfl) ?_
             go_wp2_with fail
             refine (Ops_any (HI5.out.ar.frm (S := []) (by repeat (first | exact HFS.out | exact HFW.out | exact Frm.refl _ _ | apply Frm.drew1 | apply Frm.drew)) (by simp) (by simp))).mono ?_; rintro e x7 ⟨rfl, rfl⟩
             go_wp2_with fail
             refine onNormal_mk ⟨(by repeat (first | exact HFS.out | exact HFW.out | exact Frm.refl _ _ | apply Frm.drew1 | apply Frm.drew)), ?_⟩
             refine held_row_at (fuel := 34) (is := [4, 5, 6, 7, 8, 10]) (.cons rfl (.cons rfl (.cons rfl (.cons rfl (.cons rfl (.cons rfl .nil)))))) (by kernel_rfl) (fun _ _ _ _ _ h => h) rfl (by kernel_rfl) (by repeat (first | exact HFS.out | exact HFW.out | exact Frm.refl _ _ | apply Frm.drew1 | apply Frm.drew)) ?_
             intro K hK
             repeat (go_big_quiet_step (fail))
             refine wpQuiet_nil (hK _ ?_)
             clear hK K
             refine held_call (fuel := 33) (i := 9) rfl (by kernel_rfl) ?_
             go_wp2_with fail
             refine (Ops_any (HI5.out.ar.frm (S := []) (by repeat (first | exact HFS.out | exact HFW.out | exact Frm.refl _ _ | apply Frm.drew1 | apply Frm.drew)) (by simp) (by simp))).mono ?_; rintro e x7 ⟨rfl, rfl⟩
             go_wp2_with fail
             refine onNormal_mk ⟨(by repeat (first | exact HFS.out | exact HFW.out | exact Frm.refl _ _ | apply Frm.drew1 | apply Frm.drew)), ?_⟩
             refine held_row_at (fuel := 21) (is := [11, 12, 13, 14, 15, 16, 17, 18, 19, 20, 21, 23]) (.cons rfl (.cons rfl (.cons rfl (.cons rfl (.cons rfl (.cons rfl (.cons rfl (.cons rfl (.cons rfl (.cons rfl (.cons rfl (.cons rfl .nil)))))))))))) (by kernel_rfl) (fun _ _ _ _ _ h => h) rfl (by kernel_rfl) (by repeat (first | exact HFS.out | exact HFW.out | exact Frm.refl _ _ | apply Frm.drew1 | apply Frm.drew)) ?_
             intro K hK
             repeat (go_big_quiet_step (fail))
             refine wpQuiet_nil (hK _ ?_)
             clear hK K
             refine held_call (fuel := 20) (i := 22) rfl (by kernel_rfl) ?_
             go_wp2_with fail
             refine (kSpot_any (HI5.out.lk.frm (Z := []) (by repeat (first | exact HFS.out | exact HFW.out | exact Frm.refl _ _ | apply Frm.drew1 | apply Frm.drew)) (by simp) (by simp)) i).mono ?_; rw [HSP2.out]; rintro e x10 ⟨rfl, hF⟩; have HFS := Lib.hid (Frm.trans (S := []) (a := x5) (by repeat (first | exact HFS.out | exact HFW.out | exact Frm.refl _ _ | apply Frm.drew1 | apply Frm.drew)) hF); clear hF
             go_wp2_with fail
             refine onNormal_mk ⟨(by repeat (first | exact HFS.out | exact HFW.out | exact Frm.refl _ _ | apply Frm.drew1 | apply Frm.drew)), ?_⟩
             refine held_row_at (fuel := 5) (is := [24, 25, 26, 27, 28, 29, 30, 31, 32, 33, 34, 35, 36, 37, 39]) (.cons rfl (.cons rfl (.cons rfl (.cons rfl (.cons rfl (.cons rfl (.cons rfl (.cons rfl (.cons rfl (.cons rfl (.cons rfl (.cons rfl (.cons rfl (.cons rfl (.cons rfl .nil))))))))))))))) (by kernel_rfl) (fun _ _ _ _ _ h => h) rfl (by kernel_rfl) (by repeat (first | exact HFS.out | exact HFW.out | exact Frm.refl _ _ | apply Frm.drew1 | apply Frm.drew)) ?_
             intro K hK
             repeat (go_big_quiet_step (fail))
             refine wpQuiet_nil (hK _ ?_)
             clear hK K
             refine held_call (fuel := 4) (i := 38) rfl (by kernel_rfl) ?_
             go_wp2_with fail
             refine (Words_any (HI5.out.ar.frm (S := []) (by repeat (first | exact HFS.out | exact HFW.out | exact Frm.refl _ _ | apply Frm.drew1 | apply Frm.drew)) (by simp) (by simp))).mono ?_; rintro e x8 ⟨v8, rfl, hO, hF⟩; have HFW := Lib.hid (Frm.trans (S := []) (a := x5) (by repeat (first | exact HFS.out | exact HFW.out | exact Frm.refl _ _ | apply Frm.drew1 | apply Frm.drew)) hF); have HO8 := Lib.hid (hO.base (Nat.zero_le _)); clear hO hF
             go_wp2_with fail
             refine onNormal_mk ⟨(by repeat (first | exact HFS.out | exact HFW.out | exact Frm.refl _ _ | apply Frm.drew1 | apply Frm.drew)), ?_⟩
             refine held_call (fuel := 3) (i := 40) rfl (by kernel_rfl) ?_
             go_wp2_with fail
             refine (Same_any _ HO8.out.row (HO5.out.frm (S := []) (by repeat (first | exact HFS.out | exact HFW.out | exact Frm.refl _ _ | apply Frm.drew1 | apply Frm.drew)) (by simp)).row).mono ?_; rw [show decide (A'.words = A.words) = true from by rw [EW.out]; simp]; rintro e x9 ⟨rfl, nn, rfl⟩
             go_wp2_with fail
             refine onNormal_mk ⟨(by repeat (first | exact HFS.out | exact HFW.out | exact Frm.refl _ _ | apply Frm.drew1 | apply Frm.drew)), ?_⟩
             refine held_row_at (fuel := 0) (is := [41, 42, 43]) (.cons rfl (.cons rfl (.cons rfl .nil))) (by kernel_rfl) (fun _ _ _ _ _ h => h) rfl (by kernel_rfl) (by repeat (first | exact HFS.out | exact HFW.out | exact Frm.refl _ _ | apply Frm.drew1 | apply Frm.drew)) ?_
             intro K hK
             repeat (go_big_quiet_step (fail))
             refine wpQuiet_nil (hK _ ?_)
             clear hK K
             refine held_end (by kernel_rfl) ?_
             go_wp2_with fail
             go_meet
             exact ⟨rfl, (by repeat (first | exact HFS.out | exact HFW.out | exact Frm.refl _ _ | apply Frm.drew1 | apply Frm.drew))⟩
         · subst hk
           have EA : Hid (A' = A) := Lib.hid (HAR.out (.inr rfl))
           have EW : Hid (A'.words = A.words) := Lib.hid (HWD.out (by omega))
           have ee : (A'.ops != A.ops) = false := by rw [EA.out]; simp
           obtain rfl : asks = true := HASK.out
           clear HASK
           have hne : Nonempty (HW (fun wx => Frm [] x5 wx)) := ⟨⟨x5, Frm.refl _ _⟩⟩
           have hz0 : ∀ z : HW (fun wx => Frm [] x5 wx), z.w.cell? ⟨b, off + k * 2, none⟩ = some (.int .i64 2) := fun z => (HCX.out _ (HI5.out.frm.trans z.h)).1
           have hz1 : ∀ z : HW (fun wx => Frm [] x5 wx), z.w.cell? ⟨b, off + k * 2 + 1, none⟩ = some (.int .i64 i) := fun z => (HCX.out _ (HI5.out.frm.trans z.h)).2
           have hz2 : ∀ z : HW (fun wx => Frm [] x5 wx), z.w.cell? ⟨wsb, 0, none⟩ = some (.int .i64 p0) := fun z => (HW5.out.frm z.h (by simp)).cell (i := 0) rfl
           have hz3 : ∀ z : HW (fun wx => Frm [] x5 wx), z.w.cell? ⟨wsb, 1, none⟩ = some (.int .i64 p1) := fun z => (HW5.out.frm z.h (by simp)).cell (i := 1) rfl
           have hz4 : ∀ z : HW (fun wx => Frm [] x5 wx), z.w.cell? ⟨wsb, 2, none⟩ = some (.int .i64 p2) := fun z => (HW5.out.frm z.h (by simp)).cell (i := 2) rfl
           have hz5 : ∀ z : HW (fun wx => Frm [] x5 wx), z.w.cell? ⟨wsb, 3, none⟩ = some (.int .i64 p3) := fun z => (HW5.out.frm z.h (by simp)).cell (i := 3) rfl
           cases ok with
           | true =>
             refine held_begin (S := fun wx => Frm [] x5 wx) (by kernel_rfl) ?_
             refine held_row_at (fuel := 41) (is := [0, 2, 3]) (.cons rfl (.cons rfl (.cons rfl .nil))) (by kernel_rfl) (fun _ _ _ _ _ h => h) rfl (by kernel_rfl) (Frm.refl _ _).drew1 ?_
             intro K hK
             repeat (go_big_quiet_step (fail))
             refine wpQuiet_nil (hK _ ?_)
             clear hK K
             refine held_call (fuel := 40) (i := 1) rfl (by kernel_rfl) ?_
             go_wp2_with fail
             refine (Ops_any (HI5.out.ar.frm (S := []) (by repeat (first | exact HFS.out | exact HFW.out | exact Frm.refl _ _ | apply Frm.drew1 | apply Frm.drew)) (by simp) (by simp))).mono ?_; rintro e x7 ⟨rfl, rfl⟩
             go_wp2_with fail
             refine onNormal_mk ⟨(by repeat (first | exact HFS.out | exact HFW.out | exact Frm.refl _ _ | apply Frm.drew1 | apply Frm.drew)), ?_⟩
             refine held_row_at (fuel := 34) (is := [4, 5, 6, 7, 8, 10]) (.cons rfl (.cons rfl (.cons rfl (.cons rfl (.cons rfl (.cons rfl .nil)))))) (by kernel_rfl) (fun _ _ _ _ _ h => h) rfl (by kernel_rfl) (by repeat (first | exact HFS.out | exact HFW.out | exact Frm.refl _ _ | apply Frm.drew1 | apply Frm.drew)) ?_
             intro K hK
             repeat (go_big_quiet_step (fail))
             refine wpQuiet_nil (hK _ ?_)
             clear hK K
             refine held_call (fuel := 33) (i := 9) rfl (by kernel_rfl) ?_
             go_wp2_with fail
             refine (Ops_any (HI5.out.ar.frm (S := []) (by repeat (first | exact HFS.out | exact HFW.out | exact Frm.refl _ _ | apply Frm.drew1 | apply Frm.drew)) (by simp) (by simp))).mono ?_; rintro e x7 ⟨rfl, rfl⟩
             go_wp2_with fail
             refine onNormal_mk ⟨(by repeat (first | exact HFS.out | exact HFW.out | exact Frm.refl _ _ | apply Frm.drew1 | apply Frm.drew)), ?_⟩
             refine held_row_at (fuel := 21) (is := [11, 12, 13, 14, 15, 16, 17, 18, 19, 20, 21, 23]) (.cons rfl (.cons rfl (.cons rfl (.cons rfl (.cons rfl (.cons rfl (.cons rfl (.cons rfl (.cons rfl (.cons rfl (.cons rfl (.cons rfl .nil)))))))))))) (by kernel_rfl) (fun _ _ _ _ _ h => h) rfl (by kernel_rfl) (by repeat (first | exact HFS.out | exact HFW.out | exact Frm.refl _ _ | apply Frm.drew1 | apply Frm.drew)) ?_
             intro K hK
             repeat (go_big_quiet_step (fail))
             refine wpQuiet_nil (hK _ ?_)
             clear hK K
             refine held_call (fuel := 20) (i := 22) rfl (by kernel_rfl) ?_
             go_wp2_with fail
             refine onNormal_mk ⟨(by repeat (first | exact HFS.out | exact HFW.out | exact Frm.refl _ _ | apply Frm.drew1 | apply Frm.drew)), ?_⟩
             refine held_row_at (fuel := 5) (is := [24, 25, 26, 27, 28, 29, 30, 31, 32, 33, 34, 35, 36, 37, 39]) (.cons rfl (.cons rfl (.cons rfl (.cons rfl (.cons rfl (.cons rfl (.cons rfl (.cons rfl (.cons rfl (.cons rfl (.cons rfl (.cons rfl (.cons rfl (.cons rfl (.cons rfl .nil))))))))))))))) (by kernel_rfl) (fun _ _ _ _ _ h => h) rfl (by kernel_rfl) (by repeat (first | exact HFS.out | exact HFW.out | exact Frm.refl _ _ | apply Frm.drew1 | apply Frm.drew)) ?_
             intro K hK
             repeat (go_big_quiet_step (fail))
             refine wpQuiet_nil (hK _ ?_)
             clear hK K
             refine held_call (fuel := 4) (i := 38) rfl (by kernel_rfl) ?_
             go_wp2_with fail
             refine (Words_any (HI5.out.ar.frm (S := []) (by repeat (first | exact HFS.out | exact HFW.out | exact Frm.refl _ _ | apply Frm.drew1 | apply Frm.drew)) (by simp) (by simp))).mono ?_; rintro e x8 ⟨v8, rfl, hO, hF⟩; have HFW := Lib.hid (Frm.trans (S := []) (a := x5) (by repeat (first | exact HFS.out | exact HFW.out | exact Frm.refl _ _ | apply Frm.drew1 | apply Frm.drew)) hF); have HO8 := Lib.hid (hO.base (Nat.zero_le _)); clear hO hF
             go_wp2_with fail
             refine onNormal_mk ⟨(by repeat (first | exact HFS.out | exact HFW.out | exact Frm.refl _ _ | apply Frm.drew1 | apply Frm.drew)), ?_⟩
             refine held_call (fuel := 3) (i := 40) rfl (by kernel_rfl) ?_
             go_wp2_with fail
             refine (Same_any _ HO8.out.row (HO5.out.frm (S := []) (by repeat (first | exact HFS.out | exact HFW.out | exact Frm.refl _ _ | apply Frm.drew1 | apply Frm.drew)) (by simp)).row).mono ?_; rw [show decide (A'.words = A.words) = true from by rw [EW.out]; simp]; rintro e x9 ⟨rfl, nn, rfl⟩
             go_wp2_with fail
             refine onNormal_mk ⟨(by repeat (first | exact HFS.out | exact HFW.out | exact Frm.refl _ _ | apply Frm.drew1 | apply Frm.drew)), ?_⟩
             refine held_row_at (fuel := 0) (is := [41, 42, 43]) (.cons rfl (.cons rfl (.cons rfl .nil))) (by kernel_rfl) (fun _ _ _ _ _ h => h) rfl (by kernel_rfl) (by repeat (first | exact HFS.out | exact HFW.out | exact Frm.refl _ _ | apply Frm.drew1 | apply Frm.drew)) ?_
             intro K hK
             repeat (go_big_quiet_step (fail))
             refine wpQuiet_nil (hK _ ?_)
             clear hK K
             refine held_end (by kernel_rfl) ?_
             go_wp2_with fail
             go_meet
             exact ⟨rfl, (by repeat (first | exact HFS.out | exact HFW.out | exact Frm.refl _ _ | apply Frm.drew1 | apply Frm.drew))⟩
           | false =>
             have hS2 : S' = S := HNO.out (.inr rfl) rfl
             have HSP2 : Hid (spV s S' i = .agg #[.int .i64 p0, .int .i64 p1, .int .i64 p2, .int .i64 p3]) := Lib.hid (by rw [hS2]; exact HSP.out)
             clear hS2
             refine held_begin (S := fun wx => Frm [] x5 wx) (by kernel_rfl) ?_
             refine held_row_at (fuel := 41) (is := [0, 2, 3]) (.cons rfl (.cons rfl (.cons rfl .nil))) (by kernel_rfl) (fun _ _ _ _ _ h => h) rfl (by kernel_rfl) (Frm.refl _ _).drew1 ?_
             intro K hK
             repeat (go_big_quiet_step (fail))
             refine wpQuiet_nil (hK _ ?_)
             clear hK K
             refine held_call (fuel := 40) (i := 1) rfl (by kernel_rfl) ?_
             go_wp2_with fail
             refine (Ops_any (HI5.out.ar.frm (S := []) (by repeat (first | exact HFS.out | exact HFW.out | exact Frm.refl _ _ | apply Frm.drew1 | apply Frm.drew)) (by simp) (by simp))).mono ?_; rintro e x7 ⟨rfl, rfl⟩
             go_wp2_with fail
             refine onNormal_mk ⟨(by repeat (first | exact HFS.out | exact HFW.out | exact Frm.refl _ _ | apply Frm.drew1 | apply Frm.drew)), ?_⟩
             refine held_row_at (fuel := 34) (is := [4, 5, 6, 7, 8, 10]) (.cons rfl (.cons rfl (.cons rfl (.cons rfl (.cons rfl (.cons rfl .nil)))))) (by kernel_rfl) (fun _ _ _ _ _ h => h) rfl (by kernel_rfl) (by repeat (first | exact HFS.out | exact HFW.out | exact Frm.refl _ _ | apply Frm.drew1 | apply Frm.drew)) ?_
             intro K hK
             repeat (go_big_quiet_step (fail))
             refine wpQuiet_nil (hK _ ?_)
             clear hK K
             refine held_call (fuel := 33) (i := 9) rfl (by kernel_rfl) ?_
             go_wp2_with fail
             refine (Ops_any (HI5.out.ar.frm (S := []) (by repeat (first | exact HFS.out | exact HFW.out | exact Frm.refl _ _ | apply Frm.drew1 | apply Frm.drew)) (by simp) (by simp))).mono ?_; rintro e x7 ⟨rfl, rfl⟩
             go_wp2_with fail
             refine onNormal_mk ⟨(by repeat (first | exact HFS.out | exact HFW.out | exact Frm.refl _ _ | apply Frm.drew1 | apply Frm.drew)), ?_⟩
             refine held_row_at (fuel := 21) (is := [11, 12, 13, 14, 15, 16, 17, 18, 19, 20, 21, 23]) (.cons rfl (.cons rfl (.cons rfl (.cons rfl (.cons rfl (.cons rfl (.cons rfl (.cons rfl (.cons rfl (.cons rfl (.cons rfl (.cons rfl .nil)))))))))))) (by kernel_rfl) (fun _ _ _ _ _ h => h) rfl (by kernel_rfl) (by repeat (first | exact HFS.out | exact HFW.out | exact Frm.refl _ _ | apply Frm.drew1 | apply Frm.drew)) ?_
             intro K hK
             repeat (go_big_quiet_step (fail))
             refine wpQuiet_nil (hK _ ?_)
             clear hK K
             refine held_call (fuel := 20) (i := 22) rfl (by kernel_rfl) ?_
             go_wp2_with fail
             refine (kSpot_any (HI5.out.lk.frm (Z := []) (by repeat (first | exact HFS.out | exact HFW.out | exact Frm.refl _ _ | apply Frm.drew1 | apply Frm.drew)) (by simp) (by simp)) i).mono ?_; rw [HSP2.out]; rintro e x10 ⟨rfl, hF⟩; have HFS := Lib.hid (Frm.trans (S := []) (a := x5) (by repeat (first | exact HFS.out | exact HFW.out | exact Frm.refl _ _ | apply Frm.drew1 | apply Frm.drew)) hF); clear hF
             go_wp2_with fail
             refine onNormal_mk ⟨(by repeat (first | exact HFS.out | exact HFW.out | exact Frm.refl _ _ | apply Frm.drew1 | apply Frm.drew)), ?_⟩
             refine held_row_at (fuel := 5) (is := [24, 25, 26, 27, 28, 29, 30, 31, 32, 33, 34, 35, 36, 37, 39]) (.cons rfl (.cons rfl (.cons rfl (.cons rfl (.cons rfl (.cons rfl (.cons rfl (.cons rfl (.cons rfl (.cons rfl (.cons rfl (.cons rfl (.cons rfl (.cons rfl (.cons rfl .nil))))))))))))))) (by kernel_rfl) (fun _ _ _ _ _ h => h) rfl (by kernel_rfl) (by repeat (first | exact HFS.out | exact HFW.out | exact Frm.refl _ _ | apply Frm.drew1 | apply Frm.drew)) ?_
             intro K hK
             repeat (go_big_quiet_step (fail))
             refine wpQuiet_nil (hK _ ?_)
             clear hK K
             refine held_call (fuel := 4) (i := 38) rfl (by kernel_rfl) ?_
             go_wp2_with fail
             refine (Words_any (HI5.out.ar.frm (S := []) (by repeat (first | exact HFS.out | exact HFW.out | exact Frm.refl _ _ | apply Frm.drew1 | apply Frm.drew)) (by simp) (by simp))).mono ?_; rintro e x8 ⟨v8, rfl, hO, hF⟩; have HFW := Lib.hid (Frm.trans (S := []) (a := x5) (by repeat (first | exact HFS.out | exact HFW.out | exact Frm.refl _ _ | apply Frm.drew1 | apply Frm.drew)) hF); have HO8 := Lib.hid (hO.base (Nat.zero_le _)); clear hO hF
             go_wp2_with fail
             refine onNormal_mk ⟨(by repeat (first | exact HFS.out | exact HFW.out | exact Frm.refl _ _ | apply Frm.drew1 | apply Frm.drew)), ?_⟩
             refine held_call (fuel := 3) (i := 40) rfl (by kernel_rfl) ?_
             go_wp2_with fail
             refine (Same_any _ HO8.out.row (HO5.out.frm (S := []) (by repeat (first | exact HFS.out | exact HFW.out | exact Frm.refl _ _ | apply Frm.drew1 | apply Frm.drew)) (by simp)).row).mono ?_; rw [show decide (A'.words = A.words) = true from by rw [EW.out]; simp]; rintro e x9 ⟨rfl, nn, rfl⟩
             go_wp2_with fail
             refine onNormal_mk ⟨(by repeat (first | exact HFS.out | exact HFW.out | exact Frm.refl _ _ | apply Frm.drew1 | apply Frm.drew)), ?_⟩
             refine held_row_at (fuel := 0) (is := [41, 42, 43]) (.cons rfl (.cons rfl (.cons rfl .nil))) (by kernel_rfl) (fun _ _ _ _ _ h => h) rfl (by kernel_rfl) (by repeat (first | exact HFS.out | exact HFW.out | exact Frm.refl _ _ | apply Frm.drew1 | apply Frm.drew)) ?_
             intro K hK
             repeat (go_big_quiet_step (fail))
             refine wpQuiet_nil (hK _ ?_)
             clear hK K
             refine held_end (by kernel_rfl) ?_
             go_wp2_with fail
             go_meet
             exact ⟨rfl, (by repeat (first | exact HFS.out | exact HFW.out | exact Frm.refl _ _ | apply Frm.drew1 | apply Frm.drew))⟩
         · have EW : Hid (A'.words = A.words) := Lib.hid (HWD.out hk.1)
           have e0 : (kind != 0) = true := by simpa using hk.1
           obtain rfl : asks = false := by rw [HASK.out]; simp [hk.2.1, hk.2.2]
           clear hk HASK
           have hne : Nonempty (HW (fun wx => Frm [] x5 wx)) := ⟨⟨x5, Frm.refl _ _⟩⟩
           have hz0 : ∀ z : HW (fun wx => Frm [] x5 wx), z.w.cell? ⟨b, off + k * 2, none⟩ = some (.int .i64 kind) := fun z => (HCX.out _ (HI5.out.frm.trans z.h)).1
           have hz1 : ∀ z : HW (fun wx => Frm [] x5 wx), z.w.cell? ⟨b, off + k * 2 + 1, none⟩ = some (.int .i64 i) := fun z => (HCX.out _ (HI5.out.frm.trans z.h)).2
           have hz2 : ∀ z : HW (fun wx => Frm [] x5 wx), z.w.cell? ⟨wsb, 0, none⟩ = some (.int .i64 p0) := fun z => (HW5.out.frm z.h (by simp)).cell (i := 0) rfl
           have hz3 : ∀ z : HW (fun wx => Frm [] x5 wx), z.w.cell? ⟨wsb, 1, none⟩ = some (.int .i64 p1) := fun z => (HW5.out.frm z.h (by simp)).cell (i := 1) rfl
           have hz4 : ∀ z : HW (fun wx => Frm [] x5 wx), z.w.cell? ⟨wsb, 2, none⟩ = some (.int .i64 p2) := fun z => (HW5.out.frm z.h (by simp)).cell (i := 2) rfl
           have hz5 : ∀ z : HW (fun wx => Frm [] x5 wx), z.w.cell? ⟨wsb, 3, none⟩ = some (.int .i64 p3) := fun z => (HW5.out.frm z.h (by simp)).cell (i := 3) rfl
           refine held_begin (S := fun wx => Frm [] x5 wx) (by kernel_rfl) ?_
           refine held_row_at (fuel := 41) (is := [0, 2, 3]) (.cons rfl (.cons rfl (.cons rfl .nil))) (by kernel_rfl) (fun _ _ _ _ _ h => h) rfl (by kernel_rfl) (Frm.refl _ _).drew1 ?_
           intro K hK
           repeat (go_big_quiet_step (fail))
           refine wpQuiet_nil (hK _ ?_)
           clear hK K
           refine held_call (fuel := 40) (i := 1) rfl (by kernel_rfl) ?_
           go_wp2_with fail
           refine (Ops_any (HI5.out.ar.frm (S := []) (by repeat (first | exact HFS.out | exact HFW.out | exact Frm.refl _ _ | apply Frm.drew1 | apply Frm.drew)) (by simp) (by simp))).mono ?_; rintro e x7 ⟨rfl, rfl⟩
           go_wp2_with fail
           refine onNormal_mk ⟨(by repeat (first | exact HFS.out | exact HFW.out | exact Frm.refl _ _ | apply Frm.drew1 | apply Frm.drew)), ?_⟩
           refine held_row_at (fuel := 34) (is := [4, 5, 6, 7, 8, 10]) (.cons rfl (.cons rfl (.cons rfl (.cons rfl (.cons rfl (.cons rfl .nil)))))) (by kernel_rfl) (fun _ _ _ _ _ h => h) rfl (by kernel_rfl) (by repeat (first | exact HFS.out | exact HFW.out | exact Frm.refl _ _ | apply Frm.drew1 | apply Frm.drew)) ?_
           intro K hK
           repeat (go_big_quiet_step (fail))
           refine wpQuiet_nil (hK _ ?_)
           clear hK K
           refine held_call (fuel := 33) (i := 9) rfl (by kernel_rfl) ?_
           go_wp2_with fail
           refine onNormal_mk ⟨(by repeat (first | exact HFS.out | exact HFW.out | exact Frm.refl _ _ | apply Frm.drew1 | apply Frm.drew)), ?_⟩
           refine held_row_at (fuel := 21) (is := [11, 12, 13, 14, 15, 16, 17, 18, 19, 20, 21, 23]) (.cons rfl (.cons rfl (.cons rfl (.cons rfl (.cons rfl (.cons rfl (.cons rfl (.cons rfl (.cons rfl (.cons rfl (.cons rfl (.cons rfl .nil)))))))))))) (by kernel_rfl) (fun _ _ _ _ _ h => h) rfl (by kernel_rfl) (by repeat (first | exact HFS.out | exact HFW.out | exact Frm.refl _ _ | apply Frm.drew1 | apply Frm.drew)) ?_
           intro K hK
           repeat (go_big_quiet_step (fail))
           refine wpQuiet_nil (hK _ ?_)
           clear hK K
           refine held_call (fuel := 20) (i := 22) rfl (by kernel_rfl) ?_
           go_wp2_with fail
           refine onNormal_mk ⟨(by repeat (first | exact HFS.out | exact HFW.out | exact Frm.refl _ _ | apply Frm.drew1 | apply Frm.drew)), ?_⟩
           refine held_row_at (fuel := 5) (is := [24, 25, 26, 27, 28, 29, 30, 31, 32, 33, 34, 35, 36, 37, 39]) (.cons rfl (.cons rfl (.cons rfl (.cons rfl (.cons rfl (.cons rfl (.cons rfl (.cons rfl (.cons rfl (.cons rfl (.cons rfl (.cons rfl (.cons rfl (.cons rfl (.cons rfl .nil))))))))))))))) (by kernel_rfl) (fun _ _ _ _ _ h => h) rfl (by kernel_rfl) (by repeat (first | exact HFS.out | exact HFW.out | exact Frm.refl _ _ | apply Frm.drew1 | apply Frm.drew)) ?_
           intro K hK
           repeat (go_big_quiet_step (fail))
           refine wpQuiet_nil (hK _ ?_)
           clear hK K
           refine held_call (fuel := 4) (i := 38) rfl (by kernel_rfl) ?_
           go_wp2_with fail
           refine (Words_any (HI5.out.ar.frm (S := []) (by repeat (first | exact HFS.out | exact HFW.out | exact Frm.refl _ _ | apply Frm.drew1 | apply Frm.drew)) (by simp) (by simp))).mono ?_; rintro e x8 ⟨v8, rfl, hO, hF⟩; have HFW := Lib.hid (Frm.trans (S := []) (a := x5) (by repeat (first | exact HFS.out | exact HFW.out | exact Frm.refl _ _ | apply Frm.drew1 | apply Frm.drew)) hF); have HO8 := Lib.hid (hO.base (Nat.zero_le _)); clear hO hF
           go_wp2_with fail
           refine onNormal_mk ⟨(by repeat (first | exact HFS.out | exact HFW.out | exact Frm.refl _ _ | apply Frm.drew1 | apply Frm.drew)), ?_⟩
           refine held_call (fuel := 3) (i := 40) rfl (by kernel_rfl) ?_
           go_wp2_with fail
           refine (Same_any _ HO8.out.row (HO5.out.frm (S := []) (by repeat (first | exact HFS.out | exact HFW.out | exact Frm.refl _ _ | apply Frm.drew1 | apply Frm.drew)) (by simp)).row).mono ?_; rw [show decide (A'.words = A.words) = true from by rw [EW.out]; simp]; rintro e x9 ⟨rfl, nn, rfl⟩
           go_wp2_with fail
           refine onNormal_mk ⟨(by repeat (first | exact HFS.out | exact HFW.out | exact Frm.refl _ _ | apply Frm.drew1 | apply Frm.drew)), ?_⟩
           refine held_row_at (fuel := 0) (is := [41, 42, 43]) (.cons rfl (.cons rfl (.cons rfl .nil))) (by kernel_rfl) (fun _ _ _ _ _ h => h) rfl (by kernel_rfl) (by repeat (first | exact HFS.out | exact HFW.out | exact Frm.refl _ _ | apply Frm.drew1 | apply Frm.drew)) ?_
           intro K hK
           repeat (go_big_quiet_step (fail))
           refine wpQuiet_nil (hK _ ?_)
           clear hK K
           refine held_end (by kernel_rfl) ?_
           go_wp2_with fail
           go_meet
           exact ⟨rfl, (by repeat (first | exact HFS.out | exact HFW.out | exact Frm.refl _ _ | apply Frm.drew1 | apply Frm.drew))⟩
       case rest =>
         obtain ⟨rfl, hF⟩ := hcut
         have HF6 := Lib.hid hF
         clear hF c0 c1 HO5 hg1 hg2 hg3 HNO HAR HWD
         go_wp2_with fail
         go_loopw [15, 16, 17] (fun hh cc jj wx => ∃ (c m j : Nat), hh = .int .i64 c ∧ cc = .int .i64 m ∧ jj = .int .i64 j ∧ j ≤ s ∧ m ≤ j ∧ (c = 0 ∨ (c = 1 ∧ ∃ i, i < j ∧ i < s ∧ S' i 0 = 10)) ∧ (∀ q, q < j → S' q 0 = 2 → 1 ≤ m) ∧ Frm [] x5 wx) (fun _ _ jj _ => s - (intOf jj).toNat)
         case atStart => exact ⟨0, 0, 0, rfl, rfl, rfl, Nat.zero_le _, Nat.zero_le _, .inl rfl, fun q hq => by omega, HF6.out⟩
         case round =>
           obtain ⟨c, m, j, rfl, rfl, rfl, hj, hmj, hc, hm, hF⟩ := hrel
           have HF7 := Lib.hid hF
           have HCC := Lib.hid hc
           have HM := Lib.hid hm
           clear hF HF6 hc hm
           by_cases hlt2 : j < s
           · have l2 : (j : Int) < s := by omega
             have hpcs := HI5.out.inv.pcs j hlt2
             have hsv : spV s S' j = .agg #[.int .i64 (S' j 0), .int .i64 (S' j 1), .int .i64 (S' j 2), .int .i64 (S' j 3)] := by unfold spV sHas; rw [if_pos (by simp; omega)]; rfl
             have HSV := Lib.hid hsv
             clear hsv
             by_cases h10 : S' j 0 = 10
             · have hc0 : c = 0 := by
                 rcases HCC.out with h | ⟨_, i', h1, h2, h3⟩
                 · exact h
                 · exact absurd (HI5.out.inv.one_in h2 hlt2 (.inl h3) (.inl h10)) (by omega)
               subst hc0
               have HH := Lib.hid h10
               rw [h10] at HSV
               clear h10 hpcs
               go_wp2_with fail
               refine (kSpot_any (HI5.out.kept HF7.out).lk j).mono ?_
               rw [HSV.out]
               rintro e x7 ⟨rfl, hF⟩
               have HF8 := Lib.hid (HF7.out.trans hF)
               clear hF
               go_wp2_with fail
               go_roundw
               case rel => exact ⟨1, m, j + 1, rfl, rfl, by go_num, by omega, by omega, .inr ⟨rfl, j, by omega, hlt2, HH.out⟩, fun q hq h2 => if he : q = j then by subst he; have := HH.out; omega else HM.out q (by omega) h2, HF8.out⟩
               case measure => simp [intOf]; omega
             · by_cases h2 : S' j 0 = 1 ∨ S' j 0 = 2
               · have d1 : (S' j 0 == 10) = false := by simpa using h10
                 have d2 : decide (0 < S' j 0) = true := by simp; omega
                 have d3 : decide (S' j 0 < 10) = true := by simp; omega
                 clear h10 hpcs h2
                 go_wp2_with fail
                 refine (kSpot_any (HI5.out.kept HF7.out).lk j).mono ?_
                 rw [HSV.out]
                 rintro e x7 ⟨rfl, hF⟩
                 have HF8 := Lib.hid (HF7.out.trans hF)
                 clear hF
                 go_wp2_with fail
                 go_roundw
                 case rel => exact ⟨c, m + 1, j + 1, rfl, by go_num, by go_num, by omega, by omega, HCC.out.imp id (fun ⟨h, i', h1, h2, h3⟩ => ⟨h, i', by omega, h2, h3⟩), fun q hq h2 => by omega, HF8.out⟩
                 case measure => simp [intOf]; omega
               · have HH := Lib.hid (And.intro h10 h2)
                 rcases (show S' j 0 = 0 ∨ S' j 0 = 11 by omega) with h0 | h0
                 · rw [h0] at HSV
                   clear h10 hpcs h2 h0
                   go_wp2_with fail
                   refine (kSpot_any (HI5.out.kept HF7.out).lk j).mono ?_
                   rw [HSV.out]
                   rintro e x7 ⟨rfl, hF⟩
                   have HF8 := Lib.hid (HF7.out.trans hF)
                   clear hF
                   go_wp2_with fail
                   go_roundw
                   case rel => exact ⟨c, m, j + 1, rfl, rfl, by go_num, by omega, by omega, HCC.out.imp id (fun ⟨h, i', h1, h2, h3⟩ => ⟨h, i', by omega, h2, h3⟩), fun q hq h2 => if he : q = j then by subst he; have := HH.out; omega else HM.out q (by omega) h2, HF8.out⟩
                   case measure => simp [intOf]; omega
                 · rw [h0] at HSV
                   clear h10 hpcs h2 h0
                   go_wp2_with fail
                   refine (kSpot_any (HI5.out.kept HF7.out).lk j).mono ?_
                   rw [HSV.out]
                   rintro e x7 ⟨rfl, hF⟩
                   have HF8 := Lib.hid (HF7.out.trans hF)
                   clear hF
                   go_wp2_with fail
                   go_roundw
                   case rel => exact ⟨c, m, j + 1, rfl, rfl, by go_num, by omega, by omega, HCC.out.imp id (fun ⟨h, i', h1, h2, h3⟩ => ⟨h, i', by omega, h2, h3⟩), fun q hq h2 => if he : q = j then by subst he; have := HH.out; omega else HM.out q (by omega) h2, HF8.out⟩
                   case measure => simp [intOf]; omega
           · have l2 : ¬ (j : Int) < s := by omega
             have hc1 : c ≤ 1 := by rcases HCC.out with h | ⟨h, _⟩ <;> omega
             have d1 : decide ((1 : Int) < c) = false := by simp; omega
             have d2 : decide (1 < c) = false := by simp; omega
             have es : j = s := by omega
             obtain ⟨c0, c1⟩ := HCX.out _ (HI5.out.kept HF7.out).frm
             have k0 : _ := (HW5.out.frm HF7.out (by simp)).cell (i := 0) rfl
             by_cases h3 : kind = 3
             · subst h3
               by_cases h10 : p0 = 10
               · cases ok with
                 | true =>
                   subst h10
                   go_wp2_with fail
                   go_roundw
                   case rel => exact ⟨k + 1, V', A', S', D', rfl, by omega, HI5.out.kept HF7.out⟩
                   case measure => simp [intOf]; omega
                 | false =>
                   obtain ⟨z, z1, z2⟩ := HBH.out rfl h10 rfl
                   have m1 := HM.out z (by omega) z2
                   have d5 : ((m : Int) == 0) = false := by simp; omega
                   have d6 : (m == 0) = false := by simp; omega
                   clear z2
                   subst h10
                   go_wp2_with fail
                   go_roundw
                   case rel => exact ⟨k + 1, V', A', S', D', rfl, by omega, HI5.out.kept HF7.out⟩
                   case measure => simp [intOf]; omega
               · have d4 : (p0 == 10) = false := by simpa using h10
                 clear h10
                 go_wp2_with fail
                 go_roundw
                 case rel => exact ⟨k + 1, V', A', S', D', rfl, by omega, HI5.out.kept HF7.out⟩
                 case measure => simp [intOf]; omega
             · have d4 : (kind == 3) = false := by simpa using h3
               clear h3
               go_wp2_with fail
               go_roundw
               case rel => exact ⟨k + 1, V', A', S', D', rfl, by omega, HI5.out.kept HF7.out⟩
               case measure => simp [intOf]; omega
    · have l1 : ¬ (k : Int) < acts.length := by omega
      clear hI
      go_wp2_with fail
      refine (kawake _).mono ?_
      rintro e x2 ⟨rfl, hF⟩
      have HI9 := Lib.hid (HI1.out.frm.trans hF)
      clear hF
      go_wp2
      go_ret
      exact ⟨rfl, HI9.out.below (Nat.le_refl _) (by simp)⟩

theorem ticketOne_walk (n : Int) (v : Value) (acts : List (Int × Int)) (w : World) (hn : U8 n) (h : ActsAt w v acts) :
    Calls Try.prog 6 #[.int .u8 n, v] w fun e w' => e = .returned (.bool true) ∧ Below w.heap.size w w' := by
  by_cases hl : acts.length ≤ 100
  · exact ticketOne_short n v acts w hn h hl
  · exact ticketOne_long n v acts w h (by omega)

end Go.Proofs.Ytmfeaancnkadbaa
