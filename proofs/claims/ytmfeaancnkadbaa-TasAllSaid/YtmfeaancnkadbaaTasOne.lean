/- The walk of the law TasOne: it returns true, and writes nothing that was there. -/
import Derived.Test.YtmfeaancnkadbaaTasInv
import Derived.Test.YtmfeaancnkadbaaActs
import Derived.Test.YtmfeaancnkadbaaSeg
namespace Go.Proofs.Ytmfeaancnkadbaa
open Go.RowKit

structure TOI (w0 w : World) (wb ab lb sb n : Nat) (most : Int) (S : Nat → Nat → Int) (A : AR) (k : Nat) : Prop where
  ar : ArAt w ab wb A
  lk : LkAt w lb ab sb 1 n most S
  inv : TInv n S A k
  frm : Frm [] w0 w
  o0 : w0.heap.size ≤ wb
  o1 : w0.heap.size ≤ ab
  o2 : w0.heap.size ≤ lb
  o3 : w0.heap.size ≤ sb
  ne : lb ≠ ab ∧ lb ≠ wb ∧ sb ≠ ab ∧ sb ≠ wb

section
variable {w0 w w1 : World} {wb ab lb sb n k : Nat} {most : Int} {S : Nat → Nat → Int} {A : AR}
theorem TOI.kept (h : TOI w0 w wb ab lb sb n most S A k) (hf : Frm [] w w1) : TOI w0 w1 wb ab lb sb n most S A k :=
  { h with ar := h.ar.frm hf (by simp) (by simp), lk := h.lk.frm hf (by simp) (by simp), frm := h.frm.trans hf }
theorem TOI.do_ (h : TOI w0 w wb ab lb sb n most S A k) (hk : k ≤ 1000) (kind i : Int) : Calls Try.prog 19 #[.pointer (some ⟨lb, 0, none⟩), .agg #[.int .i64 kind, .int .i64 i]] w fun e w' => e = .returned (.bool (tDoR n 1 S A kind i)) ∧
    TOI w0 w' wb ab lb sb n most (tDoS n 1 most S A kind i) (tDoA n 1 S A kind i) (k + 1) ∧ Frm [sb, ab, wb] w w' := by
  have := h.o0; have := h.o1; have := h.o2; have := h.o3
  exact (tDo_any h.lk h.ar h.ne kind i).mono fun e w' ⟨h1, h2, h3, h4⟩ => ⟨h1, { h with ar := h3, lk := h2, inv := (h.inv.do_ hk kind i).1, frm := h.frm.widen h4 (by simp; omega) }, h4⟩
end

theorem spV_agg (n : Nat) (S : Nat → Nat → Int) (i : Int) : ∃ a b c d : Int, spV n S i = .agg #[.int .i64 a, .int .i64 b, .int .i64 c, .int .i64 d] := by
  unfold spV
  split
  · exact ⟨_, _, _, _, rfl⟩
  · exact ⟨_, _, _, _, rfl⟩

set_option maxRecDepth 100000 in
set_option maxHeartbeats 1000000 in
theorem tasOne_long (n m : Int) (v : Value) (acts : List (Int × Int)) (w : World) (h : ActsAt w v acts) (hl : 100 < acts.length) :
    Calls Try.prog 5 #[.int .u8 n, .int .u8 m, v] w fun e w' => e = .returned (.bool true) ∧ Below w.heap.size w w' := by
  obtain ⟨a, cap, rfl, -, -, -⟩ := h
  have d1 : decide ((100 : Int) < acts.length) = true := by simp; omega
  go_enter Try.func5, Try.ntmps5
  go_wp2_with fail
  refine (tsawake _).mono ?_
  rintro e w1 ⟨rfl, hF⟩
  have HF := Lib.hid hF
  clear hF
  go_wp2
  go_ret
  exact ⟨rfl, HF.out.below (Nat.le_refl _) (by simp)⟩

set_option maxRecDepth 100000 in
set_option maxHeartbeats 8000000 in
theorem tasOne_short (n m : Int) (v : Value) (acts : List (Int × Int)) (w : World) (hn : U8 n) (hm : U8 m) (h : ActsAt w v acts) (hl : acts.length ≤ 100) :
    Calls Try.prog 5 #[.int .u8 n, .int .u8 m, v] w fun e w' => e = .returned (.bool true) ∧ Below w.heap.size w w' := by
  obtain ⟨a, cap, rfl, -, hc, hwf⟩ := h
  have d1 : decide ((100 : Int) < acts.length) = false := by simp; omega
  have HC := Lib.hid hc
  have fd := spotPc
  unfold U8 at hn hm
  obtain ⟨hn0, hn1⟩ := hn
  obtain ⟨hm0, hm1⟩ := hm
  obtain ⟨q, hq, hq8⟩ : ∃ q : Nat, n % 8 = q ∧ q < 8 := ⟨(n % 8).toNat, by omega, by omega⟩
  obtain ⟨s, hs⟩ : ∃ s : Nat, 1 + (q : Int) = (s : Int) := ⟨1 + q, by omega⟩
  have s1 : 1 ≤ s := by omega
  have s8 : s ≤ 8 := by omega
  obtain ⟨q2, hq2, hq16⟩ : ∃ q : Nat, m % 16 = q ∧ q < 16 := ⟨(m % 16).toNat, by omega, by omega⟩
  obtain ⟨mo, hmo⟩ : ∃ r : Nat, 1 + (q2 : Int) = (r : Int) := ⟨1 + q2, by omega⟩
  have mo1 : 1 ≤ mo := by omega
  have mo2 : mo ≤ 16 := by omega
  clear hc hwf
  go_enter Try.func5, Try.ntmps5
  go_wp2_with fail
  refine (New_any 10 _).mono ?_
  rintro e w1 ⟨rfl, hA, hF⟩
  have hab := hA.box.lt
  have HA : Hid (ArAt w1 (w.heap.size + 1) w.heap.size ⟨[0, 0, 0, 0, 0, 0, 0, 0, 0, 0], 0, 0, 0, 0, false⟩) := Lib.hid (hA.to (by kernel_rfl))
  have HF1 := Lib.hid hF
  clear hA hF
  go_wp2_with fail
  refine (lNew_ok (most := mo) HA.out s s1 (by omega) (by omega) (by omega) (by kernel_rfl)).mono ?_
  rintro e w2 ⟨lb, sb, rfl, hlb, hsb, hL, hA, hF⟩
  have hA' : ArAt w2 (w.heap.size + 1) w.heap.size ⟨[0, 0, 0, 0, 0, 0, 0, 0, 0, 0], 1, 0, 0, 0, false⟩ := hA.to (by kernel_rfl)
  have hI : TOI w w2 w.heap.size (w.heap.size + 1) lb sb s mo (fun _ _ => 0) ⟨[0, 0, 0, 0, 0, 0, 0, 0, 0, 0], 1, 0, 0, 0, false⟩ 0 :=
    { ar := hA', lk := hL, frm := HF1.out.widen hF (by simp), o0 := Nat.le_refl _, o1 := by omega, o2 := by omega, o3 := by omega, ne := by omega,
      inv := { taken := rfl, len := rfl, who := .inl ⟨by kernel_rfl, fun i hi hin => by unfold In at hin; simp at hin⟩, ops0 := Int.le_refl _, ops1 := Int.le_refl _ } }
  have HI := Lib.hid hI
  clear hA hA' hL hF hI HA HF1
  generalize (⟨[0, 0, 0, 0, 0, 0, 0, 0, 0, 0], 1, 0, 0, 0, false⟩ : AR) = A0 at *
  go_wp2_with fail
  go_loopw [11] (fun i wx => ∃ (k : Nat) (A : AR) (S : Nat → Nat → Int), i = .int .i64 k ∧ k ≤ acts.length ∧ TOI w wx w.heap.size (w.heap.size + 1) lb sb s mo S A k)
    (fun i _ => acts.length - (intOf i).toNat)
  case atStart => exact ⟨0, A0, _, rfl, Nat.zero_le _, HI.out⟩
  case round =>
    obtain ⟨k, A, S, rfl, hk, hI⟩ := hrel
    have HI1 := Lib.hid hI
    by_cases hlt : k < acts.length
    · obtain ⟨b, off, rfl, hb, hcell⟩ := HC.out (by omega)
      have ex : acts[k]? = some acts[k] := by simp
      have l1 : (k : Int) < acts.length := by omega
      have hcx : ∀ wx, Frm [] w wx → wx.cell? ⟨b, off + k * 2, none⟩ = some (.int .i64 acts[k].1) ∧ wx.cell? ⟨b, off + k * 2 + 1, none⟩ = some (.int .i64 acts[k].2) := fun wx hf => ⟨hf.cell (hcell k _ ex).1 (by simp), hf.cell (hcell k _ ex).2 (by simp)⟩
      have HCX := Lib.hid hcx
      clear hI hcell ex hcx HI
      generalize acts[k] = x at *
      obtain ⟨kind, i⟩ := x
      simp only at HCX
      obtain ⟨c0, c1⟩ := HCX.out _ HI1.out.frm
      obtain ⟨p0, p1, p2, p3, hsp⟩ := spV_agg s S i
      have HSP := Lib.hid hsp
      clear hsp
      go_wp2_with fail
      refine (lSpot_any HI1.out.lk i).mono ?_
      rw [HSP.out]
      rintro e x1 ⟨rfl, hF⟩
      have HI2 := Lib.hid (HI1.out.kept hF)
      clear hF
      go_wp2_with fail
      refine (Ops_any HI2.out.ar).mono ?_
      rintro e x2 ⟨rfl, rfl⟩
      go_wp2_with fail
      refine (Words_any HI2.out.ar).mono ?_
      rintro e x3 ⟨vv, rfl, hO, hF⟩
      have HI3 := Lib.hid (HI2.out.kept hF)
      have HO := Lib.hid hO
      clear hO hF
      clear c0 c1
      go_upto_region 12 with fail
      have hw3 : HAt (x3.alloc (.cells #[.int .i64 p0, .int .i64 p1, .int .i64 p2, .int .i64 p3] 30)) x3.heap.size [.int .i64 p0, .int .i64 p1, .int .i64 p2, .int .i64 p3] 30 := HAt.new x3 _ _
      have hf3 : Frm [] x3 (x3.alloc (.cells #[.int .i64 p0, .int .i64 p1, .int .i64 p2, .int .i64 p3] 30)) := (Frm.refl _ _).alloc _
      have hlt1 := HI3.out.lk.row.lt
      have hlt2 := HI3.out.ar.box.lt
      have hlt3 := HI3.out.ar.row.lt
      have hlt4 := HI2.out.lk.row.lt
      have hlt5 := HI2.out.ar.box.lt
      have hlt6 := HI2.out.ar.row.lt
      have HI4 := Lib.hid (HI3.out.kept hf3)
      have HO4 := Lib.hid (HO.out.frm hf3 (by simp))
      generalize x3.alloc (.cells #[.int .i64 p0, .int .i64 p1, .int .i64 p2, .int .i64 p3] 30) = x4 at *
      generalize x3.heap.size = wsb at *
      have HW4 := Lib.hid hw3
      obtain ⟨c0, c1⟩ := HCX.out _ HI4.out.frm
      clear hw3 hf3 HI1 HI2 HI3 HO
      go_wp2_with fail
      refine (HI4.out.do_ (by omega) kind i).mono ?_
      rintro e x5 ⟨rfl, hI, hF⟩
      have HW5 := Lib.hid (HW4.out.frm hF (by simp; omega))
      have HO5 := Lib.hid (HO4.out.frm hF (by simp; omega))
      have HI5 := Lib.hid hI
      have hops := (HI4.out.inv.do_ (most := mo) (by omega) kind i).2
      have hno := fun hk (h : tDoR s 1 S A kind i = false) => tDo_no (most := mo) hk h
      have hars := fun (hk : kind ≠ 0) => tDo_arena (n := s) (S := S) (A := A) (i := i) hk
      have ha0 := HI4.out.inv.ops0
      have ha1 := HI4.out.inv.ops1
      have HN := Lib.hid hno
      have HAR := Lib.hid hars
      clear hI hF c0 c1 HO4 HW4 HI4 hno hars
      generalize tDoR s 1 S A kind i = ok at *
      generalize hS' : tDoS s 1 mo S A kind i = S' at *
      generalize hA' : tDoA s 1 S A kind i = A' at *
      obtain ⟨c0, c1⟩ := HCX.out _ HI5.out.frm
      have hg1 : decide (IntKind.i64.wrap (A.ops + 1) < A'.ops) = false := by rw [IntWalk.i64_in _ (by omega)]; simp; omega
      have hg2 : decide (A.ops + 1 < A'.ops) = false := by simp; omega
      have hg3 : decide (wrap64 (A.ops + 1) < A'.ops) = false := by rw [show wrap64 (A.ops + 1) = A.ops + 1 from by unfold wrap64; omega]; simp; omega
      have hA'' := Lib.hid hA'
      have hS'' := Lib.hid hS'
      clear hA' hS' ha0 ha1 hops hlt1 hlt2 hlt3 hlt4 hlt5 hlt6
      go_upto_region 13 with fail
      go_cut [106] (fun b106 wx => b106 = .bool false ∧ TOI w wx w.heap.size (w.heap.size + 1) lb sb s mo S' A' (k + 1))
      case first =>
        by_cases hk0 : kind = 0
        · have e0 : (kind != 0) = false := by simpa using hk0
          have HOP := Lib.hid (fun n => (Ops_any (HI5.out.ar.frm (S := []) ((Frm.refl _ x5).drew n) (by simp) (by simp))).mono (fun e w' h => (show e = .returned (.int .i64 A'.ops) ∧ ∃ j, w' = (x5.drewN n).drewN j from ⟨h.1, 0, h.2.symm⟩)))
          clear hk0
          go_quiet ((go_at_call 21; exact Calls.quiet_of (HOP.out _)))
          go_wp2_with fail
          go_meet
          exact ⟨rfl, HI5.out.kept ((Frm.refl _ _).drew _)⟩
        · have e0 : (kind != 0) = true := by simpa using hk0
          have EA : Hid (A' = A) := Lib.hid (HAR.out hk0)
          have HK0 := Lib.hid hk0
          have ee : (A'.ops != A.ops) = false := by rw [EA.out]; simp
          clear hk0
          have hne : Nonempty (HW (fun wx => Frm [] x5 wx)) := ⟨⟨x5, Frm.refl _ _⟩⟩
          have hz0 : ∀ z : HW (fun wx => Frm [] x5 wx), z.w.cell? ⟨b, off + k * 2, none⟩ = some (.int .i64 kind) := fun z => (HCX.out _ (HI5.out.frm.trans z.h)).1
          have hz1 : ∀ z : HW (fun wx => Frm [] x5 wx), z.w.cell? ⟨b, off + k * 2 + 1, none⟩ = some (.int .i64 i) := fun z => (HCX.out _ (HI5.out.frm.trans z.h)).2
          have hz2 : ∀ z : HW (fun wx => Frm [] x5 wx), z.w.cell? ⟨wsb, 0, none⟩ = some (.int .i64 p0) := fun z => (HW5.out.frm z.h (by simp)).cell (i := 0) rfl
          have hz3 : ∀ z : HW (fun wx => Frm [] x5 wx), z.w.cell? ⟨wsb, 1, none⟩ = some (.int .i64 p1) := fun z => (HW5.out.frm z.h (by simp)).cell (i := 1) rfl
          have hz4 : ∀ z : HW (fun wx => Frm [] x5 wx), z.w.cell? ⟨wsb, 2, none⟩ = some (.int .i64 p2) := fun z => (HW5.out.frm z.h (by simp)).cell (i := 2) rfl
          have hz5 : ∀ z : HW (fun wx => Frm [] x5 wx), z.w.cell? ⟨wsb, 3, none⟩ = some (.int .i64 p3) := fun z => (HW5.out.frm z.h (by simp)).cell (i := 3) rfl
          cases ok with
          | true =>
            refine held_begin (S := fun wx => Frm [] x5 wx) (by kernel_rfl) ?_
            refine held_row_at (fuel := 38) (is := [0, 2, 3]) (.cons rfl (.cons rfl (.cons rfl .nil))) (by kernel_rfl) (fun _ _ _ _ _ h => h) rfl (by kernel_rfl) (Frm.refl _ _).drew1 ?_
            intro K hK
            repeat (go_big_quiet_step (fail))
            refine wpQuiet_nil (hK _ ?_)
            clear hK K
            refine held_call (fuel := 37) (i := 1) rfl (by kernel_rfl) ?_
            go_wp2_with fail
            refine (Ops_any (HI5.out.ar.frm (S := []) (by repeat (first | exact HFS.out | exact HFW.out | exact Frm.refl _ _ | apply Frm.drew1 | apply Frm.drew)) (by simp) (by simp))).mono ?_; rintro e x7 ⟨rfl, rfl⟩
            go_wp2_with fail
            refine onNormal_mk ⟨(by repeat (first | exact HFS.out | exact HFW.out | exact Frm.refl _ _ | apply Frm.drew1 | apply Frm.drew)), ?_⟩
            refine held_row_at (fuel := 26) (is := [4, 5, 6, 7, 8, 9, 10, 11, 12, 13, 15]) (.cons rfl (.cons rfl (.cons rfl (.cons rfl (.cons rfl (.cons rfl (.cons rfl (.cons rfl (.cons rfl (.cons rfl (.cons rfl .nil))))))))))) (by kernel_rfl) (fun _ _ _ _ _ h => h) rfl (by kernel_rfl) (by repeat (first | exact HFS.out | exact HFW.out | exact Frm.refl _ _ | apply Frm.drew1 | apply Frm.drew)) ?_
            intro K hK
            repeat (go_big_quiet_step (fail))
            refine wpQuiet_nil (hK _ ?_)
            clear hK K
            refine held_call (fuel := 25) (i := 14) rfl (by kernel_rfl) ?_
            go_wp2_with fail
            refine (Ops_any (HI5.out.ar.frm (S := []) (by repeat (first | exact HFS.out | exact HFW.out | exact Frm.refl _ _ | apply Frm.drew1 | apply Frm.drew)) (by simp) (by simp))).mono ?_; rintro e x7 ⟨rfl, rfl⟩
            go_wp2_with fail
            refine onNormal_mk ⟨(by repeat (first | exact HFS.out | exact HFW.out | exact Frm.refl _ _ | apply Frm.drew1 | apply Frm.drew)), ?_⟩
            refine held_row_at (fuel := 21) (is := [16, 17, 18, 20]) (.cons rfl (.cons rfl (.cons rfl (.cons rfl .nil)))) (by kernel_rfl) (fun _ _ _ _ _ h => h) rfl (by kernel_rfl) (by repeat (first | exact HFS.out | exact HFW.out | exact Frm.refl _ _ | apply Frm.drew1 | apply Frm.drew)) ?_
            intro K hK
            repeat (go_big_quiet_step (fail))
            refine wpQuiet_nil (hK _ ?_)
            clear hK K
            refine held_call (fuel := 20) (i := 19) rfl (by kernel_rfl) ?_
            go_wp2_with fail
            refine (Words_any (HI5.out.ar.frm (S := []) (by repeat (first | exact HFS.out | exact HFW.out | exact Frm.refl _ _ | apply Frm.drew1 | apply Frm.drew)) (by simp) (by simp))).mono ?_; rintro e x8 ⟨v8, rfl, hO, hF⟩; have HFW := Lib.hid (Frm.trans (S := []) (a := x5) (by repeat (first | exact HFS.out | exact HFW.out | exact Frm.refl _ _ | apply Frm.drew1 | apply Frm.drew)) hF); have HO8 := Lib.hid (hO.base (Nat.zero_le _)); clear hO hF
            go_wp2_with fail
            refine onNormal_mk ⟨(by repeat (first | exact HFS.out | exact HFW.out | exact Frm.refl _ _ | apply Frm.drew1 | apply Frm.drew)), ?_⟩
            refine held_call (fuel := 19) (i := 21) rfl (by kernel_rfl) ?_
            go_wp2_with fail
            refine (Same_any _ HO8.out.row (HO5.out.frm (S := []) (by repeat (first | exact HFS.out | exact HFW.out | exact Frm.refl _ _ | apply Frm.drew1 | apply Frm.drew)) (by simp)).row).mono ?_; rw [show decide (A'.words = A.words) = true from by rw [EA.out]; simp]; rintro e x9 ⟨rfl, nn, rfl⟩
            go_wp2_with fail
            refine onNormal_mk ⟨(by repeat (first | exact HFS.out | exact HFW.out | exact Frm.refl _ _ | apply Frm.drew1 | apply Frm.drew)), ?_⟩
            refine held_row_at (fuel := 6) (is := [22, 23, 24, 25, 26, 27, 28, 29, 30, 31, 32, 33, 35]) (.cons rfl (.cons rfl (.cons rfl (.cons rfl (.cons rfl (.cons rfl (.cons rfl (.cons rfl (.cons rfl (.cons rfl (.cons rfl (.cons rfl (.cons rfl .nil))))))))))))) (by kernel_rfl) (fun _ _ _ _ _ h => h) rfl (by kernel_rfl) (by repeat (first | exact HFS.out | exact HFW.out | exact Frm.refl _ _ | apply Frm.drew1 | apply Frm.drew)) ?_
            intro K hK
            repeat (go_big_quiet_step (fail))
            refine wpQuiet_nil (hK _ ?_)
            clear hK K
            refine held_call (fuel := 5) (i := 34) rfl (by kernel_rfl) ?_
            go_wp2_with fail
            refine onNormal_mk ⟨(by repeat (first | exact HFS.out | exact HFW.out | exact Frm.refl _ _ | apply Frm.drew1 | apply Frm.drew)), ?_⟩
            refine held_row_at (fuel := 0) (is := [36, 37, 38, 39, 40]) (.cons rfl (.cons rfl (.cons rfl (.cons rfl (.cons rfl .nil))))) (by kernel_rfl) (fun _ _ _ _ _ h => h) rfl (by kernel_rfl) (by repeat (first | exact HFS.out | exact HFW.out | exact Frm.refl _ _ | apply Frm.drew1 | apply Frm.drew)) ?_
            intro K hK
            repeat (go_big_quiet_step (fail))
            refine wpQuiet_nil (hK _ ?_)
            clear hK K
            refine held_end (by kernel_rfl) ?_
            go_wp2_with fail
            go_meet
            exact ⟨rfl, HI5.out.kept (by repeat (first | exact HFS.out | exact HFW.out | exact Frm.refl _ _ | apply Frm.drew1 | apply Frm.drew))⟩
          | false =>
            have hS2 : S' = S := (HN.out HK0.out rfl).1
            have HSP2 : Hid (spV s S' i = .agg #[.int .i64 p0, .int .i64 p1, .int .i64 p2, .int .i64 p3]) := Lib.hid (by rw [hS2]; exact HSP.out)
            clear hS2
            refine held_begin (S := fun wx => Frm [] x5 wx) (by kernel_rfl) ?_
            refine held_row_at (fuel := 38) (is := [0, 2, 3]) (.cons rfl (.cons rfl (.cons rfl .nil))) (by kernel_rfl) (fun _ _ _ _ _ h => h) rfl (by kernel_rfl) (Frm.refl _ _).drew1 ?_
            intro K hK
            repeat (go_big_quiet_step (fail))
            refine wpQuiet_nil (hK _ ?_)
            clear hK K
            refine held_call (fuel := 37) (i := 1) rfl (by kernel_rfl) ?_
            go_wp2_with fail
            refine (Ops_any (HI5.out.ar.frm (S := []) (by repeat (first | exact HFS.out | exact HFW.out | exact Frm.refl _ _ | apply Frm.drew1 | apply Frm.drew)) (by simp) (by simp))).mono ?_; rintro e x7 ⟨rfl, rfl⟩
            go_wp2_with fail
            refine onNormal_mk ⟨(by repeat (first | exact HFS.out | exact HFW.out | exact Frm.refl _ _ | apply Frm.drew1 | apply Frm.drew)), ?_⟩
            refine held_row_at (fuel := 26) (is := [4, 5, 6, 7, 8, 9, 10, 11, 12, 13, 15]) (.cons rfl (.cons rfl (.cons rfl (.cons rfl (.cons rfl (.cons rfl (.cons rfl (.cons rfl (.cons rfl (.cons rfl (.cons rfl .nil))))))))))) (by kernel_rfl) (fun _ _ _ _ _ h => h) rfl (by kernel_rfl) (by repeat (first | exact HFS.out | exact HFW.out | exact Frm.refl _ _ | apply Frm.drew1 | apply Frm.drew)) ?_
            intro K hK
            repeat (go_big_quiet_step (fail))
            refine wpQuiet_nil (hK _ ?_)
            clear hK K
            refine held_call (fuel := 25) (i := 14) rfl (by kernel_rfl) ?_
            go_wp2_with fail
            refine (Ops_any (HI5.out.ar.frm (S := []) (by repeat (first | exact HFS.out | exact HFW.out | exact Frm.refl _ _ | apply Frm.drew1 | apply Frm.drew)) (by simp) (by simp))).mono ?_; rintro e x7 ⟨rfl, rfl⟩
            go_wp2_with fail
            refine onNormal_mk ⟨(by repeat (first | exact HFS.out | exact HFW.out | exact Frm.refl _ _ | apply Frm.drew1 | apply Frm.drew)), ?_⟩
            refine held_row_at (fuel := 21) (is := [16, 17, 18, 20]) (.cons rfl (.cons rfl (.cons rfl (.cons rfl .nil)))) (by kernel_rfl) (fun _ _ _ _ _ h => h) rfl (by kernel_rfl) (by repeat (first | exact HFS.out | exact HFW.out | exact Frm.refl _ _ | apply Frm.drew1 | apply Frm.drew)) ?_
            intro K hK
            repeat (go_big_quiet_step (fail))
            refine wpQuiet_nil (hK _ ?_)
            clear hK K
            refine held_call (fuel := 20) (i := 19) rfl (by kernel_rfl) ?_
            go_wp2_with fail
            refine (Words_any (HI5.out.ar.frm (S := []) (by repeat (first | exact HFS.out | exact HFW.out | exact Frm.refl _ _ | apply Frm.drew1 | apply Frm.drew)) (by simp) (by simp))).mono ?_; rintro e x8 ⟨v8, rfl, hO, hF⟩; have HFW := Lib.hid (Frm.trans (S := []) (a := x5) (by repeat (first | exact HFS.out | exact HFW.out | exact Frm.refl _ _ | apply Frm.drew1 | apply Frm.drew)) hF); have HO8 := Lib.hid (hO.base (Nat.zero_le _)); clear hO hF
            go_wp2_with fail
            refine onNormal_mk ⟨(by repeat (first | exact HFS.out | exact HFW.out | exact Frm.refl _ _ | apply Frm.drew1 | apply Frm.drew)), ?_⟩
            refine held_call (fuel := 19) (i := 21) rfl (by kernel_rfl) ?_
            go_wp2_with fail
            refine (Same_any _ HO8.out.row (HO5.out.frm (S := []) (by repeat (first | exact HFS.out | exact HFW.out | exact Frm.refl _ _ | apply Frm.drew1 | apply Frm.drew)) (by simp)).row).mono ?_; rw [show decide (A'.words = A.words) = true from by rw [EA.out]; simp]; rintro e x9 ⟨rfl, nn, rfl⟩
            go_wp2_with fail
            refine onNormal_mk ⟨(by repeat (first | exact HFS.out | exact HFW.out | exact Frm.refl _ _ | apply Frm.drew1 | apply Frm.drew)), ?_⟩
            refine held_row_at (fuel := 6) (is := [22, 23, 24, 25, 26, 27, 28, 29, 30, 31, 32, 33, 35]) (.cons rfl (.cons rfl (.cons rfl (.cons rfl (.cons rfl (.cons rfl (.cons rfl (.cons rfl (.cons rfl (.cons rfl (.cons rfl (.cons rfl (.cons rfl .nil))))))))))))) (by kernel_rfl) (fun _ _ _ _ _ h => h) rfl (by kernel_rfl) (by repeat (first | exact HFS.out | exact HFW.out | exact Frm.refl _ _ | apply Frm.drew1 | apply Frm.drew)) ?_
            intro K hK
            repeat (go_big_quiet_step (fail))
            refine wpQuiet_nil (hK _ ?_)
            clear hK K
            refine held_call (fuel := 5) (i := 34) rfl (by kernel_rfl) ?_
            go_wp2_with fail
            refine (lSpot_any (HI5.out.lk.frm (Z := []) (by repeat (first | exact HFS.out | exact HFW.out | exact Frm.refl _ _ | apply Frm.drew1 | apply Frm.drew)) (by simp) (by simp)) i).mono ?_; rw [HSP2.out]; rintro e x10 ⟨rfl, hF⟩; have HFS := Lib.hid (Frm.trans (S := []) (a := x5) (by repeat (first | exact HFS.out | exact HFW.out | exact Frm.refl _ _ | apply Frm.drew1 | apply Frm.drew)) hF); clear hF
            go_wp2_with fail
            refine onNormal_mk ⟨(by repeat (first | exact HFS.out | exact HFW.out | exact Frm.refl _ _ | apply Frm.drew1 | apply Frm.drew)), ?_⟩
            refine held_row_at (fuel := 0) (is := [36, 37, 38, 39, 40]) (.cons rfl (.cons rfl (.cons rfl (.cons rfl (.cons rfl .nil))))) (by kernel_rfl) (fun _ _ _ _ _ h => h) rfl (by kernel_rfl) (by repeat (first | exact HFS.out | exact HFW.out | exact Frm.refl _ _ | apply Frm.drew1 | apply Frm.drew)) ?_
            intro K hK
            repeat (go_big_quiet_step (fail))
            refine wpQuiet_nil (hK _ ?_)
            clear hK K
            refine held_end (by kernel_rfl) ?_
            go_wp2_with fail
            go_meet
            exact ⟨rfl, HI5.out.kept (by repeat (first | exact HFS.out | exact HFW.out | exact Frm.refl _ _ | apply Frm.drew1 | apply Frm.drew))⟩
      case rest =>
        obtain ⟨rfl, hI⟩ := hcut
        have HI6 := Lib.hid hI
        clear hI HI5 c0 c1 HW5 HO5 hg1 hg2 hg3 HN HAR hA'' hS''
        go_wp2_with fail
        go_loopw [16, 17] (fun hh jj wx => ∃ (c j : Nat), hh = .int .i64 c ∧ jj = .int .i64 j ∧ j ≤ s ∧ (c = 0 ∨ (c = 1 ∧ ∃ i, i < j ∧ i < s ∧ S' i 0 = 10)) ∧ TOI w wx w.heap.size (w.heap.size + 1) lb sb s mo S' A' (k + 1)) (fun _ jj _ => s - (intOf jj).toNat)
        case atStart => exact ⟨0, 0, rfl, rfl, Nat.zero_le _, .inl rfl, HI6.out⟩
        case round =>
          obtain ⟨c, j, rfl, rfl, hj, hc, hI⟩ := hrel
          have HI7 := Lib.hid hI
          have HCC := Lib.hid hc
          clear hI HI6 hc
          by_cases hlt2 : j < s
          · have l2 : (j : Int) < s := by omega
            have hsv : spV s S' j = .agg #[.int .i64 (S' j 0), .int .i64 (S' j 1), .int .i64 (S' j 2), .int .i64 (S' j 3)] := by unfold spV sHas; rw [if_pos (by simp; omega)]; rfl
            have HSV := Lib.hid hsv
            clear hsv
            by_cases h10 : S' j 0 = 10
            · have hc0 : c = 0 := by
                rcases HCC.out with h | ⟨_, i', h1, h2, h3⟩
                · exact h
                · exact absurd (HI7.out.inv.one h2 hlt2 (.inl h3) (.inl h10)) (by omega)
              subst hc0
              have d1 : (S' j 0 == 10) = true := by simpa using h10
              have HH := Lib.hid h10
              clear h10
              go_wp2_with fail
              refine (lSpot_any HI7.out.lk j).mono ?_
              rw [HSV.out]
              rintro e x7 ⟨rfl, hF⟩
              have HI8 := Lib.hid (HI7.out.kept hF)
              clear hF
              go_wp2_with fail
              go_roundw
              case rel => exact ⟨1, j + 1, rfl, by go_num, by omega, .inr ⟨rfl, j, by omega, hlt2, HH.out⟩, HI8.out⟩
              case measure => simp [intOf]; omega
            · have d1 : (S' j 0 == 10) = false := by simpa using h10
              clear h10
              go_wp2_with fail
              refine (lSpot_any HI7.out.lk j).mono ?_
              rw [HSV.out]
              rintro e x7 ⟨rfl, hF⟩
              have HI8 := Lib.hid (HI7.out.kept hF)
              clear hF
              go_wp2_with fail
              go_roundw
              case rel => exact ⟨c, j + 1, rfl, by go_num, by omega, HCC.out.imp id (fun ⟨h, i', h1, h2, h3⟩ => ⟨h, i', by omega, h2, h3⟩), HI8.out⟩
              case measure => simp [intOf]; omega
          · have l2 : ¬ (j : Int) < s := by omega
            have hc1 : c ≤ 1 := by rcases HCC.out with h | ⟨h, _⟩ <;> omega
            have d1 : decide ((1 : Int) < c) = false := by simp; omega
            have d2 : decide (1 < c) = false := by simp; omega
            go_wp2_with fail
            go_roundw
            case rel => exact ⟨k + 1, A', S', rfl, by omega, HI7.out⟩
            case measure => simp [intOf]; omega
    · have l1 : ¬ (k : Int) < acts.length := by omega
      clear hI
      go_wp2_with fail
      refine (tsawake _).mono ?_
      rintro e x2 ⟨rfl, hF⟩
      have HI9 := Lib.hid (HI1.out.frm.trans hF)
      clear hF
      go_wp2
      go_ret
      exact ⟨rfl, HI9.out.below (Nat.le_refl _) (by simp)⟩

theorem tasOne_walk (n m : Int) (v : Value) (acts : List (Int × Int)) (w : World) (hn : U8 n) (hm : U8 m) (h : ActsAt w v acts) :
    Calls Try.prog 5 #[.int .u8 n, .int .u8 m, v] w fun e w' => e = .returned (.bool true) ∧ Below w.heap.size w w' := by
  by_cases hl : acts.length ≤ 100
  · exact tasOne_short n m v acts w hn hm h hl
  · exact tasOne_long n m v acts w h (by omega)

end Go.Proofs.Ytmfeaancnkadbaa
