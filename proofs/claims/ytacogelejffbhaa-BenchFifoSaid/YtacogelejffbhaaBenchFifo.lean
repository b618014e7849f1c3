/- The walk of the law BenchFifo. (Printed by gen_benchfifo.py.) -/
import Derived.Test.YtacogelejffbhaaBenchInv
import Derived.Deep.CutBlock
import Derived.Deep.DeepCutAuto
namespace Go.Proofs.Ytacogelejffbhaa
open Go.RowKit

structure BFI (w0 w : World) (wb ab bb : Nat) (A : AR) (B : BK) : Prop where
  bn : BnAt w bb ab 1 12 B
  ar : ArAt w ab wb A
  frm : Frm [] w0 w
  o0 : w0.heap.size ≤ wb
  o1 : w0.heap.size ≤ ab
  o2 : w0.heap.size ≤ bb
  ne : bb ≠ ab ∧ bb ≠ wb
section
variable {w0 w w1 : World} {wb ab bb : Nat} {A : AR} {B : BK} {x n got : Int}
theorem BFI.kept (h : BFI w0 w wb ab bb A B) (hf : Frm [] w w1) : BFI w0 w1 wb ab bb A B := { h with bn := h.bn.frm hf (by simp), ar := h.ar.frm hf (by simp) (by simp), frm := h.frm.trans hf }
theorem BFI.far (h : BFI w0 w wb ab bb A B) {Z : List Nat} (hf : Frm Z w w1) {base : Nat} (hz : ∀ k ∈ Z, base ≤ k) (b0 : w0.heap.size ≤ base) (b1 : bb < base) (b2 : ab < base) (b3 : wb < base) : BFI w0 w1 wb ab bb A B :=
  { h with bn := h.bn.frm hf (fun hm => by have := hz _ hm; omega), ar := h.ar.frm hf (fun hm => by have := hz _ hm; omega) (fun hm => by have := hz _ hm; omega), frm := h.frm.widen hf fun k hk => .inr (by have := hz _ hk; omega) }
theorem BFI.put (h : BFI w0 w wb ab bb A ⟨0, x, n, got⟩) {k : Int} (h1 : 1 ≤ k) (h2 : k ≤ 12) : Calls Try.prog 13 #[.pointer (some ⟨bb, 0, none⟩), .int .i64 k] w fun e w' => e = .returned (.bool true) ∧ BFI w0 w' wb ab bb A ⟨1, k, n, got⟩ ∧ Frm [bb] w w' := by
  have := h.o2; have hne := h.ne
  have hok : bPutOk 12 ⟨0, x, n, got⟩ k = true := by unfold bPutOk; simp; omega
  refine (bPut_any h.bn k).mono fun e w' ⟨a, b, c⟩ => ⟨by rw [a, hok], { h with bn := ?_, ar := h.ar.frm c (by simp; omega) (by simp; omega), frm := h.frm.widen c (by simp; omega) }, c⟩
  unfold bPutB at b
  rw [hok] at b
  exact b
theorem BFI.take (h : BFI w0 w wb ab bb A ⟨0, x, n, got⟩) : Calls Try.prog 15 #[.pointer (some ⟨bb, 0, none⟩)] w fun e w' => e = .returned (.bool true) ∧ BFI w0 w' wb ab bb A ⟨5, 1, n, got⟩ ∧ Frm [bb] w w' := by
  have := h.o2; have hne := h.ne
  exact (bTake_any h.bn).mono fun e w' ⟨a, b, c⟩ => ⟨by rw [a]; exact ret_bool (by simp [bTakeOk]), { h with bn := by simpa [bTakeB, bTakeOk] using b, ar := h.ar.frm c (by simp; omega) (by simp; omega), frm := h.frm.widen c (by simp; omega) }, c⟩
theorem BFI.thru (h : BFI w0 w wb ab bb A B) : Calls Try.prog 14 #[.pointer (some ⟨bb, 0, none⟩)] w fun e w' => e = .returned (.int .i64 (bThru 1 8 1 A B).1) ∧ BFI w0 w' wb ab bb (bThru 1 8 1 A B).2.1 (bThru 1 8 1 A B).2.2 ∧ Frm [bb, ab, wb] w w' := by
  have := h.o0; have := h.o1; have := h.o2
  exact (bThru_any h.bn h.ar h.ne).mono fun e w' ⟨a, b, c, d⟩ => ⟨a, { h with bn := b, ar := c, frm := h.frm.widen d (by simp; omega) }, d⟩
end
theorem QAt.cut {w : World} {base g off cap : Nat} {z : Int} {q : List Int} (h : QAt w base g off cap (z :: q)) :
    QRow w base (.slice (if cap = 1 then some ⟨g, off, none⟩ else some ⟨g, off + 1, none⟩) q.length (cap - 1)) q := by
  by_cases hc : cap = 1
  · subst hc
    have hle := h.le
    simp at hle
    subst hle
    rw [if_pos rfl]
    exact .inr ⟨g, off, 0, rfl, { lo := h.lo, hi := h.hi, le := Nat.le_refl _, mx := Nat.zero_le _, room := fun j hj => by omega, cell := fun i z hi => by simp at hi }⟩
  · rw [if_neg hc]
    exact .inr ⟨g, off + 1, cap - 1, rfl, h.tail⟩
theorem BInv.start : BInv ⟨List.replicate 20 0, 14, 0, 0, 0, false⟩ [] :=
  { taken := rfl, len := by simp, mem := by simp, nd := fun i j x hi => by simp at hi, head := by kernel_rfl, last := by kernel_rfl, link := fun i x hi => by simp at hi }

set_option maxRecDepth 100000 in
set_option maxHeartbeats 1000000 in
theorem benchFifo_long (v : Value) (l : List Int) (w : World) (h : IsRow .u8 w v l) (hl : 60 < l.length) :
    Calls Try.prog 3 #[v] w fun e w' => e = .returned (.bool true) ∧ Below w.heap.size w w' := by
  obtain ⟨a, cap, rfl, -, -, -⟩ := h
  have d1 : decide ((60 : Int) < l.length) = true := by simp; omega
  go_enter Try.func3, Try.ntmps3
  go_wp2_with fail
  refine (bawake _).mono ?_
  rintro e w1 ⟨rfl, hF⟩
  have HF := Lib.hid hF
  clear hF
  go_wp2
  go_ret
  exact ⟨rfl, HF.out.below (Nat.le_refl _) (by simp)⟩

set_option maxRecDepth 100000 in
set_option maxHeartbeats 16000000 in
theorem benchFifo_short (v : Value) (l : List Int) (w : World) (h : IsRow .u8 w v l) (hl : l.length ≤ 60) :
    Calls Try.prog 3 #[v] w fun e w' => e = .returned (.bool true) ∧ Below w.heap.size w w' := by
  obtain ⟨a, cap, rfl, -, hc, hwf⟩ := h
  have d1 : decide ((60 : Int) < l.length) = false := by simp; omega
  have HC := Lib.hid hc
  have HWF := Lib.hid hwf
  clear hc hwf
  go_enter Try.func3, Try.ntmps3
  go_wp2_with fail
  refine (New_any 20 _).mono ?_
  rintro e w1 ⟨rfl, hA, hF⟩
  have hab := hA.box.lt
  have HA : Hid (ArAt w1 (w.heap.size + 1) w.heap.size ⟨List.replicate 20 0, 0, 0, 0, 0, false⟩) := Lib.hid (hA.to (by kernel_rfl))
  have HF1 := Lib.hid hF
  clear hA hF
  go_wp2_with fail
  refine (bNew_ok HA.out 12 (by omega) (by omega) (by kernel_rfl)).mono ?_
  rintro e w2 ⟨bb, rfl, hbb, hB, hA, hF⟩
  have hA' : ArAt w2 (w.heap.size + 1) w.heap.size ⟨List.replicate 20 0, 14, 0, 0, 0, false⟩ := hA.to (by kernel_rfl)
  have HB : Hid (BFI w w2 w.heap.size (w.heap.size + 1) bb ⟨List.replicate 20 0, 14, 0, 0, 0, false⟩ ⟨0, 0, 0, 0⟩) := Lib.hid
    { bn := hB, ar := hA', frm := HF1.out.widen hF (by simp), o0 := Nat.le_refl _, o1 := by omega, o2 := by omega, ne := by omega }
  have hb1 := hB.box.lt
  have hb2 := hF.size
  have HI : Hid (BInv ⟨List.replicate 20 0, 14, 0, 0, 0, false⟩ []) := Lib.hid BInv.start
  clear hA hA' hB hF HA HF1
  generalize (⟨List.replicate 20 0, 14, 0, 0, 0, false⟩ : AR) = A0 at *
  obtain ⟨ab, hab2⟩ : ∃ k, k = w.heap.size + 1 := ⟨_, rfl⟩
  obtain ⟨wb, hwb2⟩ : ∃ k, k = w.heap.size := ⟨_, rfl⟩
  obtain ⟨base, hbase⟩ : ∃ k, k = w2.heap.size := ⟨_, rfl⟩
  have q1 : bb < base := by omega
  have q2 : ab < base := by omega
  have q3 : wb < base := by omega
  have q4 : w.heap.size ≤ base := by omega
  rw [← hab2, ← hwb2] at HB
  have HBS := Lib.hid hbase
  clear hab2 hwb2 hbase
  go_wp2_with fail
  go_loopw [5, 6] (fun rv iv wx => ∃ (i : Nat) (q : List Int) (A : AR) (x n got : Int), iv = .int .i64 i ∧ i ≤ l.length ∧ q.length ≤ i ∧ QRow wx base rv q ∧ base ≤ wx.heap.size ∧ BInv A q ∧ BFI w wx wb ab bb A ⟨0, x, n, got⟩) (fun _ iv _ => l.length - (intOf iv).toNat)
  case atStart => exact ⟨0, [], A0, 0, 0, 0, rfl, Nat.zero_le _, Nat.zero_le _, QRow.nil _ _, by rw [HBS.out]; exact Nat.le_refl _, HI.out, HB.out⟩
  case round =>
    obtain ⟨i, q, A, x, n, got, rfl, hi, hqi, hQ, hsz, hI, hB⟩ := hrel
    have HQ := Lib.hid hQ
    have HI1 := Lib.hid hI
    have HB1 := Lib.hid hB
    clear hQ hI hB HI HB
    obtain ⟨W1, rfl⟩ : ∃ W, W = wr := ⟨_, rfl⟩
    by_cases hlt : i < l.length
    · have l1 : (i : Int) < l.length := by omega
      obtain ⟨b, off, rfl, hcell⟩ := HC.out (by omega)
      have c0 := HB1.out.frm.cell (hcell i hlt) (by simp)
      have hz : (Lit.int .u8 (l.getD i 0)).wf = true := HWF.out _ (by rw [List.getD_eq_getElem?_getD, List.getElem?_eq_getElem hlt]; exact List.getElem_mem hlt)
      have HCL := Lib.hid hcell
      clear hcell
      generalize l.getD i 0 = y at *
      have hy : 0 ≤ y ∧ y < 256 := by have := u8_of_wf hz; unfold U8 at this; omega
      clear hz
      obtain ⟨m, hm, hm12⟩ : ∃ m : Nat, y % 12 = m ∧ m < 12 := ⟨(y % 12).toNat, by omega, by omega⟩
      obtain ⟨k, hk⟩ : ∃ k : Nat, 1 + (m : Int) = (k : Int) := ⟨1 + m, by omega⟩
      have k1 : 1 ≤ k := by omega
      have k2 : k ≤ 12 := by omega
      obtain ⟨ra, rc, rfl, hle, hmx⟩ := HQ.out.form
      by_cases hin : (k : Int) ∈ q
      · have HH := Has_any (w := W1) HQ.out.row (k : Int)
        rw [decide_eq_true hin] at HH
        have HHAS := Lib.hid HH
        clear HH
        rcases HQ.out with ⟨_, rfl⟩ | ⟨g, qoff, qcap, hv, hq⟩
        · simp at hin
        · cases q with
          | nil => simp at hin
          | cons z q =>
            injection hv with hv1 hv2 hv3
            subst hv1
            subst hv3
            obtain ⟨r, A', n', ht, hI2⟩ := HI1.out.take 1 n got
            have HT := Lib.hid ht
            have HI2 := Lib.hid hI2
            have HQ2 := Lib.hid hq
            clear ht hI2 hq hv2 hin
            have dr : decide ((r : Int) < 0) = false := by simp
            have hlz : (0 : Int) < (z :: q).length := by simp
            have hcq : ((z :: q).length : Int) = (q.length : Int) + 1 := by simp
            have HQF := Lib.hid (fun wx (hf : Frm [bb, ab, wb] W1 wx) => HQ2.out.frm hf (by simp; omega))
            have hne : Nonempty (HW (fun wx => Frm [bb, ab, wb] W1 wx)) := ⟨⟨W1, Frm.refl _ _⟩⟩
            have hz0 : ∀ t : HW (fun wx => Frm [bb, ab, wb] W1 wx), t.w.cell? ⟨g, qoff, none⟩ = some (.int .i64 z) := fun t => by have := (HQF.out _ t.h).cell 0 z rfl; simpa using this
            simp only [List.length_cons] at hle hmx hqi
            clear hcq hlz
            go_wp2_with fail
            refine HHAS.out.mono ?_
            rintro e w' ⟨rfl, rfl⟩
            go_upto_region 15 with fail
            refine held_begin (S := fun wx => Frm [bb, ab, wb] W1 wx) (by kernel_rfl) ?_
            refine held_row_at (fuel := 15) (is := [0]) (.cons rfl .nil) (by kernel_rfl) (fun _ _ _ _ _ h => h) rfl (by kernel_rfl) (Frm.refl _ _).drew1 ?_
            intro K hK
            repeat (go_big_quiet_step (fail))
            refine wpQuiet_nil (hK _ ?_)
            clear hK K
            refine held_call (fuel := 14) (i := 1) rfl (by kernel_rfl) ?_
            go_wp2_with fail
            refine (HB1.out.kept ((Frm.refl _ _).drew1)).take.mono ?_; rintro e y1 ⟨rfl, hB, hF⟩; have HB2 := Lib.hid hB; have HS1 := Lib.hid (((Frm.refl [bb, ab, wb] W1).drew1).trans (hF.mono (by simp))); clear hB hF
            go_wp2_with fail
            refine onNormal_mk ⟨HS1.out, ?_⟩
            refine held_row_at (fuel := 11) (is := [2, 3, 4]) (.cons rfl (.cons rfl (.cons rfl .nil))) (by kernel_rfl) (fun _ _ _ _ _ h => h) rfl (by kernel_rfl) HS1.out ?_
            intro K hK
            repeat (go_big_quiet_step (fail))
            refine wpQuiet_nil (hK _ ?_)
            clear hK K
            refine held_call (fuel := 10) (i := 5) rfl (by kernel_rfl) ?_
            go_wp2_with fail
            refine HB2.out.thru.mono ?_; rw [HT.out]; rintro e y2 ⟨rfl, hB, hF⟩; have HB3 := Lib.hid hB; have HS2 := Lib.hid (HS1.out.trans hF); clear hB hF
            go_wp2_with fail
            refine onNormal_mk ⟨HS2.out, ?_⟩
            refine held_row_at (fuel := 3) (is := [6, 7, 8, 9, 11, 12, 13]) (.cons rfl (.cons rfl (.cons rfl (.cons rfl (.cons rfl (.cons rfl (.cons rfl .nil))))))) (by kernel_rfl) (fun _ _ _ _ _ h => h) rfl (by kernel_rfl) HS2.out ?_
            intro K hK
            repeat (go_big_quiet_step (fail))
            refine wpQuiet_nil (hK _ ?_)
            clear hK K
            refine held_call (fuel := 2) (i := 10) rfl (by kernel_rfl) ?_
            go_wp2_with fail
            refine (Got_any HB3.out.bn).mono ?_; rintro e w' ⟨rfl, rfl⟩
            go_wp2_with fail
            refine onNormal_mk ⟨HS2.out, ?_⟩
            refine held_row_at (fuel := 0) (is := [14, 15]) (.cons rfl (.cons rfl .nil)) (by kernel_rfl) (fun _ _ _ _ _ h => h) rfl (by kernel_rfl) HS2.out ?_
            intro K hK
            repeat (go_big_quiet_step (fail))
            refine wpQuiet_nil (hK _ ?_)
            clear hK K
            refine held_end (by kernel_rfl) ?_
            go_wp2_with fail
            go_roundw
            case rel => exact ⟨i + 1, q, A', z, n', z, by go_num, by omega, by omega, (HQF.out _ HS2.out).cut, by have := HS2.out.size; omega, HI2.out, HB3.out⟩
            case measure => simp [intOf]; omega
      · have HH := Has_any (w := W1) HQ.out.row (k : Int)
        rw [decide_eq_false hin] at HH
        have HHAS := Lib.hid HH
        obtain ⟨A', n', ht, hI2⟩ := HI1.out.put (k := (k : Int)) (by omega) (by omega) hin n got
        have HT := Lib.hid ht
        have HI2 := Lib.hid hI2
        clear HH ht hI2 hin
        go_wp2_with fail
        refine HHAS.out.mono ?_
        rintro e w' ⟨rfl, rfl⟩
        go_wp2_with fail
        refine (HB1.out.put (k := (k : Int)) (by omega) (by omega)).mono ?_
        rintro e y1 ⟨rfl, hB, hF⟩
        have HB2 := Lib.hid hB
        have HS1 := Lib.hid hF
        clear hB hF
        go_wp2_with fail
        refine HB2.out.thru.mono ?_
        rw [HT.out]
        rintro e y2 ⟨rfl, hB, hF⟩
        have HB3 := Lib.hid hB
        have HS2 := Lib.hid ((HS1.out.mono (S' := [bb, ab, wb]) (by simp)).trans hF)
        clear hB hF
        have hsz2 := HS2.out.size
        go_wp2_with (at_builtin; go_must (refine wpList_append_q _ rfl _ _ 30 rfl intInfo Try.underlying30 base _ _ rfl ((HQ.out.frm HS2.out (by simp; omega)).frm (Z := []) ((Frm.refl _ _).alloc _) (by simp)) (k : Int) ⟨y2.heap.size, 0, none⟩ 1 rfl (cell_one_new _ _ _) (by omega) (by rw [World.size_alloc]; omega) ?_; intro v' xw hq' hfr; have HQ4 := Lib.hid hq'; have HFR := Lib.hid hfr; clear hq' hfr))
        go_roundw
        case rel =>
          obtain ⟨Z, hZ, hZ2⟩ := HFR.out
          have hfz : Frm Z y2 xw := ((Frm.refl _ _).alloc _).trans hZ
          exact ⟨i + 1, q ++ [(k : Int)], A', k, n', got, by go_num, by omega, by simp; omega, HQ4.out, by have := hfz.size; omega, HI2.out, HB3.out.far hfz hZ2 q4 q1 q2 q3⟩
        case measure => simp [intOf]; omega
    · have l1 : ¬ (i : Int) < l.length := by omega
      clear l1
      obtain ⟨ra, rc, rfl, hle, hmx⟩ := HQ.out.form
      go_wp2_with fail
      go_loopw [8] (fun kv wx => ∃ (k : Nat) (A : AR) (x n got : Int), kv = .int .i64 k ∧ k ≤ q.length ∧ QRow wx base (.slice ra q.length rc) q ∧ BInv A (q.drop k) ∧ BFI w wx wb ab bb A ⟨0, x, n, got⟩) (fun kv _ => q.length - (intOf kv).toNat)
      case atStart => exact ⟨0, A, x, n, got, rfl, Nat.zero_le _, HQ.out, by simpa using HI1.out, HB1.out⟩
      case round =>
        clear HQ HI1 HB1 hsz
        clear x n got A
        obtain ⟨k, A, x, n, got, rfl, hk, hQ, hI, hB⟩ := hrel
        have HQ := Lib.hid hQ
        have HI1 := Lib.hid hI
        have HB1 := Lib.hid hB
        clear hQ hI hB
        obtain ⟨W2, rfl⟩ : ∃ W, W = wr := ⟨_, rfl⟩
        by_cases hkq : k < q.length
        · have l1 : (k : Int) < q.length := by omega
          have hzq : q[k]? = some q[k] := List.getElem?_eq_getElem hkq
          have hdr : q.drop k = q[k] :: q.drop (k + 1) := by rw [List.drop_eq_getElem_cons hkq]
          rw [hdr] at HI1
          rcases HQ.out with ⟨hv, h0⟩ | ⟨g, qoff, qcap, hv, hq⟩
          · rw [h0] at hkq; simp at hkq
          · injection hv with hv1 hv2 hv3
            subst hv1
            subst hv3
            have HZQ := Lib.hid hzq
            clear hdr hzq
            generalize q[k] = z at *
            obtain ⟨r, A', n', ht, hI2⟩ := HI1.out.take 1 n got
            have HT := Lib.hid ht
            have HI2 := Lib.hid hI2
            have HQ2 := Lib.hid hq
            clear ht hI2 hq hv2
            have dr : decide ((r : Int) < 0) = false := by simp
            have HQF := Lib.hid (fun wx (hf : Frm [bb, ab, wb] W2 wx) => HQ2.out.frm hf (by simp; omega))
            have hne : Nonempty (HW (fun wx => Frm [bb, ab, wb] W2 wx)) := ⟨⟨W2, Frm.refl _ _⟩⟩
            have hz0 : ∀ t : HW (fun wx => Frm [bb, ab, wb] W2 wx), t.w.cell? ⟨g, qoff + k, none⟩ = some (.int .i64 z) := fun t => (HQF.out _ t.h).cell k z HZQ.out
            go_upto_region 21 with fail
            refine held_begin (S := fun wx => Frm [bb, ab, wb] W2 wx) (by kernel_rfl) ?_
            refine held_row_at (fuel := 16) (is := [0]) (.cons rfl .nil) (by kernel_rfl) (fun _ _ _ _ _ h => h) rfl (by kernel_rfl) (Frm.refl _ _).drew1 ?_
            intro K hK
            repeat (go_big_quiet_step (fail))
            refine wpQuiet_nil (hK _ ?_)
            clear hK K
            refine held_call (fuel := 15) (i := 1) rfl (by kernel_rfl) ?_
            go_wp2_with fail
            refine (HB1.out.kept ((Frm.refl _ _).drew1)).take.mono ?_; rintro e y1 ⟨rfl, hB, hF⟩; have HB2 := Lib.hid hB; have HS1 := Lib.hid (((Frm.refl [bb, ab, wb] W2).drew1).trans (hF.mono (by simp))); clear hB hF
            go_wp2_with fail
            refine onNormal_mk ⟨HS1.out, ?_⟩
            refine held_row_at (fuel := 12) (is := [2, 3, 4]) (.cons rfl (.cons rfl (.cons rfl .nil))) (by kernel_rfl) (fun _ _ _ _ _ h => h) rfl (by kernel_rfl) HS1.out ?_
            intro K hK
            repeat (go_big_quiet_step (fail))
            refine wpQuiet_nil (hK _ ?_)
            clear hK K
            refine held_call (fuel := 11) (i := 5) rfl (by kernel_rfl) ?_
            go_wp2_with fail
            refine HB2.out.thru.mono ?_; rw [HT.out]; rintro e y2 ⟨rfl, hB, hF⟩; have HB3 := Lib.hid hB; have HS2 := Lib.hid (HS1.out.trans hF); clear hB hF
            go_wp2_with fail
            refine onNormal_mk ⟨HS2.out, ?_⟩
            refine held_row_at (fuel := 3) (is := [6, 7, 8, 9, 11, 12, 13, 14]) (.cons rfl (.cons rfl (.cons rfl (.cons rfl (.cons rfl (.cons rfl (.cons rfl (.cons rfl .nil)))))))) (by kernel_rfl) (fun _ _ _ _ _ h => h) rfl (by kernel_rfl) HS2.out ?_
            intro K hK
            repeat (go_big_quiet_step (fail))
            refine wpQuiet_nil (hK _ ?_)
            clear hK K
            refine held_call (fuel := 2) (i := 10) rfl (by kernel_rfl) ?_
            go_wp2_with fail
            refine (Got_any HB3.out.bn).mono ?_; rintro e w' ⟨rfl, rfl⟩
            go_wp2_with fail
            refine onNormal_mk ⟨HS2.out, ?_⟩
            refine held_row_at (fuel := 0) (is := [15, 16]) (.cons rfl (.cons rfl .nil)) (by kernel_rfl) (fun _ _ _ _ _ h => h) rfl (by kernel_rfl) HS2.out ?_
            intro K hK
            repeat (go_big_quiet_step (fail))
            refine wpQuiet_nil (hK _ ?_)
            clear hK K
            refine held_end (by kernel_rfl) ?_
            go_wp2_with fail
            go_roundw
            case rel => exact ⟨k + 1, A', z, n', z, by go_num, by omega, .inr ⟨g, qoff, _, rfl, HQF.out _ HS2.out⟩, HI2.out, HB3.out⟩
            case measure => simp [intOf]; omega
        · have l1 : ¬ (k : Int) < q.length := by omega
          have hdr : q.drop k = [] := List.drop_eq_nil_of_le (by omega)
          rw [hdr] at HI1
          obtain ⟨A', n', ht, hI2⟩ := HI1.out.take0 1 n got
          have HT := Lib.hid ht
          clear ht hI2 hdr
          go_wp2_with fail
          refine HB1.out.take.mono ?_
          rintro e y1 ⟨rfl, hB, hF⟩
          have HB2 := Lib.hid hB
          clear hB hF
          go_wp2_with fail
          refine HB2.out.thru.mono ?_
          rw [HT.out]
          rintro e y2 ⟨rfl, hB, hF⟩
          have HB3 := Lib.hid hB
          clear hB hF
          go_wp2_with fail
          refine (Got_any HB3.out.bn).mono ?_
          rintro e w' ⟨rfl, rfl⟩
          go_wp2_with fail
          refine (bawake _).mono ?_
          rintro e y3 ⟨rfl, hF⟩
          have HF := Lib.hid (HB3.out.frm.trans hF)
          clear hF
          go_wp2
          go_ret
          exact ⟨rfl, HF.out.below (Nat.le_refl _) (by simp)⟩

theorem benchFifo_walk (v : Value) (l : List Int) (w : World) (h : IsRow .u8 w v l) :
    Calls Try.prog 3 #[v] w fun e w' => e = .returned (.bool true) ∧ Below w.heap.size w w' := by
  by_cases hl : l.length ≤ 60
  · exact benchFifo_short v l w h hl
  · exact benchFifo_long v l w h (by omega)

end Go.Proofs.Ytacogelejffbhaa
