/- The walk of the law BenchPlays. (Printed by gen_benchplays.py.) -/
import Derived.Test.YtacogelejffbhaaBenchBad
import Derived.Test.YtacogelejffbhaaBenchAwake
import Derived.Test.YtacogelejffbhaaActs
import Derived.Test.YtacogelejffbhaaSame
import Derived.Test.YtacogelejffbhaaArenaWords
import Derived.Deep.RegionWith
import Derived.Deep.DeepCutAuto
import Derived.Deep.CutBlock
namespace Go.Proofs.Ytacogelejffbhaa
open Go.RowKit

/-- both benches stand alike: the document's Take does not touch what is put -/
def BRel (B B' : BK) : Prop := B'.step = B.step ∧ B'.n = B.n ∧ B'.got = B.got ∧ (B.step = 5 ∨ B'.x = B.x)
section
variable {B B' : BK} {first things : Nat} {A : AR}
theorem BRel.step (h : BRel B B') : bStepR first A B' = bStepR first A B ∧ bStepA first A B' = bStepA first A B ∧ BRel (bStepB first A B) (bStepB first A B') := by
  obtain ⟨st, x, n, got⟩ := B
  obtain ⟨st', x', n', got'⟩ := B'
  obtain ⟨h1, h2, h3, h4⟩ := h
  simp only at h1 h2 h3 h4
  subst h1 h2 h3
  refine ⟨rfl, ?_, ?_⟩
  · rcases h4 with h4 | h4
    · subst h4
      rfl
    · subst h4
      rfl
  · rcases h4 with h4 | h4
    · subst h4
      unfold bStepB BRel
      simp
    · subst h4
      exact ⟨rfl, rfl, rfl, .inr rfl⟩
theorem BRel.put (h : BRel B B') (x : Int) : bPutOk things B' x = bPutOk things B x ∧ BRel (bPutB things B x) (bPutB things B' x) := by
  obtain ⟨st, y, n, got⟩ := B
  obtain ⟨st', y', n', got'⟩ := B'
  obtain ⟨h1, h2, h3, h4⟩ := h
  simp only at h1 h2 h3 h4
  subst h1 h2 h3
  refine ⟨rfl, ?_⟩
  unfold bPutB bPutOk
  simp only
  split
  · exact ⟨rfl, rfl, rfl, .inr rfl⟩
  · exact ⟨rfl, rfl, rfl, h4⟩
theorem BRel.take (h : BRel B B') : bTakeOk B' = bTakeOk B ∧ BRel (bTakeB B) (rbTakeB B') := by
  obtain ⟨st, y, n, got⟩ := B
  obtain ⟨st', y', n', got'⟩ := B'
  obtain ⟨h1, h2, h3, h4⟩ := h
  simp only at h1 h2 h3 h4
  subst h1 h2 h3
  refine ⟨rfl, ?_⟩
  unfold bTakeB rbTakeB bTakeOk
  simp only
  split
  · exact ⟨rfl, rfl, rfl, .inl rfl⟩
  · exact ⟨rfl, rfl, rfl, h4⟩
end

/-- the blocks of the law's objects, as they were made -/
structure BSO (w0 : World) (wb ab rb bb yb : Nat) (v : Value) : Prop where
  old : ∀ k ∈ [bb, ab, wb] ++ (yb :: rb :: vb v), w0.heap.size ≤ k
  apart : ∀ k ∈ yb :: rb :: vb v, k ∉ [bb, ab, wb]
  ne : bb ≠ ab ∧ bb ≠ wb
  hy : yb ∉ rb :: vb v
/-- where both benches stand -/
structure BSM (w0 w : World) (wb ab rb bb yb first things : Nat) (v : Value) (A1 A2 : AR) (B1 B2 : BK) : Prop where
  ar : ArAt w ab wb A1
  bn : BnAt w bb ab first things B1
  rf : RfAt w rb v A2
  rk : RbAt w yb rb first things B2
  frm : Frm [] w0 w
section
variable {w0 w w1 : World} {wb ab rb bb yb first things : Nat} {v : Value} {A1 A2 : AR} {B1 B2 : BK}
theorem BSM.frm_ (h : BSM w0 w wb ab rb bb yb first things v A1 A2 B1 B2) (hf : Frm [] w w1) : BSM w0 w1 wb ab rb bb yb first things v A1 A2 B1 B2 :=
  { ar := h.ar.frm hf (by simp) (by simp), bn := h.bn.frm hf (by simp), rf := h.rf.frm hf (by simp), rk := h.rk.frm hf (by simp), frm := h.frm.trans hf }
theorem BSM.p (h : BSM w0 w wb ab rb bb yb first things v A1 A2 B1 B2) (o : BSO w0 wb ab rb bb yb v) {Z : List Nat} {A3 : AR} {B3 : BK} (hZ : ∀ k ∈ Z, k ∈ [bb, ab, wb]) (hf : Frm Z w w1) (hA : ArAt w1 ab wb A3) (hB : BnAt w1 bb ab first things B3) :
    BSM w0 w1 wb ab rb bb yb first things v A3 A2 B3 B2 := by
  have q : ∀ k, k ∈ yb :: rb :: vb v → k ∉ Z := fun k hk hm => o.apart k hk (hZ k hm)
  exact { ar := hA, bn := hB, rf := h.rf.frm' hf (q _ (by simp)) (fun k hk => q k (by simp [vb, hk])), rk := h.rk.frm hf (q _ (by simp)), frm := h.frm.widen hf (fun x hx => .inr (o.old x (by have := hZ x hx; simp at this ⊢; omega))) }
theorem BSM.q (h : BSM w0 w wb ab rb bb yb first things v A1 A2 B1 B2) (o : BSO w0 wb ab rb bb yb v) {Z : List Nat} {A3 : AR} {B3 : BK} (hZ : ∀ k ∈ Z, k ∈ yb :: rb :: vb v) (hf : Frm Z w w1) (hA : RfAt w1 rb v A3) (hB : RbAt w1 yb rb first things B3) :
    BSM w0 w1 wb ab rb bb yb first things v A1 A3 B1 B3 := by
  have q : ∀ k, k ∈ [bb, ab, wb] → k ∉ Z := fun k hk hm => o.apart k (hZ k hm) hk
  exact { ar := h.ar.frm hf (q _ (by simp)) (q _ (by simp)), bn := h.bn.frm hf (q _ (by simp)), rf := hA, rk := hB, frm := h.frm.widen hf (fun x hx => .inr (o.old x (List.mem_append.2 (.inr (hZ x hx))))) }
theorem BSM.pstep (h : BSM w0 w wb ab rb bb yb first things v A1 A2 B1 B2) (o : BSO w0 wb ab rb bb yb v) : Calls Try.prog 17 #[.pointer (some ⟨bb, 0, none⟩)] w fun e w' => e = .returned (.bool (bStepR first A1 B1)) ∧ BSM w0 w' wb ab rb bb yb first things v (bStepA first A1 B1) A2 (bStepB first A1 B1) B2 :=
  (bStep_any h.bn h.ar o.ne).mono fun _ _ ⟨h1, h2, h3, h4⟩ => ⟨h1, h.p o (fun k hk => by simp at hk ⊢; omega) h4 h3 h2⟩
theorem BSM.pput (h : BSM w0 w wb ab rb bb yb first things v A1 A2 B1 B2) (o : BSO w0 wb ab rb bb yb v) (x : Int) : Calls Try.prog 13 #[.pointer (some ⟨bb, 0, none⟩), .int .i64 x] w fun e w' => e = .returned (.bool (bPutOk things B1 x)) ∧ BSM w0 w' wb ab rb bb yb first things v A1 A2 (bPutB things B1 x) B2 :=
  (bPut_any h.bn x).mono fun _ _ ⟨h1, h2, h3⟩ => ⟨h1, h.p o (fun k hk => by simp at hk ⊢; omega) h3 (h.ar.frm h3 (by simp; exact fun e => o.ne.1 e.symm) (by simp; exact fun e => o.ne.2 e.symm)) h2⟩
theorem BSM.ptake (h : BSM w0 w wb ab rb bb yb first things v A1 A2 B1 B2) (o : BSO w0 wb ab rb bb yb v) : Calls Try.prog 15 #[.pointer (some ⟨bb, 0, none⟩)] w fun e w' => e = .returned (.bool (bTakeOk B1)) ∧ BSM w0 w' wb ab rb bb yb first things v A1 A2 (bTakeB B1) B2 :=
  (bTake_any h.bn).mono fun _ _ ⟨h1, h2, h3⟩ => ⟨h1, h.p o (fun k hk => by simp at hk ⊢; omega) h3 (h.ar.frm h3 (by simp; exact fun e => o.ne.1 e.symm) (by simp; exact fun e => o.ne.2 e.symm)) h2⟩
theorem BSM.qstep (h : BSM w0 w wb ab rb bb yb first things v A1 A2 B1 B2) (o : BSO w0 wb ab rb bb yb v) : Calls Try.prog 21 #[.pointer (some ⟨yb, 0, none⟩)] w fun e w' => e = .returned (.bool (bStepR first A2 B2)) ∧ BSM w0 w' wb ab rb bb yb first things v A1 (bStepA first A2 B2) B1 (bStepB first A2 B2) :=
  (rbStep_any h.rk h.rf o.hy).mono fun _ _ ⟨h1, h2, h3, h4⟩ => ⟨h1, h.q o (fun k hk => hk) h4 h3 h2⟩
theorem BSM.qput (h : BSM w0 w wb ab rb bb yb first things v A1 A2 B1 B2) (o : BSO w0 wb ab rb bb yb v) (x : Int) : Calls Try.prog 22 #[.pointer (some ⟨yb, 0, none⟩), .int .i64 x] w fun e w' => e = .returned (.bool (bPutOk things B2 x)) ∧ BSM w0 w' wb ab rb bb yb first things v A1 A2 B1 (bPutB things B2 x) :=
  (rbPut_any h.rk x).mono fun _ _ ⟨h1, h2, h3⟩ => ⟨h1, h.q o (fun k hk => by simp at hk ⊢; exact .inl hk) h3 (h.rf.frm' h3 (by simp; intro e; exact o.hy (by simp [e])) (fun k hk => by simp; intro e; exact o.hy (by simp [vb, ← e, hk]))) h2⟩
theorem BSM.qtake (h : BSM w0 w wb ab rb bb yb first things v A1 A2 B1 B2) (o : BSO w0 wb ab rb bb yb v) : Calls Try.prog 23 #[.pointer (some ⟨yb, 0, none⟩)] w fun e w' => e = .returned (.bool (bTakeOk B2)) ∧ BSM w0 w' wb ab rb bb yb first things v A1 A2 B1 (rbTakeB B2) :=
  (rbTake_any h.rk).mono fun _ _ ⟨h1, h2, h3⟩ => ⟨h1, h.q o (fun k hk => by simp at hk ⊢; exact .inl hk) h3 (h.rf.frm' h3 (by simp; intro e; exact o.hy (by simp [e])) (fun k hk => by simp; intro e; exact o.hy (by simp [vb, ← e, hk]))) h2⟩
end

theorem benchPlays_long (v : Value) (acts : List (Int × Int)) (n0 n1 : Int) (w : World) (h : ActsAt w v acts) (hl : 100 < acts.length) :
    Calls Try.prog 5 #[.agg #[.int .i64 n0, .int .i64 n1], v] w fun e w' => e = .returned (.bool true) ∧ Below w.heap.size w w' := by
  obtain ⟨a, cap, rfl, -, -, -⟩ := h
  have d1 : decide ((100 : Int) < acts.length) = true := by simp; omega
  have d3 : decide (100 < acts.length) = true := by simp; omega
  go_enter Try.func5, Try.ntmps5
  go_wp2_with fail
  refine (bawake _).mono ?_
  rintro e w1 ⟨rfl, hF⟩
  have HF := Lib.hid (((Frm.refl [] w).alloc _).trans hF)
  clear hF
  go_wp2
  go_ret
  exact ⟨rfl, HF.out.below (Nat.le_refl _) (by simp)⟩

set_option maxRecDepth 100000 in
set_option maxHeartbeats 8000000 in
theorem benchPlays_short (v : Value) (acts : List (Int × Int)) (n0 n1 : Int) (w : World) (h : ActsAt w v acts) (hl : acts.length ≤ 100) :
    Calls Try.prog 5 #[.agg #[.int .i64 n0, .int .i64 n1], v] w fun e w' => e = .returned (.bool true) ∧ Below w.heap.size w w' := by
  obtain ⟨a, cap, rfl, -, hc, -⟩ := h
  have d1 : decide ((100 : Int) < acts.length) = false := by simp; omega
  have d3 : decide (100 < acts.length) = false := by simp; omega
  have HC := Lib.hid hc
  clear hc
  go_enter Try.func5, Try.ntmps5
  go_upto_region 3 with fail
  generalize hW : World.alloc _ _ = W
  have hb : HAt W w.heap.size [.int .i64 n0, .int .i64 n1] 39 := by subst hW; exact HAt.new w _ _
  have hf : Frm [] w W := by subst hW; exact (Frm.refl _ _).alloc _
  have hsz : W.heap.size = w.heap.size + 1 := by subst hW; simp
  have HB := Lib.hid hb
  have HF0 := Lib.hid hf
  have HSZ := Lib.hid hsz
  have hne : Nonempty (HW (fun wx => Frm [] W wx)) := ⟨⟨W, Frm.refl _ _⟩⟩
  have hz0 : ∀ q : HW (fun wx => Frm [] W wx), q.w.cell? ⟨w.heap.size, 0, none⟩ = some (.int .i64 n0) := fun q => (HB.out.frm q.h (by simp)).cell (i := 0) rfl
  clear hW hb hf hsz
  refine held_begin (S := fun wx => Frm [] W wx) (by kernel_rfl) ?_
  refine held_row_at (fuel := 4) (is := [0, 1, 3, 4]) (.cons rfl (.cons rfl (.cons rfl (.cons rfl .nil)))) (by kernel_rfl) (fun _ _ _ _ _ h => h) rfl (by kernel_rfl) (Frm.refl _ _).drew1 ?_
  intro K hK
  repeat (go_big_quiet_step (fail))
  refine wpQuiet_nil (hK _ ?_)
  clear hK K
  refine held_call (fuel := 3) (i := 2) rfl (by kernel_rfl) ?_
  go_wp2_with fail
  refine (New_any n0 _).mono ?_; rintro e w1 ⟨rfl, hA, hF⟩; have HA1 : Hid (ArAt w1 (W.heap.size + 1) W.heap.size (AR.fresh (roomOf n0))) := Lib.hid hA; have HFA := Lib.hid (((Frm.refl [] W).drew1).trans hF); clear hA hF
  go_wp2_with fail
  refine onNormal_mk ⟨(by repeat (first | exact HFB.out | exact HFA.out | exact Frm.refl _ _ | apply Frm.drew1 | apply Frm.drew)), ?_⟩
  refine held_call (fuel := 2) (i := 5) rfl (by kernel_rfl) ?_
  go_wp2_with fail
  refine (rNew_any n0 _).mono ?_; rintro e w2 ⟨rfl, hR, hF⟩; have HR2 := Lib.hid hR; have HFR := Lib.hid hF; have HFB := Lib.hid (HFA.out.trans hF); clear hR hF
  go_wp2_with fail
  refine onNormal_mk ⟨(by repeat (first | exact HFB.out | exact HFA.out | exact Frm.refl _ _ | apply Frm.drew1 | apply Frm.drew)), ?_⟩
  refine held_row_at (fuel := 0) (is := [6, 7]) (.cons rfl (.cons rfl .nil)) (by kernel_rfl) (fun _ _ _ _ _ h => h) rfl (by kernel_rfl) (by repeat (first | exact HFB.out | exact HFA.out | exact Frm.refl _ _ | apply Frm.drew1 | apply Frm.drew)) ?_
  intro K hK
  repeat (go_big_quiet_step (fail))
  refine wpQuiet_nil (hK _ ?_)
  clear hK K
  refine held_end (by kernel_rfl) ?_
  have hF2 : Frm [] W w2 := HFB.out
  have hA : ArAt w2 (W.heap.size + 1) W.heap.size (AR.fresh (roomOf n0)) := (HA1.out.frm HFR.out (by simp) (by simp))
  have hrb : W.heap.size + 2 ≤ w1.heap.size := by have := HA1.out.box.lt; omega
  have HA := Lib.hid hA
  have HR := Lib.hid HR2.out
  have HF := Lib.hid hF2
  have HB1 := Lib.hid (HB.out.frm hF2 (by simp))
  generalize w1.heap.size = rb at *
  clear hA hF2 HA1 HFR HFB HR2 HFA HB hne hz0
  have c1 := HB1.out.cell (i := 1) rfl
  by_cases hE : benchE (AR.fresh (roomOf n0)) n1 = 0
  · have hE' := hE
    unfold benchE at hE'
    have hok : ¬ (n1 < 1 ∨ 32 < n1) := by intro hb; rw [if_pos hb] at hE'; omega
    rw [if_neg hok] at hE'
    have HT := Lib.hid hE'
    obtain ⟨n, rfl⟩ : ∃ n : Nat, n1 = n := ⟨n1.toNat, by omega⟩
    have q1 : 1 ≤ n := by omega
    have q2 : n ≤ 32 := by omega
    clear hE hE' hok
    have hrl := HR.out.box.lt
    go_wp2_with fail
    refine (bNew_ok HA.out n q1 q2 HT.out).mono ?_
    rintro e w3 ⟨bb, rfl, hbb, hL3, hA3, hF3⟩
    have HR3 := Lib.hid (HR.out.frm hF3 (by simp; omega))
    have hB3 := HB1.out.frm hF3 (by simp [HSZ.out]; omega)
    have HF3 := Lib.hid ((HF.out.widen hF3 (by simp)))
    have HL3 := Lib.hid hL3
    have HA3 := Lib.hid hA3
    have hsz3 := hF3.size
    have hl3 := hL3.box.lt
    have hsz2 := HF.out.size
    clear hF3 c1 hL3 hA3
    have c1 := hB3.cell (i := 1) rfl
    clear hB3
    go_wp2_with fail
    refine (rbNew_ok HR3.out n q1 q2 HT.out (fun k hk => by simp [Value.ownBlock] at hk)).mono ?_
    rintro e w4 ⟨yb, v', rfl, hyb, hK4, hR4, hF4, hv4⟩
    have hw := HSZ.out
    have hv5 : ∀ k ∈ vb v', w3.heap.size ≤ k ∧ k ≠ yb := fun k hk => by
      obtain ⟨h1, h2⟩ := hv4 k (by simpa [vb] using hk)
      refine ⟨?_, h2⟩
      rcases h1 with h1 | h1
      · simp [Value.ownBlock] at h1
      · exact h1
    have hO : BSO w W.heap.size (W.heap.size + 1) rb bb yb v' := by
      refine { old := fun k hk => ?_, apart := fun k hk hm => ?_, ne := ⟨by omega, by omega⟩, hy := fun hm => ?_ }
      · simp at hk
        rcases hk with h | h | h | h | h | h
        · omega
        · omega
        · omega
        · omega
        · omega
        · have := hv5 k h; omega
      · simp at hk hm
        rcases hk with h | h | h
        · omega
        · omega
        · have := hv5 k h; omega
      · simp at hm
        rcases hm with h | h
        · omega
        · have := hv5 yb h; omega
    have hout : ∀ x, x < w3.heap.size → x ≠ rb → x ∉ rb :: vb (.slice none 0 0) := fun x _ hx hm => by simp [vb, Value.ownBlock] at hm; omega
    have hI : BSM w w4 W.heap.size (W.heap.size + 1) rb bb yb ((AR.fresh (roomOf n0)).taken + 1) n v' ((AR.fresh (roomOf n0)).take (2 + n)) ((AR.fresh (roomOf n0)).take (2 + n)) ⟨0, 0, 0, 0⟩ ⟨0, 0, 0, 0⟩ := by
      refine { ar := HA3.out.frm hF4 (hout _ (by omega) (by omega)) (hout _ (by omega) (by omega)), bn := HL3.out.frm hF4 (hout _ hl3 (by omega)), rf := hR4, rk := hK4, frm := ?_ }
      exact ((HF0.out.trans HF3.out).widen hF4 (fun x hx => by
        rcases List.mem_cons.1 hx with h | h
        · right; omega
        · simp [vb, Value.ownBlock] at h))
    have HO := Lib.hid hO
    have HI := Lib.hid hI
    clear hO hI hK4 hR4 hF4 hv4 hv5 c1 HR HA HB1 HF HR3 HA3 HL3 HF3 hout hw hyb hbb hrb hrl hl3 hsz2 hsz3
    generalize (AR.fresh (roomOf n0)).take (2 + n) = A1 at HI
    generalize (AR.fresh (roomOf n0)).taken + 1 = first at *
    generalize W.heap.size + 1 = ab at *
    generalize W.heap.size = wb at *
    go_wp2_with fail
    go_loopw [11] (fun iv wx => ∃ (k : Nat) (A : AR) (B B' : BK), iv = .int .i64 k ∧ k ≤ acts.length ∧ BSM w wx wb ab rb bb yb first n v' A A B B' ∧ BRel B B') (fun iv _ => acts.length - (intOf iv).toNat)
    case atStart => exact ⟨0, A1, _, _, rfl, Nat.zero_le _, HI.out, ⟨rfl, rfl, rfl, .inr rfl⟩⟩
    case round =>
      obtain ⟨k, A, B, B', rfl, hk, hI, hRl⟩ := hrel
      have HI1 := Lib.hid hI
      have HRl := Lib.hid hRl
      clear hI HI hRl
      by_cases hlt : k < acts.length
      · obtain ⟨b, off, rfl, hb, hcell⟩ := HC.out (by omega)
        have ex : acts[k]? = some acts[k] := by simp
        have l1 : (k : Int) < acts.length := by omega
        have hcx : ∀ wx, Frm [] w wx → wx.cell? ⟨b, off + k * 2, none⟩ = some (.int .i64 acts[k].1) ∧ wx.cell? ⟨b, off + k * 2 + 1, none⟩ = some (.int .i64 acts[k].2) := fun wx hf => ⟨hf.cell (hcell k _ ex).1 (by simp), hf.cell (hcell k _ ex).2 (by simp)⟩
        have HCX := Lib.hid hcx
        clear hcell ex hcx
        generalize acts[k] = x at *
        obtain ⟨kind, i⟩ := x
        simp only at HCX
        have v0 := (HCX.out _ HI1.out.frm).1
        by_cases k0 : kind = 0
        · subst k0
          go_wp2_with fail
          refine (HI1.out.pstep HO.out).mono ?_
          rintro e x1 ⟨rfl, hM⟩
          have HM1 := Lib.hid hM
          clear hM
          go_wp2_with fail
          refine (HM1.out.qstep HO.out).mono ?_
          rw [(HRl.out.step (first := first) (A := A)).1, (HRl.out.step (first := first) (A := A)).2.1]
          rintro e x2 ⟨rfl, hM⟩
          have HM := Lib.hid hM
          have HRel := Lib.hid (HRl.out.step (first := first) (A := A)).2.2
          clear hM HM1 HRl HI1 v0
          generalize bStepR first A B = rr at *
          generalize bStepA first A B = A2 at *
          generalize bStepB first A B = B2 at *
          generalize bStepB first A B' = B3 at *
          obtain ⟨WX, rfl⟩ : ∃ W, W = x2 := ⟨_, rfl⟩
          have g1 := HRel.out.1
          have g2 := HRel.out.2.2.1
          have hne1 : Nonempty (HW (fun wx => Frm [] WX wx)) := ⟨⟨WX, Frm.refl _ _⟩⟩
          have hz1 : ∀ q : HW (fun wx => Frm [] WX wx), q.w.cell? ⟨yb, 3, none⟩ = some (.int .i64 B2.step) := fun q => by rw [← HRel.out.1]; exact (HM.out.rk.box.frm q.h (by simp)).cell (i := 3) rfl
          have hz2 : ∀ q : HW (fun wx => Frm [] WX wx), q.w.cell? ⟨yb, 6, none⟩ = some (.int .i64 B2.got) := fun q => by rw [← HRel.out.2.2.1]; exact (HM.out.rk.box.frm q.h (by simp)).cell (i := 6) rfl
          have hz3 : ∀ q : HW (fun wx => Frm [] WX wx), q.w.cell? ⟨rb, 1, none⟩ = some v' := fun q => (HM.out.rf.box.frm q.h (by simp)).cell (i := 1) rfl
          have hz4 : ∀ q : HW (fun wx => Frm [] WX wx), q.w.cell? ⟨rb, 2, none⟩ = some (.int .i64 A2.ops) := fun q => (HM.out.rf.box.frm q.h (by simp)).cell (i := 2) rfl
          clear g1 g2
          go_upto_region 24 with fail
          refine held_begin (S := fun wx => Frm [] WX wx) (by kernel_rfl) ?_
          refine held_row_at (fuel := 31) (is := [0, 1, 2, 3, 4, 6, 7, 8, 9, 10]) (.cons rfl (.cons rfl (.cons rfl (.cons rfl (.cons rfl (.cons rfl (.cons rfl (.cons rfl (.cons rfl (.cons rfl .nil)))))))))) (by kernel_rfl) (fun _ _ _ _ _ h => h) rfl (by kernel_rfl) (Frm.refl _ _).drew1 ?_
          intro K hK
          repeat (go_big_quiet_step (fail))
          refine wpQuiet_nil (hK _ ?_)
          clear hK K
          refine held_call (fuel := 30) (i := 5) rfl (by kernel_rfl) ?_
          go_wp2_with fail
          refine (Busy_any (HM.out.bn.frm (Z := []) (by repeat (first | exact HFW.out | exact Frm.refl _ _ | apply Frm.drew1 | apply Frm.drew)) (by simp))).mono ?_; rintro e x1 ⟨rfl, rfl⟩
          go_wp2_with fail
          refine onNormal_mk ⟨(by repeat (first | exact HFW.out | exact Frm.refl _ _ | apply Frm.drew1 | apply Frm.drew)), ?_⟩
          refine held_row_at (fuel := 22) (is := [11, 12, 13, 14, 16, 17, 18, 19]) (.cons rfl (.cons rfl (.cons rfl (.cons rfl (.cons rfl (.cons rfl (.cons rfl (.cons rfl .nil)))))))) (by kernel_rfl) (fun _ _ _ _ _ h => h) rfl (by kernel_rfl) (by repeat (first | exact HFW.out | exact Frm.refl _ _ | apply Frm.drew1 | apply Frm.drew)) ?_
          intro K hK
          repeat (go_big_quiet_step (fail))
          refine wpQuiet_nil (hK _ ?_)
          clear hK K
          refine held_call (fuel := 21) (i := 15) rfl (by kernel_rfl) ?_
          go_wp2_with fail
          refine (Got_any (HM.out.bn.frm (Z := []) (by repeat (first | exact HFW.out | exact Frm.refl _ _ | apply Frm.drew1 | apply Frm.drew)) (by simp))).mono ?_; rintro e x2 ⟨rfl, rfl⟩
          go_wp2_with fail
          refine onNormal_mk ⟨(by repeat (first | exact HFW.out | exact Frm.refl _ _ | apply Frm.drew1 | apply Frm.drew)), ?_⟩
          refine held_row_at (fuel := 13) (is := [20, 21, 22, 23, 25, 26, 27, 28]) (.cons rfl (.cons rfl (.cons rfl (.cons rfl (.cons rfl (.cons rfl (.cons rfl (.cons rfl .nil)))))))) (by kernel_rfl) (fun _ _ _ _ _ h => h) rfl (by kernel_rfl) (by repeat (first | exact HFW.out | exact Frm.refl _ _ | apply Frm.drew1 | apply Frm.drew)) ?_
          intro K hK
          repeat (go_big_quiet_step (fail))
          refine wpQuiet_nil (hK _ ?_)
          clear hK K
          refine held_call (fuel := 12) (i := 24) rfl (by kernel_rfl) ?_
          go_wp2_with fail
          refine (Words_any (HM.out.ar.frm (S := []) (by repeat (first | exact HFW.out | exact Frm.refl _ _ | apply Frm.drew1 | apply Frm.drew)) (by simp) (by simp))).mono ?_; rintro e x3 ⟨vv, rfl, hO, hF⟩; have HFW := Lib.hid (Frm.trans (S := []) (a := WX) (by repeat (first | exact HFW.out | exact Frm.refl _ _ | apply Frm.drew1 | apply Frm.drew)) hF); have HOW := Lib.hid (hO.base (Nat.zero_le _)); clear hO hF
          go_wp2_with fail
          refine onNormal_mk ⟨(by repeat (first | exact HFW.out | exact Frm.refl _ _ | apply Frm.drew1 | apply Frm.drew)), ?_⟩
          refine held_call (fuel := 11) (i := 29) rfl (by kernel_rfl) ?_
          go_wp2_with fail
          refine (Same_any _ HOW.out.row (HM.out.rf.row.frm (S := []) (by repeat (first | exact HFW.out | exact Frm.refl _ _ | apply Frm.drew1 | apply Frm.drew)) (by simp)).row).mono ?_; rintro e x4 ⟨he, nn, rfl⟩; obtain rfl : e = .returned (.bool true) := by rw [he]; simp
          go_wp2_with fail
          refine onNormal_mk ⟨(by repeat (first | exact HFW.out | exact Frm.refl _ _ | apply Frm.drew1 | apply Frm.drew)), ?_⟩
          refine held_row_at (fuel := 3) (is := [30, 31, 32, 33, 35, 36, 37, 38]) (.cons rfl (.cons rfl (.cons rfl (.cons rfl (.cons rfl (.cons rfl (.cons rfl (.cons rfl .nil)))))))) (by kernel_rfl) (fun _ _ _ _ _ h => h) rfl (by kernel_rfl) (by repeat (first | exact HFW.out | exact Frm.refl _ _ | apply Frm.drew1 | apply Frm.drew)) ?_
          intro K hK
          repeat (go_big_quiet_step (fail))
          refine wpQuiet_nil (hK _ ?_)
          clear hK K
          refine held_call (fuel := 2) (i := 34) rfl (by kernel_rfl) ?_
          go_wp2_with fail
          refine (Ops_any (HM.out.ar.frm (S := []) (by repeat (first | exact HFW.out | exact Frm.refl _ _ | apply Frm.drew1 | apply Frm.drew)) (by simp) (by simp))).mono ?_; rintro e x5 ⟨rfl, rfl⟩
          go_wp2_with fail
          refine onNormal_mk ⟨(by repeat (first | exact HFW.out | exact Frm.refl _ _ | apply Frm.drew1 | apply Frm.drew)), ?_⟩
          refine held_row_at (fuel := 0) (is := [39, 40]) (.cons rfl (.cons rfl .nil)) (by kernel_rfl) (fun _ _ _ _ _ h => h) rfl (by kernel_rfl) (by repeat (first | exact HFW.out | exact Frm.refl _ _ | apply Frm.drew1 | apply Frm.drew)) ?_
          intro K hK
          repeat (go_big_quiet_step (fail))
          refine wpQuiet_nil (hK _ ?_)
          clear hK K
          refine held_end (by kernel_rfl) ?_
          have HI3 := Lib.hid (HM.out.frm_ (w1 := x3.drewN nn) (by repeat (first | exact HFW.out | exact Frm.refl _ _ | apply Frm.drew1 | apply Frm.drew)))
          generalize x3.drewN nn = W5 at *
          clear HM HOW HFW hne1 hz1 hz2 hz3 hz4
          go_wp2_with fail
          go_roundw
          case rel => exact ⟨k + 1, A2, B2, B3, by go_num, by omega, HI3.out, HRel.out⟩
          case measure => simp [intOf]; omega
        · have e0 : (kind == 0) = false := by simpa using k0
          by_cases k1 : kind = 1
          · subst k1
            have v1 := (HCX.out _ HI1.out.frm).2
            go_wp2_with fail
            refine (HI1.out.pput HO.out i).mono ?_
            rintro e x1 ⟨rfl, hM⟩
            have v2 := (HCX.out _ hM.frm).2
            have HM1 := Lib.hid hM
            clear hM v1 v0
            go_wp2_with fail
            refine (HM1.out.qput HO.out i).mono ?_
            rw [(HRl.out.put (things := n) i).1]
            rintro e x2 ⟨rfl, hM⟩
            have HM := Lib.hid hM
            have HRel := Lib.hid (HRl.out.put (things := n) i).2
            clear hM HM1 HRl HI1 v2
            generalize bPutOk n B i = rr at *
            obtain ⟨A2, rfl⟩ : ∃ A2, A2 = A := ⟨_, rfl⟩
            generalize bPutB n B i = B2 at *
            generalize bPutB n B' i = B3 at *
            obtain ⟨WX, rfl⟩ : ∃ W, W = x2 := ⟨_, rfl⟩
            have g1 := HRel.out.1
            have g2 := HRel.out.2.2.1
            have hne1 : Nonempty (HW (fun wx => Frm [] WX wx)) := ⟨⟨WX, Frm.refl _ _⟩⟩
            have hz1 : ∀ q : HW (fun wx => Frm [] WX wx), q.w.cell? ⟨yb, 3, none⟩ = some (.int .i64 B2.step) := fun q => by rw [← HRel.out.1]; exact (HM.out.rk.box.frm q.h (by simp)).cell (i := 3) rfl
            have hz2 : ∀ q : HW (fun wx => Frm [] WX wx), q.w.cell? ⟨yb, 6, none⟩ = some (.int .i64 B2.got) := fun q => by rw [← HRel.out.2.2.1]; exact (HM.out.rk.box.frm q.h (by simp)).cell (i := 6) rfl
            have hz3 : ∀ q : HW (fun wx => Frm [] WX wx), q.w.cell? ⟨rb, 1, none⟩ = some v' := fun q => (HM.out.rf.box.frm q.h (by simp)).cell (i := 1) rfl
            have hz4 : ∀ q : HW (fun wx => Frm [] WX wx), q.w.cell? ⟨rb, 2, none⟩ = some (.int .i64 A2.ops) := fun q => (HM.out.rf.box.frm q.h (by simp)).cell (i := 2) rfl
            clear g1 g2
            go_upto_region 24 with fail
            refine held_begin (S := fun wx => Frm [] WX wx) (by kernel_rfl) ?_
            refine held_row_at (fuel := 31) (is := [0, 1, 2, 3, 4, 6, 7, 8, 9, 10]) (.cons rfl (.cons rfl (.cons rfl (.cons rfl (.cons rfl (.cons rfl (.cons rfl (.cons rfl (.cons rfl (.cons rfl .nil)))))))))) (by kernel_rfl) (fun _ _ _ _ _ h => h) rfl (by kernel_rfl) (Frm.refl _ _).drew1 ?_
            intro K hK
            repeat (go_big_quiet_step (fail))
            refine wpQuiet_nil (hK _ ?_)
            clear hK K
            refine held_call (fuel := 30) (i := 5) rfl (by kernel_rfl) ?_
            go_wp2_with fail
            refine (Busy_any (HM.out.bn.frm (Z := []) (by repeat (first | exact HFW.out | exact Frm.refl _ _ | apply Frm.drew1 | apply Frm.drew)) (by simp))).mono ?_; rintro e x1 ⟨rfl, rfl⟩
            go_wp2_with fail
            refine onNormal_mk ⟨(by repeat (first | exact HFW.out | exact Frm.refl _ _ | apply Frm.drew1 | apply Frm.drew)), ?_⟩
            refine held_row_at (fuel := 22) (is := [11, 12, 13, 14, 16, 17, 18, 19]) (.cons rfl (.cons rfl (.cons rfl (.cons rfl (.cons rfl (.cons rfl (.cons rfl (.cons rfl .nil)))))))) (by kernel_rfl) (fun _ _ _ _ _ h => h) rfl (by kernel_rfl) (by repeat (first | exact HFW.out | exact Frm.refl _ _ | apply Frm.drew1 | apply Frm.drew)) ?_
            intro K hK
            repeat (go_big_quiet_step (fail))
            refine wpQuiet_nil (hK _ ?_)
            clear hK K
            refine held_call (fuel := 21) (i := 15) rfl (by kernel_rfl) ?_
            go_wp2_with fail
            refine (Got_any (HM.out.bn.frm (Z := []) (by repeat (first | exact HFW.out | exact Frm.refl _ _ | apply Frm.drew1 | apply Frm.drew)) (by simp))).mono ?_; rintro e x2 ⟨rfl, rfl⟩
            go_wp2_with fail
            refine onNormal_mk ⟨(by repeat (first | exact HFW.out | exact Frm.refl _ _ | apply Frm.drew1 | apply Frm.drew)), ?_⟩
            refine held_row_at (fuel := 13) (is := [20, 21, 22, 23, 25, 26, 27, 28]) (.cons rfl (.cons rfl (.cons rfl (.cons rfl (.cons rfl (.cons rfl (.cons rfl (.cons rfl .nil)))))))) (by kernel_rfl) (fun _ _ _ _ _ h => h) rfl (by kernel_rfl) (by repeat (first | exact HFW.out | exact Frm.refl _ _ | apply Frm.drew1 | apply Frm.drew)) ?_
            intro K hK
            repeat (go_big_quiet_step (fail))
            refine wpQuiet_nil (hK _ ?_)
            clear hK K
            refine held_call (fuel := 12) (i := 24) rfl (by kernel_rfl) ?_
            go_wp2_with fail
            refine (Words_any (HM.out.ar.frm (S := []) (by repeat (first | exact HFW.out | exact Frm.refl _ _ | apply Frm.drew1 | apply Frm.drew)) (by simp) (by simp))).mono ?_; rintro e x3 ⟨vv, rfl, hO, hF⟩; have HFW := Lib.hid (Frm.trans (S := []) (a := WX) (by repeat (first | exact HFW.out | exact Frm.refl _ _ | apply Frm.drew1 | apply Frm.drew)) hF); have HOW := Lib.hid (hO.base (Nat.zero_le _)); clear hO hF
            go_wp2_with fail
            refine onNormal_mk ⟨(by repeat (first | exact HFW.out | exact Frm.refl _ _ | apply Frm.drew1 | apply Frm.drew)), ?_⟩
            refine held_call (fuel := 11) (i := 29) rfl (by kernel_rfl) ?_
            go_wp2_with fail
            refine (Same_any _ HOW.out.row (HM.out.rf.row.frm (S := []) (by repeat (first | exact HFW.out | exact Frm.refl _ _ | apply Frm.drew1 | apply Frm.drew)) (by simp)).row).mono ?_; rintro e x4 ⟨he, nn, rfl⟩; obtain rfl : e = .returned (.bool true) := by rw [he]; simp
            go_wp2_with fail
            refine onNormal_mk ⟨(by repeat (first | exact HFW.out | exact Frm.refl _ _ | apply Frm.drew1 | apply Frm.drew)), ?_⟩
            refine held_row_at (fuel := 3) (is := [30, 31, 32, 33, 35, 36, 37, 38]) (.cons rfl (.cons rfl (.cons rfl (.cons rfl (.cons rfl (.cons rfl (.cons rfl (.cons rfl .nil)))))))) (by kernel_rfl) (fun _ _ _ _ _ h => h) rfl (by kernel_rfl) (by repeat (first | exact HFW.out | exact Frm.refl _ _ | apply Frm.drew1 | apply Frm.drew)) ?_
            intro K hK
            repeat (go_big_quiet_step (fail))
            refine wpQuiet_nil (hK _ ?_)
            clear hK K
            refine held_call (fuel := 2) (i := 34) rfl (by kernel_rfl) ?_
            go_wp2_with fail
            refine (Ops_any (HM.out.ar.frm (S := []) (by repeat (first | exact HFW.out | exact Frm.refl _ _ | apply Frm.drew1 | apply Frm.drew)) (by simp) (by simp))).mono ?_; rintro e x5 ⟨rfl, rfl⟩
            go_wp2_with fail
            refine onNormal_mk ⟨(by repeat (first | exact HFW.out | exact Frm.refl _ _ | apply Frm.drew1 | apply Frm.drew)), ?_⟩
            refine held_row_at (fuel := 0) (is := [39, 40]) (.cons rfl (.cons rfl .nil)) (by kernel_rfl) (fun _ _ _ _ _ h => h) rfl (by kernel_rfl) (by repeat (first | exact HFW.out | exact Frm.refl _ _ | apply Frm.drew1 | apply Frm.drew)) ?_
            intro K hK
            repeat (go_big_quiet_step (fail))
            refine wpQuiet_nil (hK _ ?_)
            clear hK K
            refine held_end (by kernel_rfl) ?_
            have HI3 := Lib.hid (HM.out.frm_ (w1 := x3.drewN nn) (by repeat (first | exact HFW.out | exact Frm.refl _ _ | apply Frm.drew1 | apply Frm.drew)))
            generalize x3.drewN nn = W5 at *
            clear HM HOW HFW hne1 hz1 hz2 hz3 hz4
            go_wp2_with fail
            go_roundw
            case rel => exact ⟨k + 1, A2, B2, B3, by go_num, by omega, HI3.out, HRel.out⟩
            case measure => simp [intOf]; omega
          · have e1 : (kind == 1) = false := by simpa using k1
            by_cases k2 : kind = 2
            · subst k2
              go_wp2_with fail
              refine (HI1.out.ptake HO.out).mono ?_
              rintro e x1 ⟨rfl, hM⟩
              have HM1 := Lib.hid hM
              clear hM v0
              go_wp2_with fail
              refine (HM1.out.qtake HO.out).mono ?_
              rw [HRl.out.take.1]
              rintro e x2 ⟨rfl, hM⟩
              have HM := Lib.hid hM
              have HRel := Lib.hid HRl.out.take.2
              clear hM HM1 HRl HI1
              generalize bTakeOk B = rr at *
              obtain ⟨A2, rfl⟩ : ∃ A2, A2 = A := ⟨_, rfl⟩
              generalize bTakeB B = B2 at *
              generalize rbTakeB B' = B3 at *
              obtain ⟨WX, rfl⟩ : ∃ W, W = x2 := ⟨_, rfl⟩
              have g1 := HRel.out.1
              have g2 := HRel.out.2.2.1
              have hne1 : Nonempty (HW (fun wx => Frm [] WX wx)) := ⟨⟨WX, Frm.refl _ _⟩⟩
              have hz1 : ∀ q : HW (fun wx => Frm [] WX wx), q.w.cell? ⟨yb, 3, none⟩ = some (.int .i64 B2.step) := fun q => by rw [← HRel.out.1]; exact (HM.out.rk.box.frm q.h (by simp)).cell (i := 3) rfl
              have hz2 : ∀ q : HW (fun wx => Frm [] WX wx), q.w.cell? ⟨yb, 6, none⟩ = some (.int .i64 B2.got) := fun q => by rw [← HRel.out.2.2.1]; exact (HM.out.rk.box.frm q.h (by simp)).cell (i := 6) rfl
              have hz3 : ∀ q : HW (fun wx => Frm [] WX wx), q.w.cell? ⟨rb, 1, none⟩ = some v' := fun q => (HM.out.rf.box.frm q.h (by simp)).cell (i := 1) rfl
              have hz4 : ∀ q : HW (fun wx => Frm [] WX wx), q.w.cell? ⟨rb, 2, none⟩ = some (.int .i64 A2.ops) := fun q => (HM.out.rf.box.frm q.h (by simp)).cell (i := 2) rfl
              clear g1 g2
              go_upto_region 24 with fail
              refine held_begin (S := fun wx => Frm [] WX wx) (by kernel_rfl) ?_
              refine held_row_at (fuel := 31) (is := [0, 1, 2, 3, 4, 6, 7, 8, 9, 10]) (.cons rfl (.cons rfl (.cons rfl (.cons rfl (.cons rfl (.cons rfl (.cons rfl (.cons rfl (.cons rfl (.cons rfl .nil)))))))))) (by kernel_rfl) (fun _ _ _ _ _ h => h) rfl (by kernel_rfl) (Frm.refl _ _).drew1 ?_
              intro K hK
              repeat (go_big_quiet_step (fail))
              refine wpQuiet_nil (hK _ ?_)
              clear hK K
              refine held_call (fuel := 30) (i := 5) rfl (by kernel_rfl) ?_
              go_wp2_with fail
              refine (Busy_any (HM.out.bn.frm (Z := []) (by repeat (first | exact HFW.out | exact Frm.refl _ _ | apply Frm.drew1 | apply Frm.drew)) (by simp))).mono ?_; rintro e x1 ⟨rfl, rfl⟩
              go_wp2_with fail
              refine onNormal_mk ⟨(by repeat (first | exact HFW.out | exact Frm.refl _ _ | apply Frm.drew1 | apply Frm.drew)), ?_⟩
              refine held_row_at (fuel := 22) (is := [11, 12, 13, 14, 16, 17, 18, 19]) (.cons rfl (.cons rfl (.cons rfl (.cons rfl (.cons rfl (.cons rfl (.cons rfl (.cons rfl .nil)))))))) (by kernel_rfl) (fun _ _ _ _ _ h => h) rfl (by kernel_rfl) (by repeat (first | exact HFW.out | exact Frm.refl _ _ | apply Frm.drew1 | apply Frm.drew)) ?_
              intro K hK
              repeat (go_big_quiet_step (fail))
              refine wpQuiet_nil (hK _ ?_)
              clear hK K
              refine held_call (fuel := 21) (i := 15) rfl (by kernel_rfl) ?_
              go_wp2_with fail
              refine (Got_any (HM.out.bn.frm (Z := []) (by repeat (first | exact HFW.out | exact Frm.refl _ _ | apply Frm.drew1 | apply Frm.drew)) (by simp))).mono ?_; rintro e x2 ⟨rfl, rfl⟩
              go_wp2_with fail
              refine onNormal_mk ⟨(by repeat (first | exact HFW.out | exact Frm.refl _ _ | apply Frm.drew1 | apply Frm.drew)), ?_⟩
              refine held_row_at (fuel := 13) (is := [20, 21, 22, 23, 25, 26, 27, 28]) (.cons rfl (.cons rfl (.cons rfl (.cons rfl (.cons rfl (.cons rfl (.cons rfl (.cons rfl .nil)))))))) (by kernel_rfl) (fun _ _ _ _ _ h => h) rfl (by kernel_rfl) (by repeat (first | exact HFW.out | exact Frm.refl _ _ | apply Frm.drew1 | apply Frm.drew)) ?_
              intro K hK
              repeat (go_big_quiet_step (fail))
              refine wpQuiet_nil (hK _ ?_)
              clear hK K
              refine held_call (fuel := 12) (i := 24) rfl (by kernel_rfl) ?_
              go_wp2_with fail
              refine (Words_any (HM.out.ar.frm (S := []) (by repeat (first | exact HFW.out | exact Frm.refl _ _ | apply Frm.drew1 | apply Frm.drew)) (by simp) (by simp))).mono ?_; rintro e x3 ⟨vv, rfl, hO, hF⟩; have HFW := Lib.hid (Frm.trans (S := []) (a := WX) (by repeat (first | exact HFW.out | exact Frm.refl _ _ | apply Frm.drew1 | apply Frm.drew)) hF); have HOW := Lib.hid (hO.base (Nat.zero_le _)); clear hO hF
              go_wp2_with fail
              refine onNormal_mk ⟨(by repeat (first | exact HFW.out | exact Frm.refl _ _ | apply Frm.drew1 | apply Frm.drew)), ?_⟩
              refine held_call (fuel := 11) (i := 29) rfl (by kernel_rfl) ?_
              go_wp2_with fail
              refine (Same_any _ HOW.out.row (HM.out.rf.row.frm (S := []) (by repeat (first | exact HFW.out | exact Frm.refl _ _ | apply Frm.drew1 | apply Frm.drew)) (by simp)).row).mono ?_; rintro e x4 ⟨he, nn, rfl⟩; obtain rfl : e = .returned (.bool true) := by rw [he]; simp
              go_wp2_with fail
              refine onNormal_mk ⟨(by repeat (first | exact HFW.out | exact Frm.refl _ _ | apply Frm.drew1 | apply Frm.drew)), ?_⟩
              refine held_row_at (fuel := 3) (is := [30, 31, 32, 33, 35, 36, 37, 38]) (.cons rfl (.cons rfl (.cons rfl (.cons rfl (.cons rfl (.cons rfl (.cons rfl (.cons rfl .nil)))))))) (by kernel_rfl) (fun _ _ _ _ _ h => h) rfl (by kernel_rfl) (by repeat (first | exact HFW.out | exact Frm.refl _ _ | apply Frm.drew1 | apply Frm.drew)) ?_
              intro K hK
              repeat (go_big_quiet_step (fail))
              refine wpQuiet_nil (hK _ ?_)
              clear hK K
              refine held_call (fuel := 2) (i := 34) rfl (by kernel_rfl) ?_
              go_wp2_with fail
              refine (Ops_any (HM.out.ar.frm (S := []) (by repeat (first | exact HFW.out | exact Frm.refl _ _ | apply Frm.drew1 | apply Frm.drew)) (by simp) (by simp))).mono ?_; rintro e x5 ⟨rfl, rfl⟩
              go_wp2_with fail
              refine onNormal_mk ⟨(by repeat (first | exact HFW.out | exact Frm.refl _ _ | apply Frm.drew1 | apply Frm.drew)), ?_⟩
              refine held_row_at (fuel := 0) (is := [39, 40]) (.cons rfl (.cons rfl .nil)) (by kernel_rfl) (fun _ _ _ _ _ h => h) rfl (by kernel_rfl) (by repeat (first | exact HFW.out | exact Frm.refl _ _ | apply Frm.drew1 | apply Frm.drew)) ?_
              intro K hK
              repeat (go_big_quiet_step (fail))
              refine wpQuiet_nil (hK _ ?_)
              clear hK K
              refine held_end (by kernel_rfl) ?_
              have HI3 := Lib.hid (HM.out.frm_ (w1 := x3.drewN nn) (by repeat (first | exact HFW.out | exact Frm.refl _ _ | apply Frm.drew1 | apply Frm.drew)))
              generalize x3.drewN nn = W5 at *
              clear HM HOW HFW hne1 hz1 hz2 hz3 hz4
              go_wp2_with fail
              go_roundw
              case rel => exact ⟨k + 1, A2, B2, B3, by go_num, by omega, HI3.out, HRel.out⟩
              case measure => simp [intOf]; omega
            · have e2 : (kind == 2) = false := by simpa using k2
              have HM := Lib.hid HI1.out
              have HRel := Lib.hid HRl.out
              obtain ⟨A2, rfl⟩ : ∃ A2, A2 = A := ⟨_, rfl⟩
              obtain ⟨B2, rfl⟩ : ∃ B2, B2 = B := ⟨_, rfl⟩
              obtain ⟨B3, rfl⟩ : ∃ B3, B3 = B' := ⟨_, rfl⟩
              obtain ⟨WX, rfl⟩ : ∃ W, W = wr := ⟨_, rfl⟩
              clear HI1 HRl k0 k1 k2
              have g1 := HRel.out.1
              have g2 := HRel.out.2.2.1
              have hne1 : Nonempty (HW (fun wx => Frm [] WX wx)) := ⟨⟨WX, Frm.refl _ _⟩⟩
              have hz1 : ∀ q : HW (fun wx => Frm [] WX wx), q.w.cell? ⟨yb, 3, none⟩ = some (.int .i64 B2.step) := fun q => by rw [← HRel.out.1]; exact (HM.out.rk.box.frm q.h (by simp)).cell (i := 3) rfl
              have hz2 : ∀ q : HW (fun wx => Frm [] WX wx), q.w.cell? ⟨yb, 6, none⟩ = some (.int .i64 B2.got) := fun q => by rw [← HRel.out.2.2.1]; exact (HM.out.rk.box.frm q.h (by simp)).cell (i := 6) rfl
              have hz3 : ∀ q : HW (fun wx => Frm [] WX wx), q.w.cell? ⟨rb, 1, none⟩ = some v' := fun q => (HM.out.rf.box.frm q.h (by simp)).cell (i := 1) rfl
              have hz4 : ∀ q : HW (fun wx => Frm [] WX wx), q.w.cell? ⟨rb, 2, none⟩ = some (.int .i64 A2.ops) := fun q => (HM.out.rf.box.frm q.h (by simp)).cell (i := 2) rfl
              clear g1 g2
              go_upto_region 24 with fail
              refine held_begin (S := fun wx => Frm [] WX wx) (by kernel_rfl) ?_
              refine held_row_at (fuel := 31) (is := [0, 1, 2, 3, 4, 6, 7, 8, 9, 10]) (.cons rfl (.cons rfl (.cons rfl (.cons rfl (.cons rfl (.cons rfl (.cons rfl (.cons rfl (.cons rfl (.cons rfl .nil)))))))))) (by kernel_rfl) (fun _ _ _ _ _ h => h) rfl (by kernel_rfl) (Frm.refl _ _).drew1 ?_
              intro K hK
              repeat (go_big_quiet_step (fail))
              refine wpQuiet_nil (hK _ ?_)
              clear hK K
              refine held_call (fuel := 30) (i := 5) rfl (by kernel_rfl) ?_
              go_wp2_with fail
              refine (Busy_any (HM.out.bn.frm (Z := []) (by repeat (first | exact HFW.out | exact Frm.refl _ _ | apply Frm.drew1 | apply Frm.drew)) (by simp))).mono ?_; rintro e x1 ⟨rfl, rfl⟩
              go_wp2_with fail
              refine onNormal_mk ⟨(by repeat (first | exact HFW.out | exact Frm.refl _ _ | apply Frm.drew1 | apply Frm.drew)), ?_⟩
              refine held_row_at (fuel := 22) (is := [11, 12, 13, 14, 16, 17, 18, 19]) (.cons rfl (.cons rfl (.cons rfl (.cons rfl (.cons rfl (.cons rfl (.cons rfl (.cons rfl .nil)))))))) (by kernel_rfl) (fun _ _ _ _ _ h => h) rfl (by kernel_rfl) (by repeat (first | exact HFW.out | exact Frm.refl _ _ | apply Frm.drew1 | apply Frm.drew)) ?_
              intro K hK
              repeat (go_big_quiet_step (fail))
              refine wpQuiet_nil (hK _ ?_)
              clear hK K
              refine held_call (fuel := 21) (i := 15) rfl (by kernel_rfl) ?_
              go_wp2_with fail
              refine (Got_any (HM.out.bn.frm (Z := []) (by repeat (first | exact HFW.out | exact Frm.refl _ _ | apply Frm.drew1 | apply Frm.drew)) (by simp))).mono ?_; rintro e x2 ⟨rfl, rfl⟩
              go_wp2_with fail
              refine onNormal_mk ⟨(by repeat (first | exact HFW.out | exact Frm.refl _ _ | apply Frm.drew1 | apply Frm.drew)), ?_⟩
              refine held_row_at (fuel := 13) (is := [20, 21, 22, 23, 25, 26, 27, 28]) (.cons rfl (.cons rfl (.cons rfl (.cons rfl (.cons rfl (.cons rfl (.cons rfl (.cons rfl .nil)))))))) (by kernel_rfl) (fun _ _ _ _ _ h => h) rfl (by kernel_rfl) (by repeat (first | exact HFW.out | exact Frm.refl _ _ | apply Frm.drew1 | apply Frm.drew)) ?_
              intro K hK
              repeat (go_big_quiet_step (fail))
              refine wpQuiet_nil (hK _ ?_)
              clear hK K
              refine held_call (fuel := 12) (i := 24) rfl (by kernel_rfl) ?_
              go_wp2_with fail
              refine (Words_any (HM.out.ar.frm (S := []) (by repeat (first | exact HFW.out | exact Frm.refl _ _ | apply Frm.drew1 | apply Frm.drew)) (by simp) (by simp))).mono ?_; rintro e x3 ⟨vv, rfl, hO, hF⟩; have HFW := Lib.hid (Frm.trans (S := []) (a := WX) (by repeat (first | exact HFW.out | exact Frm.refl _ _ | apply Frm.drew1 | apply Frm.drew)) hF); have HOW := Lib.hid (hO.base (Nat.zero_le _)); clear hO hF
              go_wp2_with fail
              refine onNormal_mk ⟨(by repeat (first | exact HFW.out | exact Frm.refl _ _ | apply Frm.drew1 | apply Frm.drew)), ?_⟩
              refine held_call (fuel := 11) (i := 29) rfl (by kernel_rfl) ?_
              go_wp2_with fail
              refine (Same_any _ HOW.out.row (HM.out.rf.row.frm (S := []) (by repeat (first | exact HFW.out | exact Frm.refl _ _ | apply Frm.drew1 | apply Frm.drew)) (by simp)).row).mono ?_; rintro e x4 ⟨he, nn, rfl⟩; obtain rfl : e = .returned (.bool true) := by rw [he]; simp
              go_wp2_with fail
              refine onNormal_mk ⟨(by repeat (first | exact HFW.out | exact Frm.refl _ _ | apply Frm.drew1 | apply Frm.drew)), ?_⟩
              refine held_row_at (fuel := 3) (is := [30, 31, 32, 33, 35, 36, 37, 38]) (.cons rfl (.cons rfl (.cons rfl (.cons rfl (.cons rfl (.cons rfl (.cons rfl (.cons rfl .nil)))))))) (by kernel_rfl) (fun _ _ _ _ _ h => h) rfl (by kernel_rfl) (by repeat (first | exact HFW.out | exact Frm.refl _ _ | apply Frm.drew1 | apply Frm.drew)) ?_
              intro K hK
              repeat (go_big_quiet_step (fail))
              refine wpQuiet_nil (hK _ ?_)
              clear hK K
              refine held_call (fuel := 2) (i := 34) rfl (by kernel_rfl) ?_
              go_wp2_with fail
              refine (Ops_any (HM.out.ar.frm (S := []) (by repeat (first | exact HFW.out | exact Frm.refl _ _ | apply Frm.drew1 | apply Frm.drew)) (by simp) (by simp))).mono ?_; rintro e x5 ⟨rfl, rfl⟩
              go_wp2_with fail
              refine onNormal_mk ⟨(by repeat (first | exact HFW.out | exact Frm.refl _ _ | apply Frm.drew1 | apply Frm.drew)), ?_⟩
              refine held_row_at (fuel := 0) (is := [39, 40]) (.cons rfl (.cons rfl .nil)) (by kernel_rfl) (fun _ _ _ _ _ h => h) rfl (by kernel_rfl) (by repeat (first | exact HFW.out | exact Frm.refl _ _ | apply Frm.drew1 | apply Frm.drew)) ?_
              intro K hK
              repeat (go_big_quiet_step (fail))
              refine wpQuiet_nil (hK _ ?_)
              clear hK K
              refine held_end (by kernel_rfl) ?_
              have HI3 := Lib.hid (HM.out.frm_ (w1 := x3.drewN nn) (by repeat (first | exact HFW.out | exact Frm.refl _ _ | apply Frm.drew1 | apply Frm.drew)))
              generalize x3.drewN nn = W5 at *
              clear HM HOW HFW hne1 hz1 hz2 hz3 hz4
              go_wp2_with fail
              go_roundw
              case rel => exact ⟨k + 1, A2, B2, B3, by go_num, by omega, HI3.out, HRel.out⟩
              case measure => simp [intOf]; omega
      · have l1 : ¬ (k : Int) < acts.length := by omega
        go_wp2_with fail
        refine (bawake _).mono ?_
        rintro e w5 ⟨rfl, hF5⟩
        have HF5 := Lib.hid (HI1.out.frm.trans hF5)
        clear hF5
        go_wp2
        go_ret
        exact ⟨rfl, HF5.out.below (Nat.le_refl _) (by simp)⟩
  · have e1 : (benchE (AR.fresh (roomOf n0)) n1 == 0) = false := by simpa using hE
    have e2 : (benchE (AR.fresh (roomOf n0)) n1 != 0) = true := by simpa using hE
    have HE := Lib.hid hE
    clear hE
    go_wp2_with fail
    refine (bNew_bad HA.out n1 HE.out).mono ?_
    rintro e w3 ⟨rfl, hF3⟩
    have HR3 := Lib.hid (HR.out.frm hF3 (by simp; omega))
    have hB3 := HB1.out.frm hF3 (by simp [HSZ.out]; omega)
    have HF3 := Lib.hid ((HF.out.widen hF3 (by simp)))
    clear hF3 c1
    have c1 := hB3.cell (i := 1) rfl
    clear hB3
    go_wp2_with fail
    refine (rbNew_bad HR3.out n1 HE.out).mono ?_
    rintro e w4 ⟨rfl, hF4⟩
    have HF4 := Lib.hid ((HF3.out.widen hF4 (by simp [vb, Value.ownBlock]; omega)))
    clear hF4 c1
    go_wp2_with fail
    refine (bawake _).mono ?_
    rintro e w5 ⟨rfl, hF5⟩
    have HF5 := Lib.hid ((HF0.out.trans HF4.out).trans hF5)
    clear hF5
    go_wp2
    go_ret
    exact ⟨rfl, HF5.out.below (Nat.le_refl _) (by simp)⟩

theorem benchPlays_walk (n0 n1 : Int) (v : Value) (acts : List (Int × Int)) (w : World) (_h0 : I64 n0) (_h1 : I64 n1) (h : ActsAt w v acts) :
    Calls Try.prog 5 #[.agg #[.int .i64 n0, .int .i64 n1], v] w fun e w' => e = .returned (.bool true) ∧ Below w.heap.size w w' := by
  by_cases hl : acts.length ≤ 100
  · exact benchPlays_short v acts n0 n1 w h hl
  · exact benchPlays_long v acts n0 n1 w h (by omega)
end Go.Proofs.Ytacogelejffbhaa
