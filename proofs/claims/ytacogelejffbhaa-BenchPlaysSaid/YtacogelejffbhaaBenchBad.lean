/- New of the bench and of its document's answer, whatever comes in. -/
import Derived.Test.YtacogelejffbhaaRefBenchOps
namespace Go.Proofs.Ytacogelejffbhaa
open Go.RowKit

/-- what New tells -/
def benchE (A : AR) (n : Int) : Int := if n < 1 ∨ 32 < n then 1 else A.takeE (2 + n)
section
variable {w : World} {ab wb rb : Nat} {v : Value} {A : AR}
theorem bNew_bad (hA : ArAt w ab wb A) (n : Int) (hE : benchE A n ≠ 0) :
    Calls Try.prog 10 #[.pointer (some ⟨ab, 0, none⟩), .int .i64 n] w fun e w' => e = .returned (.tuple #[.pointer none, .int .i64 (benchE A n)]) ∧ Frm ([ab, wb]) w w' := by
  by_cases hbad : n < 1 ∨ 32 < n
  · have h1 : benchE A n = 1 := by unfold benchE; rw [if_pos hbad]
    rw [h1]
    clear hE h1
    by_cases a1 : n < 1
    · have d1 : decide (n < 1) = true := by simpa using a1
      clear hbad
      go_enter Try.func10, Try.ntmps10
      go_wp2
      go_ret2
      exact ⟨rfl, Frm.refl _ _⟩
    have d1 : decide (n < 1) = false := by simpa using a1
    have d2 : decide (32 < n) = true := by simp; omega
    clear hbad a1
    go_enter Try.func10, Try.ntmps10
    go_wp2
    go_ret2
    exact ⟨rfl, Frm.refl _ _⟩
  · have h1 : benchE A n = A.takeE (2 + n) := by unfold benchE; rw [if_neg hbad]
    rw [h1] at hE ⊢
    have HT := Lib.hid (Take_no hA (2 + n) hE)
    have d1 : decide (n < 1) = false := by simp; omega
    have d2 : decide (32 < n) = false := by simp; omega
    have d3 : (A.takeE (2 + n) != 0) = true := by simpa using hE
    have r1 : 1 ≤ n ∧ n ≤ 32 := by omega
    obtain ⟨r2, r3⟩ := r1
    clear hbad h1 hE
    generalize A.takeE (2 + n) = e0 at *
    go_enter Try.func10, Try.ntmps10
    go_wp2_with fail
    refine HT.out.mono ?_
    rintro e w1 ⟨rfl, hF, -⟩
    have HF := Lib.hid hF
    clear hF
    go_wp2
    go_ret2
    exact ⟨rfl, HF.out.mono (by simp)⟩
theorem rbNew_bad (hR : RfAt w rb v A) (n : Int) (hE : benchE A n ≠ 0) :
    Calls Try.prog 20 #[.pointer (some ⟨rb, 0, none⟩), .int .i64 n] w fun e w' => e = .returned (.tuple #[.pointer none, .int .i64 (benchE A n)]) ∧ Frm (rb :: vb v) w w' := by
  by_cases hbad : n < 1 ∨ 32 < n
  · have h1 : benchE A n = 1 := by unfold benchE; rw [if_pos hbad]
    rw [h1]
    clear hE h1
    by_cases a1 : n < 1
    · have d1 : decide (n < 1) = true := by simpa using a1
      clear hbad
      go_enter Try.func20, Try.ntmps20
      go_wp2
      go_ret2
      exact ⟨rfl, Frm.refl _ _⟩
    have d1 : decide (n < 1) = false := by simpa using a1
    have d2 : decide (32 < n) = true := by simp; omega
    clear hbad a1
    go_enter Try.func20, Try.ntmps20
    go_wp2
    go_ret2
    exact ⟨rfl, Frm.refl _ _⟩
  · have h1 : benchE A n = A.takeE (2 + n) := by unfold benchE; rw [if_neg hbad]
    rw [h1] at hE ⊢
    have HT := Lib.hid (rTake_no hR (2 + n) hE)
    have d1 : decide (n < 1) = false := by simp; omega
    have d2 : decide (32 < n) = false := by simp; omega
    have d3 : (A.takeE (2 + n) != 0) = true := by simpa using hE
    have r1 : 1 ≤ n ∧ n ≤ 32 := by omega
    obtain ⟨r2, r3⟩ := r1
    clear hbad h1 hE
    generalize A.takeE (2 + n) = e0 at *
    go_enter Try.func20, Try.ntmps20
    go_wp2_with fail
    refine HT.out.mono ?_
    rintro e w1 ⟨rfl, hF, -⟩
    have HF := Lib.hid hF
    clear hF
    go_wp2
    go_ret2
    exact ⟨rfl, HF.out.mono (by simp)⟩
theorem rbNew_ok (hR : RfAt w rb v A) (n : Nat) (hn1 : 1 ≤ n) (hn : n ≤ 32) (ht : A.takeE (2 + n) = 0) (hv0 : ∀ k, v.ownBlock = some k → k < w.heap.size) :
    Calls Try.prog 20 #[.pointer (some ⟨rb, 0, none⟩), .int .i64 n] w fun e w' => ∃ yb v', e = .returned (.tuple #[.pointer (some ⟨yb, 0, none⟩), .int .i64 0]) ∧ w.heap.size ≤ yb ∧
      RbAt w' yb rb (A.taken + 1) n ⟨0, 0, 0, 0⟩ ∧ RfAt w' rb v' (A.take (2 + n)) ∧ Frm (rb :: vb v) w w' ∧ (∀ k, v'.ownBlock = some k → (v.ownBlock = some k ∨ w.heap.size ≤ k) ∧ k ≠ yb) := by
  have d1 : decide ((n : Int) < 1) = false := by simp; omega
  have d2 : decide ((32 : Int) < n) = false := by simp; omega
  have hT := rTake_any hR (2 + n)
  have hn' : A.takeN (2 + n) = (A.taken : Int) + 1 := by unfold AR.takeN; rw [if_pos ht]
  rw [ht, hn'] at hT
  have HT := Lib.hid hT
  have hroom := hR.room
  have hle := hR.le
  have htk : A.taken + 1 ≤ 4096 := by
    unfold AR.takeE at ht
    rw [if_neg (by omega)] at ht
    by_cases hb : (A.ws.length : Int) - (A.taken : Int) < 2 + n
    · rw [if_pos hb] at ht; omega
    · omega
  have hrb := hR.box.lt
  have HV0 := Lib.hid hv0
  clear hR hT hn' ht hv0
  go_enter Try.func20, Try.ntmps20
  go_wp2_with fail
  refine HT.out.mono ?_
  rintro e w1 ⟨rfl, v1, hR1, hF1, hv1⟩
  have hsz := hF1.size
  have HF := Lib.hid hF1
  have HR := Lib.hid hR1
  have HV1 := Lib.hid hv1
  clear hR1 hF1 hv1
  go_wp2
  go_ret2
  have hFb : Frm [] w1 (w1.alloc (.cells #[.pointer (some ⟨rb, 0, none⟩), .int .i64 ((A.taken : Int) + 1), .int .i64 n, .int .i64 0, .int .i64 0, .int .i64 0, .int .i64 0] 49)) := (Frm.refl _ _).alloc _
  have hB := HAt.new w1 #[.pointer (some ⟨rb, 0, none⟩), .int .i64 ((A.taken : Int) + 1), .int .i64 n, .int .i64 0, .int .i64 0, .int .i64 0, .int .i64 0] 49
  refine ⟨w1.heap.size, v1, rfl, hsz, ?_, ?_, HF.out.alloc _, fun k hk => ⟨HV1.out k hk, ?_⟩⟩
  · exact { box := by simpa using hB, t1 := hn1, t32 := hn, fb := htk, st := by simp }
  · exact HR.out.frm hFb (by simp)
  · have hk2 : k < w1.heap.size := by
      rcases HR.out.row.2 with ⟨h0, _⟩ | ⟨g', cap', cur', h0, hg', hh', _⟩
      · rw [h0] at hk; simp [Value.ownBlock] at hk
      · rw [h0] at hk
        obtain rfl : g' = k := by simpa [Value.ownBlock] using hk
        exact (Array.getElem?_eq_some_iff.1 hh').1
    omega
end
end Go.Proofs.Ytacogelejffbhaa
