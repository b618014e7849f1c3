/- Put, Take, New of package bench, what is none, and the laws' own 'through'. -/
import Derived.Test.YtacogelejffbhaaBenchOps
namespace Go.Proofs.Ytacogelejffbhaa
open Go.RowKit

def bPutOk (things : Nat) (B : BK) (x : Int) : Bool := decide (B.step = 0 ∧ 1 ≤ x ∧ x ≤ (things : Int))
def bPutB (things : Nat) (B : BK) (x : Int) : BK := if bPutOk things B x then ⟨1, x, B.n, B.got⟩ else B
def bTakeOk (B : BK) : Bool := decide (B.step = 0)
def bTakeB (B : BK) : BK := if bTakeOk B then ⟨5, 1, B.n, B.got⟩ else B

section
variable {w : World} {bb ab wb first things : Nat} {A : AR} {B : BK}
theorem bPut_any (h : BnAt w bb ab first things B) (x : Int) : Calls Try.prog 13 #[.pointer (some ⟨bb, 0, none⟩), .int .i64 x] w fun e w' => e = .returned (.bool (bPutOk things B x)) ∧ BnAt w' bb ab first things (bPutB things B x) ∧ Frm [bb] w w' := by
  have key : Calls Try.prog 36 #[.pointer (some ⟨bb, 0, none⟩), .int .i64 1, .int .i64 x] w fun e w' => e = .returned (.bool (bPutOk things B x)) ∧ BnAt w' bb ab first things (bPutB things B x) ∧ Frm [bb] w w' := by
    unfold bPutB bPutOk
    by_cases hc : B.step = 0 ∧ 1 ≤ x ∧ x ≤ (things : Int)
    · obtain ⟨st, z, n, got⟩ := B
      obtain ⟨h0, h1, h2⟩ := hc
      simp only at h0
      subst h0
      exact (begin_yes h h1 h2 (by omega)).mono fun e w' ⟨a, b, c⟩ => ⟨by rw [a]; exact ret_bool (by simp [h1, h2]), by simpa [h1, h2] using b, c⟩
    · exact (begin_no (h.box.cell (i := 2) rfl) (h.box.cell (i := 3) rfl) hc).mono fun e w' ⟨a, b⟩ => by subst b; exact ⟨by rw [a, decide_eq_false hc], by rw [decide_eq_false hc]; exact h, Frm.refl _ _⟩
  have HK := Lib.hid key
  clear h key
  go_enter Try.func13, Try.ntmps13
  go_wp2_with fail
  refine HK.out.mono ?_
  rintro e w' ⟨rfl, hB, hF⟩
  have HR := Lib.hid (And.intro hB hF)
  clear hB hF
  go_wp2
  go_ret
  exact ⟨rfl, HR.out.1, HR.out.2⟩
theorem bTake_any (h : BnAt w bb ab first things B) : Calls Try.prog 15 #[.pointer (some ⟨bb, 0, none⟩)] w fun e w' => e = .returned (.bool (bTakeOk B)) ∧ BnAt w' bb ab first things (bTakeB B) ∧ Frm [bb] w w' := by
  have t1 := h.t1
  have key : Calls Try.prog 36 #[.pointer (some ⟨bb, 0, none⟩), .int .i64 5, .int .i64 1] w fun e w' => e = .returned (.bool (bTakeOk B)) ∧ BnAt w' bb ab first things (bTakeB B) ∧ Frm [bb] w w' := by
    unfold bTakeB bTakeOk
    by_cases hc : B.step = 0
    · obtain ⟨st, z, n, got⟩ := B
      simp only at hc
      subst hc
      exact (begin_yes h (by omega) (by omega) (by omega)).mono fun e w' ⟨a, b, c⟩ => ⟨by rw [a]; exact ret_bool (by simp), by simpa using b, c⟩
    · exact (begin_no (h.box.cell (i := 2) rfl) (h.box.cell (i := 3) rfl) (fun k => hc k.1)).mono fun e w' ⟨a, b⟩ => by subst b; exact ⟨by rw [a, decide_eq_false hc], by rw [decide_eq_false hc]; exact h, Frm.refl _ _⟩
  have HK := Lib.hid key
  clear h key
  go_enter Try.func15, Try.ntmps15
  go_wp2_with fail
  refine HK.out.mono ?_
  rintro e w' ⟨rfl, hB, hF⟩
  have HR := Lib.hid (And.intro hB hF)
  clear hB hF
  go_wp2
  go_ret
  exact ⟨rfl, HR.out.1, HR.out.2⟩

theorem bNew_ok (hA : ArAt w ab wb A) (n : Nat) (hn1 : 1 ≤ n) (hn : n ≤ 32) (ht : A.takeE (2 + n) = 0) :
    Calls Try.prog 10 #[.pointer (some ⟨ab, 0, none⟩), .int .i64 n] w fun e w' => ∃ bb, e = .returned (.tuple #[.pointer (some ⟨bb, 0, none⟩), .int .i64 0]) ∧ w.heap.size ≤ bb ∧
      BnAt w' bb ab (A.taken + 1) n ⟨0, 0, 0, 0⟩ ∧ ArAt w' ab wb (A.take (2 + n)) ∧ Frm [ab, wb] w w' := by
  have d1 : decide ((n : Int) < 1) = false := by simp; omega
  have d2 : decide ((32 : Int) < n) = false := by simp; omega
  have hT := Take_any hA (2 + n)
  have hn' : A.takeN (2 + n) = (A.taken : Int) + 1 := by unfold AR.takeN; rw [if_pos ht]
  rw [ht, hn'] at hT
  have HT := Lib.hid hT
  have hab := hA.box.lt
  have hwb := hA.row.lt
  have hroom := hA.room
  have hle := hA.le
  have htk : A.taken + 1 ≤ 4096 := by
    unfold AR.takeE at ht
    rw [if_neg (by omega)] at ht
    by_cases hb : (A.ws.length : Int) - (A.taken : Int) < 2 + n
    · rw [if_pos hb] at ht; omega
    · omega
  clear hA hT hn' ht
  go_enter Try.func10, Try.ntmps10
  go_wp2_with fail
  refine HT.out.mono ?_
  rintro e w1 ⟨rfl, hA', hF⟩
  have hsz := hF.size
  have HF := Lib.hid hF
  have HA := Lib.hid hA'
  clear hA' hF
  go_wp2
  go_ret2
  have g2 := HAt.new w1 #[.pointer (some ⟨ab, 0, none⟩), .int .i64 ((A.taken : Int) + 1), .int .i64 n, .int .i64 0, .int .i64 0, .int .i64 0, .int .i64 0] 37
  refine ⟨w1.heap.size, rfl, hsz, ?_, ?_, HF.out.alloc _⟩
  · exact { box := by simpa using g2, t1 := hn1, t32 := hn, fb := htk, st := by simp }
  · exact HA.out.frm (S := []) ((Frm.refl _ _).alloc _) (by simp) (by simp)
theorem bNew_big (p : Option Addr) (s : Int) (hs : 32 < s) (w : World) : Calls Try.prog 10 #[.pointer p, .int .i64 s] w fun e w' => e = .returned (.tuple #[.pointer none, .int .i64 1]) ∧ w = w' := by
  have d1 : decide (s < 1) = false := by simp; omega
  have d2 : decide (32 < s) = true := by simpa using hs
  clear hs
  go_enter Try.func10, Try.ntmps10
  go_wp2
  go_ret2
  exact ⟨rfl, rfl⟩

/-- the laws' 'through': how many steps it takes, and what it leaves -/
def bThru (first : Nat) : Nat → Int → AR → BK → Int × AR × BK
  | 0, _, A, B => (-1, A, B)
  | r + 1, n, A, B => if bStepR first A B then (n, bStepA first A B, bStepB first A B) else bThru first r (n + 1) (bStepA first A B) (bStepB first A B)

theorem bThru_any (h : BnAt w bb ab first things B) (hA : ArAt w ab wb A) (hne : bb ≠ ab ∧ bb ≠ wb) : Calls Try.prog 14 #[.pointer (some ⟨bb, 0, none⟩)] w fun e w' => e = .returned (.int .i64 (bThru first 8 1 A B).1) ∧
    BnAt w' bb ab first things (bThru first 8 1 A B).2.2 ∧ ArAt w' ab wb (bThru first 8 1 A B).2.1 ∧ Frm [bb, ab, wb] w w' := by
  have H := Lib.hid (And.intro h hA)
  have HN := Lib.hid hne
  clear h hA hne
  generalize hr : bThru first 8 1 A B = R
  have HR := Lib.hid hr
  clear hr
  go_enter Try.func14, Try.ntmps14
  go_wp2_with fail
  go_loopw [3] (fun nv wx => ∃ (r k : Nat) (A : AR) (B : BK), nv = .int .i64 k ∧ r + k = 9 ∧ bThru first r k A B = R ∧ BnAt wx bb ab first things B ∧ ArAt wx ab wb A ∧ Frm [bb, ab, wb] w wx) (fun nv _ => 9 - (intOf nv).toNat)
  case atStart => exact ⟨8, 1, A, B, rfl, rfl, HR.out, H.out.1, H.out.2, Frm.refl _ _⟩
  case round =>
    obtain ⟨r, k, A, B, rfl, hk, hR, hB, hA, hF⟩ := hrel
    have HR2 := Lib.hid hR
    have HB := Lib.hid hB
    have HA := Lib.hid hA
    have HF := Lib.hid hF
    clear hR hB hA hF H HR
    cases r with
    | zero =>
      have l1 : ¬ (k : Int) < 9 := by omega
      have hR3 := HR2.out
      unfold bThru at hR3
      subst hR3
      go_wp2
      go_ret
      exact ⟨rfl, HB.out, HA.out, HF.out⟩
    | succ r =>
      have l1 : (k : Int) < 9 := by omega
      have hR3 := HR2.out
      unfold bThru at hR3
      have HS := Lib.hid (bStep_any HB.out HA.out HN.out)
      cases hs : bStepR first A B with
      | true =>
        rw [hs, if_pos rfl] at hR3
        rw [hs] at HS
        subst hR3
        clear hs HR2
        go_wp2_with fail
        refine HS.out.mono ?_
        rintro e w1 ⟨rfl, hB, hA, hF⟩
        have HX := Lib.hid (And.intro hB (And.intro hA (HF.out.trans hF)))
        clear hB hA hF
        go_wp2
        go_ret
        exact ⟨rfl, HX.out.1, HX.out.2.1, HX.out.2.2⟩
      | false =>
        rw [hs, if_neg (by simp)] at hR3
        rw [hs] at HS
        have HR3 := Lib.hid hR3
        clear hs HR2 hR3
        go_wp2_with fail
        refine HS.out.mono ?_
        rintro e w1 ⟨rfl, hB, hA, hF⟩
        have HX := Lib.hid (And.intro hB (And.intro hA (HF.out.trans hF)))
        clear hB hA hF
        go_wp2_with fail
        go_roundw
        case rel => exact ⟨r, k + 1, bStepA first A B, bStepB first A B, by go_num, by omega, HR3.out, HX.out.1, HX.out.2.1, HX.out.2.2⟩
        case measure => simp [intOf]; omega
end
end Go.Proofs.Ytacogelejffbhaa
