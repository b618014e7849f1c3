/- The contracts of package ticket: New; what the laws do with a lock; the arena's Last. -/
import Derived.Test.YtmfeaancnkadbaaTicket
namespace Go.Proofs.Ytmfeaancnkadbaa
open Go.RowKit

theorem KkAt.to2 {w : World} {lb ab sb next : Nat} {S T : Nat → Nat → Int} (h : KkAt w lb ab sb next 2 S) (e : ∀ i, i < 2 → ∀ t, t < 4 → S i t = T i t) : KkAt w lb ab sb next 2 T := by
  have hc : spC 2 S = spC 2 T := by
    unfold spC
    apply List.map_congr_left
    intro j hj
    have hj' := List.mem_range.1 hj
    rw [e (j / 4) (by omega) (j % 4) (by omega)]
  have hr := h.row
  rw [hc] at hr
  exact { h with row := hr }

section
variable {w : World} {lb ab wb sb next n : Nat} {S : Nat → Nat → Int} {A : AR}
theorem kNew_ok (hA : ArAt w ab wb A) (n : Nat) (hn1 : 1 ≤ n) (hn : n ≤ 32) (ht : A.takeE 2 = 0) :
    Calls Try.prog 24 #[.pointer (some ⟨ab, 0, none⟩), .int .i64 n] w fun e w' => ∃ lb sb, e = .returned (.tuple #[.pointer (some ⟨lb, 0, none⟩), .int .i64 0]) ∧ w.heap.size ≤ lb ∧ w.heap.size ≤ sb ∧
      KkAt w' lb ab sb (A.taken + 1) n (fun _ _ => 0) ∧ ArAt w' ab wb (A.take 2) ∧ Frm [ab, wb] w w' := by
  have d1 : decide ((n : Int) < 1) = false := by simp; omega
  have d2 : decide ((32 : Int) < n) = false := by simp; omega
  have mk := mkSpots n (by omega)
  have hT := Take_any hA 2
  have hn' : A.takeN 2 = (A.taken : Int) + 1 := by unfold AR.takeN; rw [if_pos ht]
  rw [ht, hn'] at hT
  have HT := Lib.hid hT
  have hab := hA.box.lt
  have hwb := hA.row.lt
  have hroom := hA.room
  have hle := hA.le
  have htk : A.taken + 1 ≤ 4096 := by
    unfold AR.takeE at ht
    rw [if_neg (by omega)] at ht
    by_cases hb : (A.ws.length : Int) - (A.taken : Int) < 2
    · rw [if_pos hb] at ht; omega
    · omega
  clear hA hT hn' ht
  go_enter Try.func24, Try.ntmps24
  go_wp2_with fail
  refine HT.out.mono ?_
  rintro e w1 ⟨rfl, hA', hF⟩
  have hsz := hF.size
  have HF := Lib.hid hF
  have HA := Lib.hid hA'
  clear hA' hF
  go_wp2
  go_ret2
  have g1 := (HAt.new w1 (spC n fun _ _ => 0).toArray 30).alloc (.cells #[.slice (some ⟨w1.heap.size, 0, none⟩) n n, .pointer (some ⟨ab, 0, none⟩), .int .i64 ((A.taken : Int) + 1)] 85)
  have g2 := HAt.new (w1.alloc (.cells (spC n fun _ _ => 0).toArray 30)) #[.slice (some ⟨w1.heap.size, 0, none⟩) n n, .pointer (some ⟨ab, 0, none⟩), .int .i64 ((A.taken : Int) + 1)] 85
  rw [World.size_alloc] at g2
  refine ⟨w1.heap.size + 1, w1.heap.size, rfl, by omega, hsz, ?_, ?_, (HF.out.alloc _).alloc _⟩
  · exact { box := by simpa using g2, row := by simpa using g1, ne := by omega, n1 := hn1, n32 := hn, nx := htk }
  · exact HA.out.frm (S := []) (((Frm.refl _ _).alloc _).alloc _) (by simp) (by simp)
theorem kNew_big (p : Option Addr) (s : Int) (hs : 32 < s) (w : World) : Calls Try.prog 24 #[.pointer p, .int .i64 s] w fun e w' => e = .returned (.tuple #[.pointer none, .int .i64 1]) ∧ w = w' := by
  have d1 : decide (s < 1) = false := by simp; omega
  have d2 : decide (32 < s) = true := by simpa using hs
  clear hs
  go_enter Try.func24, Try.ntmps24
  go_wp2
  go_ret2
  exact ⟨rfl, rfl⟩

/-- what the laws do with a lock -/
def kDoR (n next : Nat) (S : Nat → Nat → Int) (A : AR) (kind i : Int) : Bool := if kind = 0 then kStepR n next S A i else if kind = 1 then kTurnOk n S i 0 else if kind = 2 then kTurnOk n S i 10 else if kind = 3 then kAlR n next S A i else false
def kDoS (n next : Nat) (S : Nat → Nat → Int) (A : AR) (kind i : Int) : Nat → Nat → Int := if kind = 0 then kStepS n next S A i else if kind = 1 then kTurn n S i 0 1 else if kind = 2 then kTurn n S i 10 11 else S
def kDoA (n next : Nat) (S : Nat → Nat → Int) (A : AR) (kind i : Int) : AR := if kind = 0 then kStepA n next S A i else if kind = 3 then kAlA n next S A i else A

theorem kDo_any (h : KkAt w lb ab sb next n S) (hA : ArAt w ab wb A) (hne : lb ≠ ab ∧ lb ≠ wb ∧ sb ≠ ab ∧ sb ≠ wb) (kind i : Int) : Calls Try.prog 26 #[.pointer (some ⟨lb, 0, none⟩), .agg #[.int .i64 kind, .int .i64 i]] w fun e w' => e = .returned (.bool (kDoR n next S A kind i)) ∧
    KkAt w' lb ab sb next n (kDoS n next S A kind i) ∧ ArAt w' ab wb (kDoA n next S A kind i) ∧ Frm [sb, ab, wb] w w' := by
  have hf : Frm [] w (w.alloc (.cells #[.int .i64 kind, .int .i64 i] 46)) := (Frm.refl _ _).alloc _
  have hL := h.frm hf (by simp) (by simp)
  have hA2 := hA.frm hf (by simp) (by simp)
  have HF := Lib.hid hf
  unfold kDoR kDoS kDoA
  by_cases k0 : kind = 0
  · subst k0
    have HC := Lib.hid (kStep_any hL hA2 hne i)
    clear h hA hL hA2 hf
    simp only [if_true]
    go_enter Try.func26, Try.ntmps26
    go_wp2_with fail
    refine HC.out.mono ?_
    rintro e w' ⟨rfl, hL, hA, hF⟩
    have HQ := Lib.hid (And.intro hL (And.intro hA ((HF.out.mono (S' := [sb, ab, wb]) (by simp)).trans hF)))
    clear hL hA hF
    go_wp2
    go_ret
    exact ⟨rfl, HQ.out⟩
  have e0 : (kind == 0) = false := by simpa using k0
  simp only [if_neg k0]
  by_cases k1 : kind = 1
  · subst k1
    have HC := Lib.hid (kAsk_any hL i)
    have HA := Lib.hid hA2
    clear h hA hL hA2 hf k0
    simp only [if_true, show ¬ (1 : Int) = 3 by omega, if_false]
    go_enter Try.func26, Try.ntmps26
    go_wp2_with fail
    refine HC.out.mono ?_
    rintro e w' ⟨rfl, hL, hF⟩
    obtain ⟨n1, n2, n3, n4⟩ := hne
    have HQ := Lib.hid (And.intro hL (And.intro (HA.out.frm hF (by simp; omega) (by simp; omega)) ((HF.out.mono (S' := [sb, ab, wb]) (by simp)).trans (hF.mono (by simp)))))
    clear hL hF
    go_wp2
    go_ret
    exact ⟨rfl, HQ.out⟩
  have e1 : (kind == 1) = false := by simpa using k1
  simp only [if_neg k1]
  by_cases k2 : kind = 2
  · subst k2
    have HC := Lib.hid (kLeave_any hL i)
    have HA := Lib.hid hA2
    clear h hA hL hA2 hf k0 k1
    simp only [if_true, show ¬ (2 : Int) = 3 by omega, if_false]
    go_enter Try.func26, Try.ntmps26
    go_wp2_with fail
    refine HC.out.mono ?_
    rintro e w' ⟨rfl, hL, hF⟩
    obtain ⟨n1, n2, n3, n4⟩ := hne
    have HQ := Lib.hid (And.intro hL (And.intro (HA.out.frm hF (by simp; omega) (by simp; omega)) ((HF.out.mono (S' := [sb, ab, wb]) (by simp)).trans (hF.mono (by simp)))))
    clear hL hF
    go_wp2
    go_ret
    exact ⟨rfl, HQ.out⟩
  have e2 : (kind == 2) = false := by simpa using k2
  simp only [if_neg k2]
  by_cases k3 : kind = 3
  · subst k3
    have HC := Lib.hid (kAlone_any hL hA2 hne i)
    clear h hA hL hA2 hf k0 k1 k2
    simp only [if_true]
    go_enter Try.func26, Try.ntmps26
    go_wp2_with fail
    refine HC.out.mono ?_
    rintro e w' ⟨rfl, hL, hA, hF⟩
    have HQ := Lib.hid (And.intro hL (And.intro hA ((HF.out.mono (S' := [sb, ab, wb]) (by simp)).trans hF)))
    clear hL hA hF
    go_wp2
    go_ret
    exact ⟨rfl, HQ.out⟩
  have e3 : (kind == 3) = false := by simpa using k3
  simp only [if_neg k3]
  have HQ := Lib.hid (And.intro hL (And.intro hA2 (hf.mono (S' := [sb, ab, wb]) (by simp))))
  clear h hA hL hA2 hf k0 k1 k2 k3
  go_enter Try.func26, Try.ntmps26
  go_wp2
  go_ret
  exact ⟨rfl, HQ.out⟩
end
end Go.Proofs.Ytmfeaancnkadbaa
