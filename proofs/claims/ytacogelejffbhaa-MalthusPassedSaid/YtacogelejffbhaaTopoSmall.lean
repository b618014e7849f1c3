/- The contracts of the document's Check of any topology, and of Small. -/
import Derived.Test.YtacogelejffbhaaTopoChk
namespace Go.Proofs.Ytacogelejffbhaa
open Go.RowKit

set_option maxRecDepth 100000 in
theorem rCheck_bad (w : World) {b1 b2 : Nat} {v u : Value} {P T : List Int} (hx : RowAt w b1 v P) (hy : RowAt w b2 u T) (hs : ¬ tSize P T) :
    Calls Try.prog 48 #[.agg #[v, u]] w fun e w' => ∃ r, e = .returned (.int .i64 r) ∧ (r = 0 ↔ TOk P T) ∧ Frm [] w w' := by
  have HN := Lib.hid (show ¬ TOk P T from fun h => hs h.size)
  have hs' : ¬ (1 ≤ P.length ∧ P.length ≤ 32 ∧ 1 ≤ T.length ∧ T.length ≤ 32) := hs
  obtain ⟨a, cap, rfl, h1, -⟩ := hx
  obtain ⟨a', cap', rfl, h2, -⟩ := hy
  unfold maxLen at h1 h2
  clear hs
  by_cases q1 : P.length < 1
  · have d1 : decide ((P.length : Int) < 1) = true := decide_eq_true (by omega)
    have d5 : decide (P.length < 1) = true := decide_eq_true q1
    clear hs'
    go_enter Try.func48, Try.ntmps48
    go_wp2
    go_ret
    exact ⟨8, rfl, ⟨fun h => absurd h (by omega), fun h => absurd h HN.out⟩, (Frm.refl _ _).alloc _⟩
  have d1 : decide ((P.length : Int) < 1) = false := decide_eq_false (by omega)
  have d5 : decide (P.length < 1) = false := decide_eq_false q1
  by_cases q2 : 32 < P.length
  · have d2 : decide ((32 : Int) < P.length) = true := decide_eq_true (by omega)
    have d6 : decide (32 < P.length) = true := decide_eq_true q2
    clear hs'
    go_enter Try.func48, Try.ntmps48
    go_wp2
    go_ret
    exact ⟨8, rfl, ⟨fun h => absurd h (by omega), fun h => absurd h HN.out⟩, (Frm.refl _ _).alloc _⟩
  have d2 : decide ((32 : Int) < P.length) = false := decide_eq_false (by omega)
  have d6 : decide (32 < P.length) = false := decide_eq_false q2
  by_cases q3 : T.length < 1
  · have d3 : decide ((T.length : Int) < 1) = true := decide_eq_true (by omega)
    have d7 : decide (T.length < 1) = true := decide_eq_true q3
    clear hs'
    go_enter Try.func48, Try.ntmps48
    go_wp2
    go_ret
    exact ⟨8, rfl, ⟨fun h => absurd h (by omega), fun h => absurd h HN.out⟩, (Frm.refl _ _).alloc _⟩
  have d3 : decide ((T.length : Int) < 1) = false := decide_eq_false (by omega)
  have d7 : decide (T.length < 1) = false := decide_eq_false q3
  have d4 : decide ((32 : Int) < T.length) = true := decide_eq_true (by omega)
  have d8 : decide (32 < T.length) = true := decide_eq_true (by omega)
  clear hs'
  go_enter Try.func48, Try.ntmps48
  go_wp2
  go_ret
  exact ⟨8, rfl, ⟨fun h => absurd h (by omega), fun h => absurd h HN.out⟩, (Frm.refl _ _).alloc _⟩
theorem rCheck_any (w : World) {b1 b2 : Nat} {v u : Value} {P T : List Int} (hx : RowAt w b1 v P) (hy : RowAt w b2 u T) :
    Calls Try.prog 48 #[.agg #[v, u]] w fun e w' => ∃ r, e = .returned (.int .i64 r) ∧ (r = 0 ↔ TOk P T) ∧ Frm [] w w' := by
  by_cases hs : tSize P T
  · exact rCheck_ok w hx hy hs
  · exact rCheck_bad w hx hy hs
/-- may the topology be, and has it few threads? -/
def tSmall (P T : List Int) (m : Nat) : Prop := TOk P T ∧ T.length ≤ m
theorem Small_any (w : World) {b1 b2 : Nat} {v u : Value} {P T : List Int} (hx : RowAt w b1 v P) (hy : RowAt w b2 u T) (m : Nat) :
    Calls Try.prog 29 #[.agg #[v, u], .int .i64 m] w fun e w' => ∃ r, e = .returned (.bool r) ∧ (r = true ↔ tSmall P T m) ∧ Frm [] w w' := by
  have HC := Lib.hid (fun (W : World) (hf : Frm [] w W) => rCheck_any W (hx.frm hf (by simp)) (hy.frm hf (by simp)))
  obtain ⟨a, cap, rfl, h1, -⟩ := hx
  obtain ⟨a', cap', rfl, h2, -⟩ := hy
  unfold maxLen at h1 h2
  go_enter Try.func29, Try.ntmps29
  go_wp2_with fail
  refine (HC.out _ ((Frm.refl _ _).alloc _)).mono ?_
  rintro e w1 ⟨r, rfl, hr, hF⟩
  have HF := Lib.hid (((Frm.refl [] w).alloc (.cells #[.slice a P.length cap, .slice a' T.length cap'] 58)).trans hF)
  have k1 := ((HAt.new w #[.slice a P.length cap, .slice a' T.length cap'] 58).frm hF (by simp)).cell (i := 1) rfl
  have HR := Lib.hid hr
  clear hF hr
  by_cases h0 : r = 0
  · have e0 : (r == 0) = true := by simpa using h0
    have HT := Lib.hid (HR.out.1 h0)
    clear h0
    by_cases hl : T.length ≤ m
    · have e1 : decide ((T.length : Int) ≤ m) = true := decide_eq_true (by omega)
      have e2 : decide (T.length ≤ m) = true := decide_eq_true hl
      go_wp2
      go_ret
      exact ⟨true, rfl, ⟨fun _ => ⟨HT.out, hl⟩, fun _ => rfl⟩, HF.out⟩
    · have e1 : decide ((T.length : Int) ≤ m) = false := decide_eq_false (by omega)
      have e2 : decide (T.length ≤ m) = false := decide_eq_false hl
      go_wp2
      go_ret
      exact ⟨false, rfl, ⟨fun h => absurd h (by simp), fun h => absurd h.2 hl⟩, HF.out⟩
  · have e0 : (r == 0) = false := by simpa using h0
    have HT := Lib.hid (show ¬ TOk P T from fun h => h0 (HR.out.2 h))
    clear h0
    go_wp2
    go_ret
    exact ⟨false, rfl, ⟨fun h => absurd h (by simp), fun h => absurd h.1 HT.out⟩, HF.out⟩
end Go.Proofs.Ytacogelejffbhaa
