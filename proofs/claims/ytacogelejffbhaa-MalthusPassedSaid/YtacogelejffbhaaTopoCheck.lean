/- Topologies: the program's own Check lets pass what may be. -/
import Derived.Test.YtacogelejffbhaaTopoLev
namespace Go.Proofs.Ytacogelejffbhaa
open Go.RowKit

section
variable {P : Program} {md : Region.Mode} {ops : Array Oper} {Q : Exit → Act → World → Prop} {S : World → Prop}
/-- two are ready: either may come first -/
theorem held_two {i j : Nat} {o1 o2 : Oper} {fuel : Nat} {listed : Array Bool} {a : Act} {w : World} (hi : pick ops.toList i = some o1) (hj : pick ops.toList j = some o2) (hr : Region.ready md ops listed = [i, j])
    (h1 : wpList P ops (onNormal Q (fun a' w' => S w' ∧ wpAnyH P md ops Q S fuel (listed.setIfInBounds i true) a' w')) [o1] a w)
    (h2 : wpList P ops (onNormal Q (fun a' w' => S w' ∧ wpAnyH P md ops Q S fuel (listed.setIfInBounds j true) a' w')) [o2] a w) : wpAnyH P md ops Q S (fuel + 1) listed a w := by
  refine wpAnyH_all hr (by simp) fun k hk => ?_
  obtain ⟨o, hi, h⟩ : ∃ o, pick ops.toList k = some o ∧ wpList P ops (onNormal Q (fun a' w' => S w' ∧ wpAnyH P md ops Q S fuel (listed.setIfInBounds k true) a' w')) [o] a w := by
    rcases List.mem_cons.1 hk with e | hk
    · subst e; exact ⟨_, hi, h1⟩
    · have e : k = j := by simpa using hk
      subst e; exact ⟨_, hj, h2⟩
  have hi := pick_arr hi
  unfold wpOp
  simp only [hi]
  simp only [wpList] at h
  have key : ∀ a' w', onNormal Q (fun a' w' => S w' ∧ wpAnyH P md ops Q S fuel (listed.setIfInBounds k true) a' w') .normal a' w' → S w' ∧ wpAnyH P md ops Q S fuel (listed.setIfInBounds k true) a' w' := fun _ _ h => h.1 rfl
  split
  · rename_i hw
    rw [if_pos hw] at h
    rcases h with h | ⟨h1, a1, w1, h2⟩
    · left
      unfold Oper.wp at *
      generalize (execOp a.eval o).run P w = r at *
      cases r with
      | ok n w' =>
        cases n <;> simp only [Oper.upon] at h ⊢
        case value u => exact key _ _ h
        case skip => exact key _ _ h
        case defer d => exact key _ _ h
        case enter f args =>
          refine Calls.mono h fun e w'' he => ?_
          cases e with
          | returned u => exact key _ _ he
          | panicked c => exact he.2 (by simp)
          | outgrown => obtain ⟨a1, w1, h2⟩ := he; exact ⟨a1, w1, h2.2 (by simp)⟩
        case row row args => exact Rows.mono h fun u w'' he => key _ _ he
      | halt x w' =>
        cases x <;> simp only [Oper.upon] at h ⊢
        case panic u => exact h.2 (by simp)
    · exact .inr ⟨h1, a1, w1, h2.2 (by simp)⟩
  · rename_i hw
    rw [if_neg hw] at h
    exact key _ _ h
end
section
variable {w : World} {b1 : Nat} {v : Value}
theorem indexFunc_no {E T : List Int} {u : Value} {eb b2 : Nat} (hx : RowAt w b1 v T) (hy : RowAt w b2 u E) (hn : E.length ≤ 100) (hT : T.length ≤ 100) (hm : ∀ t ∈ T, t ∈ E) (hc : w.cell? ⟨eb, 0, none⟩ = some u) : Calls Try.prog 84 #[v, .func (.func 77) #[] #[.pointer (some ⟨eb, 0, none⟩)]] w fun e w' => e = .returned (.int .i64 (-1)) ∧ w = w' := by
  have HC := Lib.hid (fun (x : Int) (h : x ∈ T) => check1_in hy hn (hm x h) hc)
  obtain ⟨a, cap, rfl, -, hcx⟩ := hx
  have HX := Lib.hid hcx
  clear hcx hy hm hc
  go_enter Try.func84, Try.ntmps84
  go_wp2_with fail
  go_loopw [8] (fun iv wx => ∃ k : Nat, iv = .int .i64 k ∧ k ≤ T.length ∧ w = wx) (fun iv _ => T.length - (intOf iv).toNat)
  case atStart => exact ⟨0, rfl, by omega, rfl⟩
  case round =>
    obtain ⟨k, rfl, hk, rfl⟩ := hrel
    by_cases hlt : k < T.length
    · have e0 : decide ((k : Int) < T.length) = true := by simpa using hlt
      have e0' : decide (k < T.length) = true := by simpa using hlt
      have l1 : (k : Int) < T.length := by omega
      obtain ⟨b, off, _, rfl, hc⟩ := HX.out (by omega)
      have c1 := hc k hlt
      have hmem : T[k]?.getD 0 ∈ T := by rw [List.getElem?_eq_getElem hlt]; exact List.getElem_mem _
      have HCC := Lib.hid (HC.out _ hmem)
      clear hc hmem
      generalize T[k]?.getD 0 = x at *
      go_wp2_with (go_at_call 77; refine HCC.out.mono ?_; rintro e w' ⟨rfl, rfl⟩)
      go_roundw
      case rel => exact ⟨k + 1, by go_num, by omega, by trivial⟩
      case measure => simp [intOf]; omega
    · have e0 : decide ((k : Int) < T.length) = false := by simpa using hlt
      have e0' : decide (k < T.length) = false := by simpa using hlt
      go_wp2
      go_ret
      exact ⟨rfl, rfl⟩
theorem containsFunc_no {E T : List Int} {u : Value} {eb b2 : Nat} (hx : RowAt w b1 v T) (hy : RowAt w b2 u E) (hn : E.length ≤ 100) (hT : T.length ≤ 100) (hm : ∀ t ∈ T, t ∈ E) (hc : w.cell? ⟨eb, 0, none⟩ = some u) : Calls Try.prog 76 #[v, .func (.func 77) #[] #[.pointer (some ⟨eb, 0, none⟩)]] w fun e w' => e = .returned (.bool false) ∧ w = w' := by
  have HI := Lib.hid (indexFunc_no hx hy hn hT hm hc)
  obtain ⟨a, cap, rfl, -, -⟩ := hx
  clear hy hm hc
  go_enter Try.func76, Try.ntmps76
  go_wp2_with fail
  refine HI.out.mono ?_
  rintro e w' ⟨rfl, rfl⟩
  go_wp2
  go_ret
  exact ⟨rfl, rfl⟩
end
theorem tEnds_mem {P : List Int} {x : Int} (h : x ∈ tEnds P P.length) : ∃ v : Nat, x = v ∧ v < P.length ∧ tLeaf P v = true := by
  unfold tEnds at h
  simp at h
  obtain ⟨v, ⟨h1, h2⟩, rfl⟩ := h
  exact ⟨v, rfl, h1, by unfold tLeaf; simp [h1, h2]⟩
theorem tEnds_of {P : List Int} {x : Int} (h : tLeaf P x = true) : x ∈ tEnds P P.length := by
  unfold tLeaf at h
  simp at h
  obtain ⟨v, rfl⟩ := Int.eq_ofNat_of_zero_le h.1.1
  unfold tEnds
  simp
  exact ⟨v, ⟨by omega, h.2⟩, rfl⟩
end Go.Proofs.Ytacogelejffbhaa
