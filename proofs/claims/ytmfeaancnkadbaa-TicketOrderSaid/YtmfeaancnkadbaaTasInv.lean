/- What keeps two slots from holding at once, in plain Lean: for the law TasOne. -/
import Derived.Test.YtmfeaancnkadbaaTasAwake
namespace Go.Proofs.Ytmfeaancnkadbaa
open Go.RowKit

def In (S : Nat → Nat → Int) (i : Nat) : Prop := S i 0 = 10 ∨ S i 0 = 11
/-- the word tells who holds: 0: nobody -/
structure TInv (n : Nat) (S : Nat → Nat → Int) (A : AR) (k : Nat) : Prop where
  taken : A.taken = 1
  len : A.ws.length = 10
  who : (A.get 1 = 0 ∧ ∀ i, i < n → ¬ In S i) ∨ (∃ h, h < n ∧ A.get 1 = (h : Int) + 1 ∧ In S h ∧ ∀ i, i < n → i ≠ h → ¬ In S i)
  ops0 : 0 ≤ A.ops
  ops1 : A.ops ≤ k

section
variable {n k : Nat} {S : Nat → Nat → Int} {A : AR} {most : Int}
theorem TInv.has (h : TInv n S A k) : A.has 1 = true := by unfold AR.has; rw [h.taken]; rfl
theorem TInv.one (h : TInv n S A k) {i j : Nat} (hi : i < n) (hj : j < n) (h1 : In S i) (h2 : In S j) : i = j := by
  rcases h.who with ⟨_, hn⟩ | ⟨q, hq, _, _, hn⟩
  · exact absurd h1 (hn i hi)
  · have e1 : i = q := Classical.byContradiction fun hne => hn i hi hne h1
    have e2 : j = q := Classical.byContradiction fun hne => hn j hj hne h2
    rw [e1, e2]
theorem get_put (A : AR) (h : A.has 1 = true) (hl : 1 ≤ A.ws.length) (k : Int) (wr : Bool) (v : Int) : ((A.note k 1 wr).put 1 v).get 1 = v ∧ ((A.note k 1 wr).put 1 v).taken = A.taken ∧ ((A.note k 1 wr).put 1 v).ws.length = A.ws.length ∧ ((A.note k 1 wr).put 1 v).ops = wrap64 (A.ops + 1) := by
  refine ⟨?_, rfl, by unfold AR.put AR.note; simp, rfl⟩
  have hh : ((A.note k 1 wr).put 1 v).has 1 = true := h
  unfold AR.get
  rw [hh, if_pos rfl]
  show (A.ws.set 0 v)[0]?.getD 0 = v
  rw [List.getElem?_set, if_pos rfl, if_pos (by omega)]; rfl
/-- an op that changes no word -/
theorem TInv.note (h : TInv n S A k) (hk : k ≤ 1000) (c : Int) (wr : Bool) {T : Nat → Nat → Int} (hT : ∀ i, i < n → (In T i ↔ In S i)) : TInv n T (A.note c 1 wr) (k + 1) := by
  have h0 := h.ops0; have h1 := h.ops1
  have ho : wrap64 (A.ops + 1) = A.ops + 1 := by unfold wrap64; omega
  refine { taken := h.taken, len := h.len, who := ?_, ops0 := by show 0 ≤ wrap64 (A.ops + 1); omega, ops1 := by show wrap64 (A.ops + 1) ≤ ((k + 1 : Nat) : Int); omega }
  rcases h.who with ⟨g, hn⟩ | ⟨q, hq, g, hi, hn⟩
  · exact .inl ⟨g, fun i hi => by rw [hT i hi]; exact hn i hi⟩
  · exact .inr ⟨q, hq, g, (hT q hq).2 hi, fun i hi hne => by rw [hT i hi]; exact hn i hi hne⟩
theorem TInv.same (h : TInv n S A k) {T : Nat → Nat → Int} (hT : ∀ i, i < n → (In T i ↔ In S i)) : TInv n T A (k + 1) := by
  refine { taken := h.taken, len := h.len, who := ?_, ops0 := h.ops0, ops1 := by have := h.ops1; omega }
  rcases h.who with ⟨g, hn⟩ | ⟨q, hq, g, hi, hn⟩
  · exact .inl ⟨g, fun i hi => by rw [hT i hi]; exact hn i hi⟩
  · exact .inr ⟨q, hq, g, (hT q hq).2 hi, fun i hi hne => by rw [hT i hi]; exact hn i hi hne⟩
theorem in_put0 (S : Nat → Nat → Int) (j : Nat) (v : Int) (i : Nat) : In (spPut S j 0 v) i ↔ if i = j then v = 10 ∨ v = 11 else In S i := by
  unfold In spPut
  by_cases h : i = j
  · simp [h]
  · simp [h]
theorem in_put (S : Nat → Nat → Int) (j t : Nat) (ht : t ≠ 0) (v : Int) (i : Nat) : In (spPut S j t v) i ↔ In S i := by
  unfold In spPut
  have : ¬ (i = j ∧ 0 = t) := by omega
  simp [this]

theorem TInv.do_ (h : TInv n S A k) (hk : k ≤ 1000) (kind i : Int) : TInv n (tDoS n 1 most S A kind i) (tDoA n 1 S A kind i) (k + 1) ∧ (tDoA n 1 S A kind i).ops ≤ A.ops + 1 ∧ 0 ≤ (tDoA n 1 S A kind i).ops := by
  have h0 := h.ops0; have h1 := h.ops1
  have ho : wrap64 (A.ops + 1) = A.ops + 1 := by unfold wrap64; omega
  have hkeep : ∀ {T}, TInv n T A (k + 1) → TInv n T A (k + 1) ∧ A.ops ≤ A.ops + 1 ∧ 0 ≤ A.ops := fun hT => ⟨hT, by omega, h0⟩
  unfold tDoS tDoA
  by_cases k0 : kind = 0
  · simp only [if_pos k0]
    unfold tStepS tStepA
    cases hi : sHas n i with
    | false => simp only [Bool.false_eq_true, if_false]; exact hkeep (h.same fun _ _ => Iff.rfl)
    | true =>
      have hi' : 0 ≤ i ∧ i < (n : Int) := by unfold sHas at hi; simpa using hi
      obtain ⟨j, rfl⟩ := Int.eq_ofNat_of_zero_le hi'.1
      have hj : j < n := by omega
      have ej : ((j : Int)).toNat = j := by omega
      simp only [if_true, ej]
      by_cases q1 : S j 0 = 1
      · have hnin : ¬ In S j := by unfold In; omega
        simp only [if_pos q1]
        by_cases hz : A.get 1 = 0
        · have hok : A.casOk ((1 : Nat) : Int) 0 = true := by unfold AR.casOk; show (A.has 1 && decide (A.get 1 = 0)) = true; rw [h.has, hz]; rfl
          have hc : A.cas ((1 : Nat) : Int) 0 ((j : Int) + 1) = (A.note 4 1 true).put 1 ((j : Int) + 1) := by unfold AR.cas; show (if A.has 1 then (if A.get 1 = 0 then _ else _) else A) = _; rw [h.has, if_pos rfl, if_pos hz]; rfl
          rw [hok, hc]
          obtain ⟨g1, g2, g3, g4⟩ := get_put A h.has (by rw [h.len]; omega) 4 true ((j : Int) + 1)
          simp only [if_true]
          have hnone : ∀ i, i < n → ¬ In S i := by
            rcases h.who with ⟨_, hn⟩ | ⟨q, hq, g, _, _⟩
            · exact hn
            · omega
          refine ⟨{ taken := g2.trans h.taken, len := g3.trans h.len, who := .inr ⟨j, hj, g1, ?_, fun i hi hne => ?_⟩, ops0 := by rw [g4]; omega, ops1 := by rw [g4]; omega }, by rw [g4]; omega, by rw [g4]; omega⟩
          · rw [in_put0, if_pos rfl]; exact .inl rfl
          · rw [in_put0, if_neg hne]; exact hnone i hi
        · have hok : A.casOk ((1 : Nat) : Int) 0 = false := by unfold AR.casOk; show (A.has 1 && decide (A.get 1 = 0)) = false; rw [decide_eq_false hz]; simp
          have hc : A.cas ((1 : Nat) : Int) 0 ((j : Int) + 1) = A.note 4 1 false := by unfold AR.cas; show (if A.has 1 then (if A.get 1 = 0 then _ else _) else A) = _; rw [h.has, if_pos rfl, if_neg hz]; rfl
          rw [hok, hc]
          simp only [Bool.false_eq_true, if_false]
          refine ⟨h.note hk 4 false fun i hi => ?_, by show wrap64 (A.ops + 1) ≤ _; omega, by show 0 ≤ wrap64 (A.ops + 1); omega⟩
          rw [in_put _ _ _ (by omega), in_put _ _ _ (by omega), in_put0]
          by_cases he : i = j
          · subst he; simp [hnin]
          · simp [he]
      · simp only [if_neg q1]
        by_cases q2 : S j 0 = 2
        · have q3 : ¬ S j 0 = 11 := by omega
          have hnin : ¬ In S j := by unfold In; omega
          simp only [if_pos q2, if_neg q3]
          refine hkeep (h.same fun i hi => ?_)
          split
          · rw [in_put0, in_put _ _ _ (by omega)]
            by_cases he : i = j
            · subst he; simp [hnin]
            · simp [he]
          · rw [in_put _ _ _ (by omega)]
        · simp only [if_neg q2]
          by_cases q3 : S j 0 = 11
          · simp only [if_pos q3]
            have hin : In S j := .inr q3
            have hc : A.store ((1 : Nat) : Int) 0 = (A.note 2 1 true).put 1 0 := by unfold AR.store; show (if A.has 1 then _ else A) = _; rw [h.has, if_pos rfl]; rfl
            rw [hc]
            obtain ⟨g1, g2, g3, g4⟩ := get_put A h.has (by rw [h.len]; omega) 2 true 0
            refine ⟨{ taken := g2.trans h.taken, len := g3.trans h.len, who := .inl ⟨g1, fun i hi => ?_⟩, ops0 := by rw [g4]; omega, ops1 := by rw [g4]; omega }, by rw [g4]; omega, by rw [g4]; omega⟩
            rw [in_put0]
            by_cases he : i = j
            · simp [he]
            · rw [if_neg he]; intro hh; exact he (h.one hi hj hh hin)
          · simp only [if_neg q3]; exact hkeep (h.same fun _ _ => Iff.rfl)
  · simp only [if_neg k0]
    by_cases k1 : kind = 1
    · simp only [if_pos k1]
      unfold tAsk
      split
      · rename_i hok
        have hpc : S i.toNat 0 = 0 := by unfold tAskOk at hok; simp at hok; exact hok.2
        have hnin : ¬ In S i.toNat := by unfold In; omega
        refine hkeep (h.same fun j hj => ?_)
        rw [in_put _ _ _ (by omega), in_put0]
        by_cases he : j = i.toNat
        · rw [he]; simp [hnin]
        · simp [he]
      · exact hkeep (h.same fun _ _ => Iff.rfl)
    · simp only [if_neg k1]
      by_cases k2 : kind = 2
      · simp only [if_pos k2]
        unfold tLeave
        split
        · rename_i hok
          have hpc : S i.toNat 0 = 10 := by unfold tLeaveOk at hok; simp at hok; exact hok.2
          have hin : In S i.toNat := .inl hpc
          refine hkeep (h.same fun j hj => ?_)
          rw [in_put0]
          by_cases he : j = i.toNat
          · rw [he]; simp [hin]
          · simp [he]
        · exact hkeep (h.same fun _ _ => Iff.rfl)
      · simp only [if_neg k2]; exact hkeep (h.same fun _ _ => Iff.rfl)
/-- asks and leaves that are refused change nothing -/
theorem tDo_no {kind i : Int} (hk : kind ≠ 0) (h : tDoR n 1 S A kind i = false) : tDoS n 1 most S A kind i = S ∧ tDoA n 1 S A kind i = A := by
  unfold tDoR at h
  unfold tDoS tDoA
  rw [if_neg hk] at h
  simp only [if_neg hk]
  refine ⟨?_, trivial⟩
  by_cases k1 : kind = 1
  · rw [if_pos k1] at h ⊢; unfold tAsk; rw [h]; rfl
  · rw [if_neg k1] at h ⊢
    by_cases k2 : kind = 2
    · rw [if_pos k2] at h ⊢; unfold tLeave; rw [h]; rfl
    · rw [if_neg k2]
theorem tDo_arena {kind i : Int} (hk : kind ≠ 0) : tDoA n 1 S A kind i = A := by unfold tDoA; rw [if_neg hk]
end

end Go.Proofs.Ytmfeaancnkadbaa
