/- How often a thread is passed from its doorway to its entry, in plain Lean. -/
import Derived.Test.YtacogelejffbhaaMalLive
namespace Go.Proofs.Ytacogelejffbhaa
open Go.RowKit

/-- where a thread may go by a step -/
def Mv (a b : Int) : Prop :=
  (a = 0 ∧ b = 0) ∨ (a = 1 ∧ b = 2) ∨ (a = 2 ∧ b = 3) ∨ (a = 3 ∧ b = 10) ∨ (a = 3 ∧ b = 4) ∨ (a = 4 ∧ b = 5) ∨ (a = 5 ∧ b = 10) ∨ (a = 5 ∧ b = 5) ∨ (a = 10 ∧ b = 10) ∨ (a = 11 ∧ b = 12) ∨ (a = 12 ∧ b = 21) ∨ (a = 12 ∧ b = 13) ∨
  (a = 13 ∧ b = 13) ∨ (a = 13 ∧ b = 19) ∨ (a = 13 ∧ b = 21) ∨ (a = 13 ∧ b = 15) ∨ (a = 13 ∧ b = 14) ∨ (a = 14 ∧ b = 18) ∨ (a = 15 ∧ b = 16) ∨ (a = 16 ∧ b = 18) ∨ (a = 16 ∧ b = 17) ∨ (a = 17 ∧ b = 17) ∨ (a = 17 ∧ b = 14) ∨ (a = 18 ∧ b = 0) ∨
  (a = 19 ∧ b = 0) ∨ (a = 19 ∧ b = 20) ∨ (a = 20 ∧ b = 20) ∨ (a = 20 ∧ b = 21) ∨ (a = 21 ∧ b = 24) ∨ (a = 21 ∧ b = 22) ∨ (a = 22 ∧ b = 22) ∨ (a = 22 ∧ b = 23) ∨ (a = 23 ∧ b = 0) ∨ (a = 24 ∧ b = 0) ∨ (a = 0 ∧ b = 1) ∨ (a = 10 ∧ b = 11)
/-- what a thread has paid for being where it is -/
def pay (pc : Int) : Int :=
  if pc ≤ 0 then 0 else if pc ≤ 5 then pc else if pc = 10 then -5 else if pc = 11 then -4 else if pc = 12 then -3 else if pc = 18 ∨ pc = 19 ∨ pc = 22 ∨ pc = 23 ∨ pc = 24 then -1 else if pc ≤ 9 then 0 else -2
theorem Mv.pay {a b : Int} (h : Mv a b) : pay b ≤ pay a + 1 ∧ (a = 5 → b = 10 → Go.Proofs.Ytacogelejffbhaa.pay b = Go.Proofs.Ytacogelejffbhaa.pay a - 10) := by
  unfold Mv at h
  rcases h with ⟨rfl, rfl⟩ | ⟨rfl, rfl⟩ | ⟨rfl, rfl⟩ | ⟨rfl, rfl⟩ | ⟨rfl, rfl⟩ | ⟨rfl, rfl⟩ | ⟨rfl, rfl⟩ | ⟨rfl, rfl⟩ | ⟨rfl, rfl⟩ | ⟨rfl, rfl⟩ | ⟨rfl, rfl⟩ | ⟨rfl, rfl⟩ | ⟨rfl, rfl⟩ | ⟨rfl, rfl⟩ | ⟨rfl, rfl⟩ | ⟨rfl, rfl⟩ | ⟨rfl, rfl⟩ | ⟨rfl, rfl⟩ | ⟨rfl, rfl⟩ | ⟨rfl, rfl⟩ | ⟨rfl, rfl⟩ | ⟨rfl, rfl⟩ | ⟨rfl, rfl⟩ | ⟨rfl, rfl⟩ | ⟨rfl, rfl⟩ | ⟨rfl, rfl⟩ | ⟨rfl, rfl⟩ | ⟨rfl, rfl⟩ | ⟨rfl, rfl⟩ | ⟨rfl, rfl⟩ | ⟨rfl, rfl⟩ | ⟨rfl, rfl⟩ | ⟨rfl, rfl⟩ | ⟨rfl, rfl⟩ | ⟨rfl, rfl⟩ | ⟨rfl, rfl⟩
  all_goals exact ⟨by decide, by decide⟩
theorem ite_ge {c : Prop} [Decidable c] {a b k : Int} (h1 : k ≤ a) (h2 : k ≤ b) : k ≤ (if c then a else b) := by split; exact h1; exact h2
theorem pay_ge (pc : Int) : -5 ≤ pay pc := by
  unfold pay
  by_cases h0 : pc ≤ 0
  · rw [if_pos h0]; omega
  · rw [if_neg h0]
    by_cases h1 : pc ≤ 5
    · rw [if_pos h1]; omega
    · rw [if_neg h1]
      repeat (refine ite_ge (by omega) ?_)
      omega
/-- what the others have paid -/
def sumP (S : Nat → Nat → Int) (k : Nat) : Nat → Int
  | 0 => 0
  | n + 1 => sumP S k n + (if n = k then 0 else pay (S n 0))
theorem sumP_ge (S : Nat → Nat → Int) (k : Nat) : ∀ n : Nat, -5 * (n : Int) ≤ sumP S k n ∧ (k < n → -5 * ((n : Int) - 1) ≤ sumP S k n)
  | 0 => ⟨by show -5 * ((0 : Nat) : Int) ≤ 0; omega, fun h => absurd h (Nat.not_lt_zero _)⟩
  | n + 1 => by
    obtain ⟨h1, h2⟩ := sumP_ge S k n
    have h3 := pay_ge (S n 0)
    unfold sumP
    by_cases e : n = k
    · rw [if_pos e]; exact ⟨by push_cast; omega, fun _ => by push_cast; omega⟩
    · rw [if_neg e]; exact ⟨by push_cast; omega, fun h => by have := h2 (by omega); push_cast; omega⟩
theorem sumP_congr {S S' : Nat → Nat → Int} {k : Nat} : ∀ {n : Nat}, (∀ j, j < n → j ≠ k → S' j 0 = S j 0) → sumP S' k n = sumP S k n
  | 0, _ => rfl
  | n + 1, h => by
    unfold sumP; rw [sumP_congr (fun j hj hk => h j (by omega) hk)]
    by_cases e : n = k
    · rw [if_pos e, if_pos e]
    · rw [if_neg e, if_neg e, h n (by omega) e]
theorem sumP_put {S S' : Nat → Nat → Int} {j k : Nat} (hjk : j ≠ k) : ∀ {n : Nat}, j < n → (∀ i, i ≠ j → S' i 0 = S i 0) → sumP S' k n + pay (S j 0) = sumP S k n + pay (S' j 0)
  | 0, h, _ => absurd h (Nat.not_lt_zero _)
  | n + 1, h, hk => by
    unfold sumP
    by_cases e : j = n
    · subst e; rw [if_neg hjk, if_neg hjk, sumP_congr (S := S) (S' := S') (fun i hi _ => hk i (by omega))]; omega
    · have := sumP_put hjk (n := n) (S := S) (S' := S') (by omega) hk
      rw [hk n (fun e' => e e'.symm)]; omega

section
variable {tail first n : Nat} {bud : Int} {m : MS} {j : Nat}
theorem mv_go {x : MS × Int} {A' : AR} {B' : BK} {d' r : Int} {S' : Nat → Nat → Int} (e : x = (⟨A', B', d', S'⟩, r)) (h : ∀ k, k ≠ j → ∀ t, S' k t = m.S k t) (hm : Mv (m.S j 0) r) : ∃ r, StepTo n m { x.1 with S := spPut x.1.S j 0 x.2 } j r ∧ Mv (m.S j 0) r := ⟨r, stepTo_go e h, hm⟩
theorem MInv.moves (h : MInv tail first n m) (hj : j < n) : ∃ r, StepTo n m (mStep tail first n bud m j) j r ∧ Mv (m.S j 0) r := by
  obtain ⟨hl, Q, L, c, o, ha⟩ := h
  have same : ∀ k, k ≠ j → ∀ t, m.S k t = m.S k t := fun _ _ _ => rfl
  have put1 : ∀ (t : Nat) (v : Int), ∀ k, k ≠ j → ∀ t', spPut m.S j t v k t' = m.S k t' := fun t v k hk t' => sp_ne _ _ _ _ hk
  unfold mStep
  rcases (ha.core.pcs j hj).cases with h0 | h0 | h0 | h0 | h0 | h0 | h0 | h0 | h0 | h0 | h0 | h0 | h0 | h0 | h0 | h0 | h0 | h0 | h0 | h0 | h0
  · rw [mGo_0 (.inl h0), mk_same]; exact ⟨0, ⟨h0, fun _ _ _ => rfl⟩, by rw [h0]; simp [Mv]⟩
  · rw [mGo_1 h0]; exact mv_go rfl same (by rw [h0]; simp [Mv])
  · rw [mGo_2 h0]; exact mv_go rfl same (by rw [h0]; simp [Mv])
  · rw [mGo_3 h0]; unfold mGo3; split
    · exact mv_go rfl (put1 _ _) (by rw [h0]; simp [Mv])
    · exact mv_go rfl (put1 _ _) (by rw [h0]; simp [Mv])
  · rw [mGo_4 h0]; exact mv_go rfl same (by rw [h0]; simp [Mv])
  · rw [mGo_5 h0]; unfold mGo5; split
    · exact mv_go rfl same (by rw [h0]; simp [Mv])
    · exact mv_go rfl same (by rw [h0]; simp [Mv])
  · rw [mGo_0 (.inr h0), mk_same]; exact ⟨10, ⟨h0, fun _ _ _ => rfl⟩, by rw [h0]; simp [Mv]⟩
  · rw [mGo_11 h0]; exact mv_go rfl (put1 _ _) (by rw [h0]; simp [Mv])
  · rw [mGo_12 h0]; unfold mGo12; split
    · exact mv_go rfl (put1 _ _) (by rw [h0]; simp [Mv])
    · exact mv_go rfl (put1 _ _) (by rw [h0]; simp [Mv])
  · rw [mGo_13 h0]; unfold mGo13; split
    · refine mv_go rfl (put1 _ _) ?_
      rw [h0]
      generalize (bStepB first m.A m.B).got = g
      generalize m.S j 1 = a
      unfold mTk
      by_cases hg : g = 0
      · rw [if_pos hg]
        by_cases ha : a = 0
        · rw [if_pos ha]; simp [Mv]
        · rw [if_neg ha]; simp [Mv]
      · rw [if_neg hg]
        by_cases ha : a = 0
        · rw [if_pos ha]; simp [Mv]
        · rw [if_neg ha]; simp [Mv]
    · exact mv_go rfl same (by rw [h0]; simp [Mv])
  · rw [mGo_14 h0]; exact mv_go rfl same (by rw [h0]; simp [Mv])
  · rw [mGo_15 h0]; exact mv_go rfl same (by rw [h0]; simp [Mv])
  · rw [mGo_16 h0]; unfold mGo16; split
    · exact mv_go rfl same (by rw [h0]; simp [Mv])
    · exact mv_go rfl same (by rw [h0]; simp [Mv])
  · rw [mGo_17 h0]; unfold mGo17; split
    · exact mv_go rfl (put1 _ _) (by rw [h0]; simp [Mv])
    · exact mv_go rfl (put1 _ _) (by rw [h0]; simp [Mv])
  · rw [mGo_18 h0]; exact mv_go rfl same (by rw [h0]; simp [Mv])
  · rw [mGo_19 h0]; unfold mGo19; split
    · exact mv_go rfl same (by rw [h0]; simp [Mv])
    · exact mv_go rfl same (by rw [h0]; simp [Mv])
  · rw [mGo_20 h0]; unfold mGo20; split
    · exact mv_go rfl (put1 _ _) (by rw [h0]; simp [Mv])
    · exact mv_go rfl (put1 _ _) (by rw [h0]; simp [Mv])
  · rw [mGo_21 h0]; unfold mGo21; split
    · exact mv_go rfl same (by rw [h0]; simp [Mv])
    · exact mv_go rfl same (by rw [h0]; simp [Mv])
  · rw [mGo_22 h0]; unfold mGo22; split
    · exact mv_go rfl same (by rw [h0]; simp [Mv])
    · exact mv_go rfl same (by rw [h0]; simp [Mv])
  · rw [mGo_23 h0]; exact mv_go rfl same (by rw [h0]; simp [Mv])
  · rw [mGo_24 h0]; exact mv_go rfl same (by rw [h0]; simp [Mv])
theorem me_go {x : MS × Int} {A' : AR} {B' : BK} {d' r : Int} {S' : Nat → Nat → Int} (e : x = (⟨A', B', d', S'⟩, r)) : ({ x.1 with S := spPut x.1.S j 0 x.2 } : MS).S j 0 = r ∧ ({ x.1 with S := spPut x.1.S j 0 x.2 } : MS).A = A' := by subst e; exact ⟨sp_eq _ _ _ _, rfl⟩
/-- who comes in at its doorway meets nobody that waits -/
theorem MInv.alone (h : MInv tail first n m) (h3 : m.S j 0 = 3) (h10 : (mStep tail first n bud m j).S j 0 = 10) : ∀ k, k < n → ¬ (m.S k 0 = 4 ∨ m.S k 0 = 5) := by
  obtain ⟨hl, Q, L, c, o, ha⟩ := h
  have hg : m.A.get tail = 0 := by
    unfold mStep at h10
    rw [mGo_3 h3] at h10
    by_cases hg : m.A.get tail = 0
    · exact hg
    · rw [(me_go (x := mGo3 tail first n bud m j) (j := j) (if_neg hg)).1] at h10; omega
  have htl : (wv tail first n m.A).tl = 0 := hg
  have hQ : Q = [] := lst_nil.1 (ha.core.tl ▸ htl)
  have ho : o = none := by
    cases o with
    | none => rfl
    | some x => exact absurd hQ (Ph.ne ha.ph)
  subst ho hQ
  have hp : PhN (wv tail first n m.A) m.B m.S [] L c := ha.ph
  have hL := hp.l0 rfl
  have hc := hp.c0
  subst hL hc
  intro k hk hw
  have := ha.core.mem k hk hw
  simp at this
/-- who comes in behind others was let in, and is the only one -/
theorem MInv.letin (h : MInv tail first n m) (hj : j < n) (h5 : m.S j 0 = 5) (h10 : (mStep tail first n bud m j).S j 0 = 10) {k : Nat} (hk : k < n) (hk5 : m.S k 0 = 5) (hkw : (wv tail first n m.A).wt k = 0) : k = j := by
  obtain ⟨hl, Q, L, c, o, ha⟩ := h
  have hw : (wv tail first n m.A).wt j = 0 := by
    unfold mStep at h10
    rw [mGo_5 h5] at h10
    by_cases hg : m.A.get (mWait tail ((j : Int) + 1)) = 0
    · rw [← wt_get hl hj]; exact hg
    · rw [(me_go (x := mGo5 tail first n bud m j) (j := j) (if_neg hg)).1] at h10; omega
  obtain ⟨_, ⟨r, e1⟩, _⟩ := ha.enter hj h5 hw
  obtain ⟨_, ⟨r', e2⟩, _⟩ := ha.enter hk hk5 hkw
  rw [e1] at e2
  exact (List.cons.inj e2).1.symm
/-- on the way in nobody else's word is touched -/
theorem MInv.wtk (h : MInv tail first n m) (hj : j < n) (h5 : m.S j 0 ≤ 5) {k : Nat} (hkj : k ≠ j) : (wv tail first n (mStep tail first n bud m j).A).wt k = (wv tail first n m.A).wt k := by
  obtain ⟨hl, Q, L, c, o, ha⟩ := h
  unfold mStep
  rcases (ha.core.pcs j hj).cases with h0 | h0 | h0 | h0 | h0 | h0 | h0
  · rw [mGo_0 (.inl h0), mk_same]
  · rw [mGo_1 h0, (me_go (x := mGo1 tail first n bud m j) (j := j) rfl).2, st_next hl hj]
  · rw [mGo_2 h0, (me_go (x := mGo2 tail first n bud m j) (j := j) rfl).2, st_wait hl hj]; exact upd_ne _ _ hkj
  · rw [mGo_3 h0]
    by_cases hg : m.A.get tail = 0
    · rw [(me_go (x := mGo3 tail first n bud m j) (j := j) (if_pos hg)).2, sw_tail hl]
    · rw [(me_go (x := mGo3 tail first n bud m j) (j := j) (if_neg hg)).2, sw_tail hl]
  · obtain ⟨p, hp, he, hd⟩ := ha.link hj h0
    rw [mGo_4 h0, (me_go (x := mGo4 tail first n bud m j) (j := j) rfl).2, he, st_next hl hp]
  · rw [mGo_5 h0]
    by_cases hg : m.A.get (mWait tail ((j : Int) + 1)) = 0
    · rw [(me_go (x := mGo5 tail first n bud m j) (j := j) (if_pos hg)).2, wv_load]
    · rw [(me_go (x := mGo5 tail first n bud m j) (j := j) (if_neg hg)).2, wv_load]
  · omega
/-- where nobody is on the way out and one waits alone, it is let in -/
theorem MInv.heir (h : MInv tail first n m) {k : Nat} (hk : k < n) (hw : m.S k 0 = 4 ∨ m.S k 0 = 5) (hot : ∀ j, j < n → j ≠ k → m.S j 0 = 0) : m.S k 0 = 5 ∧ (wv tail first n m.A).wt k = 0 := by
  obtain ⟨hl, Q, L, c, o, ha⟩ := h
  have ho : o = none := by
    cases o with
    | none => rfl
    | some x =>
      have hx := ha.core.own2 x rfl
      by_cases e : x = k
      · subst e; omega
      · have := hot x hx.1 e; omega
  subst ho
  have hp : PhN (wv tail first n m.A) m.B m.S Q L c := ha.ph
  cases Q with
  | nil =>
    have hL := hp.l0 rfl
    have hc := hp.c0
    subst hL hc
    have := ha.core.mem k hk hw
    simp at this
  | cons a r =>
    obtain ⟨h1, h2⟩ := hp.hd a r rfl
    have hal := ha.core.lt a (by simp)
    by_cases e : a = k
    · subst e; exact ⟨h1, h2⟩
    · have := hot a hal e; omega
end
end Go.Proofs.Ytacogelejffbhaa
