/- From its doorway to its entry a thread is passed at most as often as is told, in plain Lean. -/
import Derived.Test.YtacogelejffbhaaMalPass
import Derived.Test.YtacogelejffbhaaMalNew
namespace Go.Proofs.Ytacogelejffbhaa
open Go.RowKit

def pReset (p : Nat → Int) (was now : Int) (j : Nat) : Nat → Int := if was = 3 ∧ now ≠ 3 then (fun k => if k = j then 0 else p k) else p
def pPass (S : Nat → Nat → Int) (p : Nat → Int) (u : Nat) : Nat → Int := fun k => if k ≠ u ∧ 3 < S k 0 ∧ S k 0 < 10 then p k + 1 else p k
def pAct (S : Nat → Nat → Int) (p : Nat → Int) (was now : Int) (u : Nat) : Nat → Int := if was < 10 ∧ now = 10 then pPass S (pReset p was now u) u else pReset p was now u
structure PInv (tail first n : Nat) (m : MS) (p : Nat → Int) (cnt : Nat) : Prop where
  nn : ∀ k, k < n → 0 ≤ p k
  acts : ∀ k, k < n → 11 * p k + sumP m.S k n ≤ cnt
  two : n = 2 → ∀ k, k < 2 → m.S k 0 = 4 ∨ m.S k 0 = 5 → p k = 0 ∨ (p k = 1 ∧ ∀ u, u < 2 → u ≠ k → 10 ≤ m.S u 0 ∨ (m.S k 0 = 5 ∧ (wv tail first n m.A).wt k = 0))
section
variable {tail first n : Nat} {bud : Int} {m m' : MS} {p : Nat → Int} {cnt j : Nat} {r : Int}
theorem wt5 (h5 : m.S j 0 = 5) : wv tail first n (mStep tail first n bud m j).A = wv tail first n m.A := by
  unfold mStep
  rw [mGo_5 h5]
  by_cases hg : m.A.get (mWait tail ((j : Int) + 1)) = 0
  · rw [(me_go (x := mGo5 tail first n bud m j) (j := j) (if_pos hg)).2, wv_load]
  · rw [(me_go (x := mGo5 tail first n bud m j) (j := j) (if_neg hg)).2, wv_load]
theorem pReset_le (h : ∀ k, k < n → 0 ≤ p k) (was now : Int) {k : Nat} (hk : k < n) : 0 ≤ pReset p was now j k ∧ pReset p was now j k ≤ p k ∧ (k ≠ j → pReset p was now j k = p k) ∧ (k = j → was = 3 → now ≠ 3 → pReset p was now j k = 0) := by
  have := h k hk
  unfold pReset
  split
  · dsimp only
    by_cases e : k = j
    · rw [if_pos e]; exact ⟨by omega, by omega, fun h => absurd e h, fun _ _ _ => rfl⟩
    · rw [if_neg e]; exact ⟨by omega, by omega, fun _ => rfl, fun h => absurd h e⟩
  · rename_i hc; exact ⟨by omega, by omega, fun _ => rfl, fun _ h1 h2 => absurd ⟨h1, h2⟩ hc⟩
theorem PcOk.mid {x : Int} (h : PcOk x) (h1 : 3 < x) (h2 : x < 10) : x = 4 ∨ x = 5 := by unfold PcOk at h; omega
theorem Mv.to10 {a : Int} (h : Mv a 10) (ha : a < 10) : a = 3 ∨ a = 5 := by unfold Mv at h; omega
theorem Mv.to4 {a : Int} (h : Mv a 4) : a = 3 := by unfold Mv at h; omega
theorem Mv.to5 {a : Int} (h : Mv a 5) : a = 4 ∨ a = 5 := by unfold Mv at h; omega
theorem Mv.from10 {a b : Int} (h : Mv a b) (ha : 10 ≤ a) (hb : b < 10) : b = 0 := by unfold Mv at h; omega
theorem Mv.low {a b : Int} (h : Mv a b) (ha : a < 10) : a ≤ 5 := by unfold Mv at h; omega
theorem pmove (h : PInv tail first n m p cnt) (hi : MInv tail first n m) (hi' : MInv tail first n m') (hj : j < n) (st : StepTo n m m' j r) (mv : Mv (m.S j 0) r)
    (F1 : m.S j 0 = 3 → r = 10 → ∀ k, k < n → ¬ (m.S k 0 = 4 ∨ m.S k 0 = 5)) (F2 : m.S j 0 = 5 → r = 10 → ∀ k, k < n → m.S k 0 = 5 → (wv tail first n m.A).wt k = 0 → k = j)
    (F3 : m.S j 0 ≤ 5 → ∀ k, k ≠ j → (wv tail first n m'.A).wt k = (wv tail first n m.A).wt k) (F5 : m.S j 0 = 5 → wv tail first n m'.A = wv tail first n m.A) :
    PInv tail first n m' (pAct m'.S p (m.S j 0) r j) (cnt + 1) := by
  have hpay := mv.pay
  have hot : ∀ k, k ≠ j → m'.S k 0 = m.S k 0 := fun k hk => st.ot k hk 0
  have inc : ∀ k, k < n → pAct m'.S p (m.S j 0) r j k = pReset p (m.S j 0) r j k ∨ (pAct m'.S p (m.S j 0) r j k = p k + 1 ∧ k ≠ j ∧ m.S j 0 = 5 ∧ r = 10 ∧ (m.S k 0 = 4 ∨ m.S k 0 = 5)) := fun k hk => by
    unfold pAct
    split
    · rename_i hc
      unfold pPass
      split
      · rename_i hd
        have hS := hot k hd.1
        have hw := (hi.pc k hk).mid (by omega) (by omega)
        obtain ⟨rfl⟩ : r = 10 := hc.2
        rcases mv.to10 hc.1 with h3 | h5
        · exact absurd hw (F1 h3 rfl k hk)
        · right
          rw [(pReset_le h.nn _ _ hk).2.2.1 hd.1]
          exact ⟨rfl, hd.1, h5, rfl, hw⟩
      · exact .inl rfl
    · exact .inl rfl
  refine { nn := fun k hk => ?_, acts := fun k hk => ?_, two := fun hn k hk hw => ?_ }
  · rcases inc k hk with e | ⟨e, _⟩
    · rw [e]; exact (pReset_le h.nn _ _ hk).1
    · rw [e]; have := h.nn k hk; omega
  · have ha := h.acts k hk
    obtain ⟨q1, q2, q3, q4⟩ := pReset_le (j := j) h.nn (m.S j 0) r hk
    by_cases e : k = j
    · have hs : sumP m'.S k n = sumP m.S k n := sumP_congr fun i _ hik => hot i (by rw [← e]; exact hik)
      rw [hs]
      rcases inc k hk with e1 | ⟨_, e2, _⟩
      · rw [e1]; push_cast; omega
      · exact absurd e e2
    · have hs := sumP_put (S := m.S) (S' := m'.S) (j := j) (k := k) (fun e' => e e'.symm) hj hot
      rw [st.me] at hs
      rcases inc k hk with e1 | ⟨e1, _, h5, h10, _⟩
      · rw [e1, q3 e]; have := hpay.1; push_cast; omega
      · rw [e1]; have := hpay.2 h5 h10; push_cast; omega
  · subst hn
    by_cases e : k = j
    · subst e
      obtain ⟨q1, q2, q3, q4⟩ := pReset_le (j := k) h.nn (m.S k 0) r hk
      rcases inc k hk with e1 | ⟨_, e2, _⟩
      · rw [e1]
        rw [st.me] at hw
        rcases hw with h4 | h5
        · left; subst h4; exact q4 rfl mv.to4 (by omega)
        · subst h5
          rcases mv.to5 with a4 | a5
          · have hr : pReset p (m.S k 0) 5 k k = p k := by unfold pReset; rw [if_neg (by omega)]
            rw [hr]
            rcases h.two rfl k hk (.inl a4) with hp | ⟨hp, hu⟩
            · exact .inl hp
            · refine .inr ⟨hp, fun u hu2 huk => ?_⟩
              rcases hu u hu2 huk with h1 | ⟨h1, _⟩
              · left; rw [hot u huk]; exact h1
              · omega
          · have hr : pReset p (m.S k 0) 5 k k = p k := by unfold pReset; rw [if_neg (by omega)]
            rw [hr]
            rcases h.two rfl k hk (.inr a5) with hp | ⟨hp, hu⟩
            · exact .inl hp
            · refine .inr ⟨hp, fun u hu2 huk => ?_⟩
              rcases hu u hu2 huk with h1 | ⟨h1, h2⟩
              · left; rw [hot u huk]; exact h1
              · right; exact ⟨st.me, by rw [F5 a5]; exact h2⟩
      · exact absurd rfl e2
    · have hS := hot k e
      rw [hS] at hw ⊢
      have hju : ∀ u, u < 2 → u ≠ k → u = j := fun u h1 h2 => by omega
      rcases h.two rfl k hk hw with hp | ⟨hp, hu⟩
      · rcases inc k hk with e1 | ⟨e1, _, _, h10, _⟩
        · left; rw [e1, (pReset_le h.nn _ _ hk).2.2.1 e]; exact hp
        · right
          refine ⟨by rw [e1, hp]; rfl, fun u h1 h2 => .inl ?_⟩
          rw [hju u h1 h2, st.me, h10]; omega
      · rcases inc k hk with e1 | ⟨_, _, h5, h10, _⟩
        · right
          refine ⟨by rw [e1, (pReset_le h.nn _ _ hk).2.2.1 e]; exact hp, fun u h1 h2 => ?_⟩
          rcases hu j hj (fun e' => e e'.symm) with h3 | ⟨h3, h4⟩
          · by_cases hr : 10 ≤ r
            · left; rw [hju u h1 h2, st.me]; exact hr
            · right
              have hr0 := mv.from10 h3 (by omega)
              have := hi'.heir (k := k) hk (by rw [hS]; exact hw) (fun i hi2 hik => by rw [hju i hi2 hik, st.me]; exact hr0)
              rw [hS] at this
              exact this
          · by_cases ha : m.S j 0 < 10
            · right; exact ⟨h3, by rw [F3 (mv.low ha) k e]; exact h4⟩
            · by_cases hr : 10 ≤ r
              · left; rw [hju u h1 h2, st.me]; exact hr
              · right
                have hr0 := mv.from10 (by omega) (by omega)
                have := hi'.heir (k := k) hk (by rw [hS]; exact hw) (fun i hi2 hik => by rw [hju i hi2 hik, st.me]; exact hr0)
                rw [hS] at this
                exact this
        · exfalso
          rcases hu j hj (fun e' => e e'.symm) with h3 | ⟨h3, h4⟩
          · omega
          · exact e (F2 h5 h10 k hk h3 h4)
theorem PInv.stay (h : PInv tail first n m p cnt) : PInv tail first n m p (cnt + 1) := { h with acts := fun k hk => by have := h.acts k hk; push_cast; omega }
theorem pAct_same (S : Nat → Nat → Int) (p : Nat → Int) (a : Int) (u : Nat) : pAct S p a a u = p := by
  unfold pAct pReset
  rw [if_neg (by omega), if_neg (by omega)]
/-- where a thread of any number is -/
def pcOf (n : Nat) (m : MS) (i : Int) : Int := if sHas n i then m.S i.toNat 0 else 0
theorem PInv.act (h : PInv tail first n m p cnt) (hi : MInv tail first n m) (kind i : Int) :
    PInv tail first n (mAct tail first n bud m kind i) (pAct (mAct tail first n bud m kind i).S p (pcOf n m i) (pcOf n (mAct tail first n bud m kind i) i) i.toNat) (cnt + 1) := by
  have hstay : ∀ m', m' = m → PInv tail first n m' (pAct m'.S p (pcOf n m i) (pcOf n m' i) i.toNat) (cnt + 1) := fun m' e => by
    subst e; rw [pAct_same]; exact h.stay
  by_cases hs : sHas n i = true
  · have hb : 0 ≤ i ∧ i < (n : Int) := by unfold sHas at hs; simpa using hs
    obtain ⟨j, rfl⟩ := Int.eq_ofNat_of_zero_le hb.1
    have hj : j < n := by omega
    have hp : ∀ m : MS, pcOf n m j = m.S j 0 := fun m => by unfold pcOf; rw [if_pos hs]; rfl
    have hbeg : ∀ fr to_, (fr = 0 ∧ to_ = 1) ∨ (fr = 10 ∧ to_ = 11) → MInv tail first n (mBeg n m j fr to_) → PInv tail first n (mBeg n m j fr to_) (pAct (mBeg n m j fr to_).S p (pcOf n m j) (pcOf n (mBeg n m j fr to_) j) (j : Int).toNat) (cnt + 1) := fun fr to_ hft hi' => by
      by_cases hok : mBegOk n m j fr = true
      · have e : mBeg n m j fr to_ = { m with S := spPut m.S j 0 to_ } := by unfold mBeg; rw [if_pos hok]; rfl
        have h0 : m.S j 0 = fr := by unfold mBegOk at hok; simp at hok; exact hok.2
        rw [e] at hi' ⊢
        rw [hp, hp]
        have st : StepTo n m { m with S := spPut m.S j 0 to_ } j to_ := ⟨sp_eq _ _ _ _, fun k hk t => sp_ne _ _ _ _ hk⟩
        have hme : ({ m with S := spPut m.S j 0 to_ } : MS).S j 0 = to_ := st.me
        rw [hme]
        refine pmove h hi hi' hj st (by rw [h0]; rcases hft with ⟨rfl, rfl⟩ | ⟨rfl, rfl⟩ <;> simp [Mv]) ?_ ?_ (fun _ _ _ => rfl) (fun _ => rfl)
        · intro h3; omega
        · intro h5; omega
      · exact hstay _ (by unfold mBeg; rw [if_neg hok])
    unfold mAct
    split
    · have e : mStepI tail first n bud m j = mStep tail first n bud m j := stepI_nat hj
      rw [e, hp, hp]
      obtain ⟨r, st, mv⟩ := hi.moves (bud := bud) hj
      rw [st.me]
      exact pmove h hi (hi.step hj) hj st mv (fun h3 h10 => hi.alone (bud := bud) h3 (by rw [st.me]; exact h10)) (fun h5 h10 k hk h1 h2 => hi.letin (bud := bud) hj h5 (by rw [st.me]; exact h10) hk h1 h2) (fun h5 k hk => hi.wtk hj h5 hk) (fun h5 => wt5 h5)
    · split
      · exact hbeg 0 1 (.inl ⟨rfl, rfl⟩) (hi.ask j)
      · split
        · exact hbeg 10 11 (.inr ⟨rfl, rfl⟩) (hi.leave j)
        · exact hstay m rfl
  · refine hstay _ ?_
    have hf : sHas n i = false := by simpa using hs
    unfold mAct mStepI mBeg mBegOk
    rw [hf]
    (repeat' split) <;> simp_all
theorem PInv.new (h : ∀ j, m.S j 0 = 0) : PInv tail first n m (fun _ => 0) 0 := by
  have hs : ∀ k n, sumP m.S k n = 0 := fun k n => by
    induction n with
    | zero => rfl
    | succ n ih => unfold sumP; rw [ih, h n]; simp [pay]
  exact { nn := fun _ _ => by omega, acts := fun k _ => by rw [hs]; simp, two := fun _ k _ hw => by rw [h k] at hw; omega }
/-- what is passed stays within what is told -/
theorem PInv.most (h : PInv tail first n m p cnt) (hc : cnt ≤ 150) (hn1 : 1 ≤ n) (hn : n ≤ 8) (hb : 0 ≤ bud ∧ bud ≤ 3) {k u : Nat} (hk : k < n) (hu : u < n) (hku : k ≠ u) (hw : m.S k 0 = 4 ∨ m.S k 0 = 5) : p k ≤ mMost n bud := by
  have h1 := h.acts k hk
  have h2 := (sumP_ge m.S k n).2 hk
  unfold mMost
  rw [if_neg (by omega)]
  have h3 := h.nn k hk
  by_cases e2 : n = 2
  · have := h.two e2 k (by omega) hw
    subst e2
    push_cast
    omega
  · rcases (by omega : n = 1 ∨ n = 3 ∨ n = 4 ∨ n = 5 ∨ n = 6 ∨ n = 7 ∨ n = 8) with rfl | rfl | rfl | rfl | rfl | rfl | rfl
    · omega
    all_goals (push_cast at h2 ⊢; omega)
end
end Go.Proofs.Ytacogelejffbhaa
