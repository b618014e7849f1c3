/- Whoever has asked comes in some time: a weight that sinks by each step that is one, in plain Lean. -/
import Derived.Test.YtacogelejffbhaaMalAll
namespace Go.Proofs.Ytacogelejffbhaa
open Go.RowKit

/-- how far a thread is from rest -/
def wgt (pc : Int) : Nat :=
  if pc = 0 then 0 else if pc = 1 then 22 else if pc = 2 then 21 else if pc = 3 then 20 else if pc = 4 then 19 else if pc = 5 then 18 else if pc = 10 then 17 else if pc = 11 then 16 else if pc = 12 then 15 else if pc = 13 then 10
  else if pc = 14 then 2 else if pc = 15 then 5 else if pc = 16 then 4 else if pc = 17 then 3 else if pc = 18 then 1 else if pc = 19 then 9 else if pc = 20 then 8 else if pc = 21 then 7 else if pc = 22 then 2 else if pc = 23 then 1 else if pc = 24 then 1 else 0
/-- how far the bench is from being through -/
def bwt (B : BK) : Nat := if B.step = 0 then 0 else if B.step ≤ 4 then (5 - B.step).toNat else (9 - B.step).toNat
def sumW (S : Nat → Nat → Int) : Nat → Nat
  | 0 => 0
  | n + 1 => sumW S n + wgt (S n 0)
def mWt (n : Nat) (m : MS) : Nat := sumW m.S n + bwt m.B
theorem ite_le {c : Prop} [Decidable c] {a b k : Nat} (h1 : a ≤ k) (h2 : b ≤ k) : (if c then a else b) ≤ k := by split; exact h1; exact h2
theorem wgt_le (pc : Int) : wgt pc ≤ 22 := by
  unfold wgt
  repeat (refine ite_le (by omega) ?_)
  omega
theorem sumW_le (S : Nat → Nat → Int) : ∀ n, sumW S n ≤ 22 * n
  | 0 => Nat.le_refl _
  | n + 1 => by have := sumW_le S n; have := wgt_le (S n 0); unfold sumW; omega
theorem sumW_congr {S S' : Nat → Nat → Int} : ∀ {n : Nat}, (∀ j, j < n → S' j 0 = S j 0) → sumW S' n = sumW S n
  | 0, _ => rfl
  | n + 1, h => by unfold sumW; rw [sumW_congr (fun j hj => h j (by omega)), h n (by omega)]
theorem sumW_put {S S' : Nat → Nat → Int} {j : Nat} : ∀ {n : Nat}, j < n → (∀ k, k ≠ j → S' k 0 = S k 0) → sumW S' n + wgt (S j 0) = sumW S n + wgt (S' j 0)
  | 0, h, _ => absurd h (Nat.not_lt_zero _)
  | n + 1, h, hk => by
    unfold sumW
    by_cases e : j = n
    · subst e; rw [sumW_congr (S := S) (S' := S') (fun k hk' => hk k (by omega))]; omega
    · have := sumW_put (n := n) (S := S) (S' := S') (by omega) hk
      rw [hk n (fun e' => e e'.symm)]; omega
theorem sumW_zero {S : Nat → Nat → Int} : ∀ {n : Nat}, sumW S n = 0 → ∀ j, j < n → wgt (S j 0) = 0
  | 0, _, _, h => absurd h (Nat.not_lt_zero _)
  | n + 1, h, j, hj => by
    unfold sumW at h
    by_cases e : j = n
    · subst e; omega
    · exact sumW_zero (n := n) (by omega) j (by omega)

section
variable {tail first n : Nat} {bud : Int} {m : MS} {j : Nat}
/-- the step of a thread that waits changes nothing -/
def mIdle (tail first n : Nat) (m : MS) (j : Nat) : Prop :=
  m.S j 0 = 0 ∨ m.S j 0 = 10 ∨ (m.S j 0 = 5 ∧ (wv tail first n m.A).wt j ≠ 0) ∨ ((m.S j 0 = 17 ∨ m.S j 0 = 20) ∧ (wv tail first n m.A).nx j = 0)
/-- what a step leaves of the others, and of itself -/
structure StepTo (n : Nat) (m m' : MS) (j : Nat) (pc : Int) : Prop where
  me : m'.S j 0 = pc
  ot : ∀ k, k ≠ j → ∀ t, m'.S k t = m.S k t
theorem stepTo_go {x : MS × Int} {A' : AR} {B' : BK} {d' r : Int} {S' : Nat → Nat → Int} (e : x = (⟨A', B', d', S'⟩, r)) (h : ∀ k, k ≠ j → ∀ t, S' k t = m.S k t) : StepTo n m { x.1 with S := spPut x.1.S j 0 x.2 } j r := by
  subst e
  exact ⟨sp_eq _ _ _ _, fun k hk t => by show spPut S' j 0 r k t = _; rw [sp_ne _ _ _ _ hk]; exact h k hk t⟩
theorem weigh {m' : MS} {pc : Int} (hj : j < n) (h : StepTo n m m' j pc) (hb : wgt pc + bwt m'.B < wgt (m.S j 0) + bwt m.B) : mWt n m' < mWt n m := by
  have := sumW_put (S := m.S) (S' := m'.S) hj (fun k hk => h.ot k hk 0)
  rw [h.me] at this
  unfold mWt
  omega
theorem weigh_go {x : MS × Int} {A' : AR} {B' : BK} {d' r : Int} {S' : Nat → Nat → Int} (hj : j < n) (e : x = (⟨A', B', d', S'⟩, r)) (h : ∀ k, k ≠ j → ∀ t, S' k t = m.S k t) (hb : wgt r + bwt B' < wgt (m.S j 0) + bwt m.B) : mWt n { x.1 with S := spPut x.1.S j 0 x.2 } < mWt n m := by
  subst e
  exact weigh hj (stepTo_go rfl h) hb
theorem Ph.step0 {w : WV} {B : BK} {d : Int} {S : Nat → Nat → Int} {x : Nat} {Q L c : List Nat} (h : Ph w B d S x Q L c) (h1 : S x 0 ≠ 13) (h2 : S x 0 ≠ 22) : B.step = 0 := by
  cases h <;> first | assumption | omega
theorem Ph.step13 {w : WV} {B : BK} {d : Int} {S : Nat → Nat → Int} {x : Nat} {Q L c : List Nat} (h : Ph w B d S x Q L c) (h1 : S x 0 = 13) : 5 ≤ B.step ∧ B.step ≤ 8 := by
  cases h <;> first | assumption | omega
theorem Ph.step22 {w : WV} {B : BK} {d : Int} {S : Nat → Nat → Int} {x : Nat} {Q L c : List Nat} (h : Ph w B d S x Q L c) (h1 : S x 0 = 22) : 1 ≤ B.step ∧ B.step ≤ 4 := by
  cases h <;> first | assumption | omega
theorem bstep_low (first : Nat) (A : AR) (B : BK) (h : 1 ≤ B.step ∧ B.step ≤ 8) : (bStepR first A B = true → (bStepB first A B).step = 0) ∧ (bStepR first A B = false → bwt (bStepB first A B) < bwt B) := by
  obtain ⟨st, x, nn, got⟩ := B
  simp only at h
  rcases (by omega : st = 1 ∨ st = 2 ∨ st = 3 ∨ st = 4 ∨ st = 5 ∨ st = 6 ∨ st = 7 ∨ st = 8) with rfl | rfl | rfl | rfl | rfl | rfl | rfl | rfl
  · simp [bStepR, bStepB, bwt]
  · simp [bStepR, bStepB, bwt]
  · simp [bStepR, bStepB, bwt]
  · simp [bStepR, bStepB, bwt]
  · by_cases hg : A.get first = 0 <;> simp [bStepR, bStepB, bwt, hg]
  · simp [bStepR, bStepB, bwt]
  · by_cases hg : nn = 0 <;> simp [bStepR, bStepB, bwt, hg]
  · simp [bStepR, bStepB, bwt]
theorem bwt0 {B : BK} (h : B.step = 0) : bwt B = 0 := by unfold bwt; rw [if_pos h]
/-- a step that is one sinks the weight; one that is none leaves the threads where they are -/
theorem MInv.sinks (h : MInv tail first n m) (hj : j < n) (hi : ¬ mIdle tail first n m j) : mWt n (mStep tail first n bud m j) < mWt n m := by
  obtain ⟨hl, Q, L, c, o, ha⟩ := h
  have hph : 10 ≤ m.S j 0 → Ph (wv tail first n m.A) m.B m.d m.S j Q L c := fun h10 => by
    obtain rfl := ha.who hj h10
    exact ha.ph
  unfold mStep
  unfold mIdle at hi
  rcases (ha.core.pcs j hj).cases with h0 | h0 | h0 | h0 | h0 | h0 | h0 | h0 | h0 | h0 | h0 | h0 | h0 | h0 | h0 | h0 | h0 | h0 | h0 | h0 | h0
  · exact absurd (.inl h0) hi
  · rw [mGo_1 h0]
    exact weigh_go hj rfl (fun _ _ _ => rfl) (by rw [h0]; simp [wgt])
  · rw [mGo_2 h0]
    exact weigh_go hj rfl (fun _ _ _ => rfl) (by rw [h0]; simp [wgt])
  · rw [mGo_3 h0]
    unfold mGo3
    split
    · exact weigh_go hj rfl (fun k hk t => sp_ne _ _ _ _ hk) (by rw [h0]; simp [wgt])
    · exact weigh_go hj rfl (fun k hk t => sp_ne _ _ _ _ hk) (by rw [h0]; simp [wgt])
  · rw [mGo_4 h0]
    exact weigh_go hj rfl (fun _ _ _ => rfl) (by rw [h0]; simp [wgt])
  · rw [mGo_5 h0]
    unfold mGo5
    split
    · exact weigh_go hj rfl (fun _ _ _ => rfl) (by rw [h0]; simp [wgt])
    · rename_i hg
      rw [wt_get hl hj] at hg
      exact absurd (.inr (.inr (.inl ⟨h0, hg⟩))) hi
  · exact absurd (.inr (.inl h0)) hi
  · rw [mGo_11 h0]
    exact weigh_go hj rfl (fun k hk t => sp_ne _ _ _ _ hk) (by rw [h0]; simp [wgt])
  · rw [mGo_12 h0]
    have hb := (hph (by omega)).step0 (by omega) (by omega)
    unfold mGo12
    split
    · exact weigh_go hj rfl (fun k hk t => sp_ne _ _ _ _ hk) (by rw [h0]; simp [wgt])
    · refine weigh_go hj rfl (fun k hk t => sp_ne _ _ _ _ hk) ?_
      rw [h0, bwt0 hb]
      unfold bTakeB bTakeOk
      simp [hb, wgt, bwt]
  · rw [mGo_13 h0]
    have hb := (hph (by omega)).step13 h0
    obtain ⟨b1, b2⟩ := bstep_low first m.A m.B (by omega)
    unfold mGo13
    split
    · rename_i hR
      refine weigh_go hj rfl (fun k hk t => sp_ne _ _ _ _ hk) ?_
      rw [h0]
      rw [bwt0 (b1 hR)]
      unfold mTk
      split <;> split <;> simp [wgt] <;> omega
    · rename_i hR
      have := b2 (by simpa using hR)
      exact weigh_go hj rfl (fun _ _ _ => rfl) (by rw [h0]; omega)
  · rw [mGo_14 h0]
    exact weigh_go hj rfl (fun _ _ _ => rfl) (by rw [h0]; simp [wgt])
  · rw [mGo_15 h0]
    exact weigh_go hj rfl (fun _ _ _ => rfl) (by rw [h0]; simp [wgt])
  · rw [mGo_16 h0]
    unfold mGo16
    split
    · exact weigh_go hj rfl (fun _ _ _ => rfl) (by rw [h0]; simp [wgt])
    · exact weigh_go hj rfl (fun _ _ _ => rfl) (by rw [h0]; simp [wgt])
  · rw [mGo_17 h0]
    unfold mGo17
    split
    · rename_i hg
      rw [nx_get hl hj] at hg
      exact absurd (.inr (.inr (.inr ⟨.inl h0, hg⟩))) hi
    · exact weigh_go hj rfl (fun k hk t => sp_ne _ _ _ _ hk) (by rw [h0]; simp [wgt])
  · rw [mGo_18 h0]
    exact weigh_go hj rfl (fun _ _ _ => rfl) (by rw [h0]; simp [wgt])
  · rw [mGo_19 h0]
    unfold mGo19
    split
    · exact weigh_go hj rfl (fun _ _ _ => rfl) (by rw [h0]; simp [wgt])
    · exact weigh_go hj rfl (fun _ _ _ => rfl) (by rw [h0]; simp [wgt])
  · rw [mGo_20 h0]
    unfold mGo20
    split
    · rename_i hg
      rw [nx_get hl hj] at hg
      exact absurd (.inr (.inr (.inr ⟨.inr h0, hg⟩))) hi
    · exact weigh_go hj rfl (fun k hk t => sp_ne _ _ _ _ hk) (by rw [h0]; simp [wgt])
  · rw [mGo_21 h0]
    have hb := (hph (by omega)).step0 (by omega) (by omega)
    unfold mGo21
    split
    · exact weigh_go hj rfl (fun _ _ _ => rfl) (by rw [h0]; simp [wgt])
    · refine weigh_go hj rfl (fun _ _ _ => rfl) ?_
      rw [h0, bwt0 hb]
      have : bwt (bPutB n m.B (m.S j 1)) ≤ 4 := by
        unfold bPutB
        split
        · simp [bwt]
        · rw [bwt0 hb]; omega
      simp [wgt]
      omega
  · rw [mGo_22 h0]
    have hb := (hph (by omega)).step22 h0
    obtain ⟨b1, b2⟩ := bstep_low first m.A m.B (by omega)
    unfold mGo22
    split
    · rename_i hR
      refine weigh_go hj rfl (fun _ _ _ => rfl) ?_
      rw [h0]
      rw [bwt0 (b1 hR)]
      simp [wgt]
      omega
    · rename_i hR
      have := b2 (by simpa using hR)
      exact weigh_go hj rfl (fun _ _ _ => rfl) (by rw [h0]; omega)
  · rw [mGo_23 h0]
    exact weigh_go hj rfl (fun _ _ _ => rfl) (by rw [h0]; simp [wgt])
  · rw [mGo_24 h0]
    exact weigh_go hj rfl (fun _ _ _ => rfl) (by rw [h0]; simp [wgt])
/-- a thread's step, and its leaving -/
def mTurn (tail first n : Nat) (bud : Int) (m : MS) (i : Nat) : MS := mBeg n (mStepI tail first n bud m i) i 10 11
def mRound (tail first n : Nat) (bud : Int) : Nat → MS → MS
  | 0, m => m
  | k + 1, m => mTurn tail first n bud (mRound tail first n bud k m) k
/-- what the threads see: where they are, and what they wait for -/
structure Alike (tail first n : Nat) (m m' : MS) : Prop where
  pc : ∀ j, j < n → m'.S j 0 = m.S j 0
  wv : Go.Proofs.Ytacogelejffbhaa.wv tail first n m'.A = Go.Proofs.Ytacogelejffbhaa.wv tail first n m.A
  bk : m'.B = m.B
theorem Alike.rfl' : Alike tail first n m m := ⟨fun _ _ => rfl, rfl, rfl⟩
theorem Alike.trans {a b c : MS} (h : Alike tail first n a b) (k : Alike tail first n b c) : Alike tail first n a c := ⟨fun j hj => (k.pc j hj).trans (h.pc j hj), k.wv.trans h.wv, k.bk.trans h.bk⟩
theorem alike_go {x : MS × Int} {A' : AR} {B' : BK} {d' r : Int} {S' : Nat → Nat → Int} (e : x = (⟨A', B', d', S'⟩, r)) (h1 : Go.Proofs.Ytacogelejffbhaa.wv tail first n A' = Go.Proofs.Ytacogelejffbhaa.wv tail first n m.A) (h2 : B' = m.B) (h3 : ∀ k, spPut S' j 0 r k 0 = m.S k 0) : Alike tail first n m { x.1 with S := spPut x.1.S j 0 x.2 } := by
  subst e
  exact ⟨fun k _ => h3 k, h1, h2⟩
theorem MInv.idle (h : MInv tail first n m) (hj : j < n) (hi : mIdle tail first n m j) : Alike tail first n m (mStep tail first n bud m j) := by
  obtain ⟨hl, Q, L, c, o, ha⟩ := h
  have put1 : ∀ (v pc : Int) (k : Nat), m.S j 0 = pc → spPut (spPut m.S j 1 v) j 0 pc k 0 = m.S k 0 := fun v pc k e => by
    by_cases hk : k = j
    · subst hk; rw [sp_eq, e]
    · rw [sp_ne _ _ _ _ hk, sp_ne _ _ _ _ hk]
  have put0 : ∀ (pc : Int) (k : Nat), m.S j 0 = pc → spPut m.S j 0 pc k 0 = m.S k 0 := fun pc k e => by
    by_cases hk : k = j
    · subst hk; rw [sp_eq, e]
    · rw [sp_ne _ _ _ _ hk]
  unfold mStep
  rcases hi with h0 | h0 | ⟨h0, hw⟩ | ⟨h0 | h0, hw⟩
  · rw [mGo_0 (.inl h0), mk_same]; exact Alike.rfl'
  · rw [mGo_0 (.inr h0), mk_same]; exact Alike.rfl'
  · rw [mGo_5 h0]
    exact alike_go (if_neg (by rw [wt_get hl hj]; exact hw)) (wv_load _) rfl (fun k => put0 5 k h0)
  · rw [mGo_17 h0]
    exact alike_go (if_pos (by rw [nx_get hl hj]; exact hw)) (wv_load _) rfl (fun k => put1 _ 17 k h0)
  · rw [mGo_20 h0]
    exact alike_go (if_pos (by rw [nx_get hl hj]; exact hw)) (wv_load _) rfl (fun k => put1 _ 20 k h0)
theorem Alike.wt {m' : MS} (h : Alike tail first n m m') : mWt n m' = mWt n m := by
  unfold mWt; rw [sumW_congr h.pc, h.bk]
/-- may the thread go on, by a step or by leaving? -/
def mCan (tail first n : Nat) (m : MS) (j : Nat) : Prop := m.S j 0 = 10 ∨ ¬ mIdle tail first n m j
theorem Alike.can {m' : MS} (h : Alike tail first n m m') (hj : j < n) (hc : mCan tail first n m j) : mCan tail first n m' j := by
  unfold mCan mIdle at hc ⊢
  rw [h.pc j hj, h.wv]
  exact hc
theorem leave_low (hj : j < n) (h10 : m.S j 0 = 10) : mWt n (mBeg n m j 10 11) < mWt n m := by
  have hok : mBegOk n m j 10 = true := by unfold mBegOk sHas; simp [h10]; omega
  have e : mBeg n m j 10 11 = { m with S := spPut m.S j 0 11 } := by unfold mBeg; rw [if_pos hok]; rfl
  rw [e]
  exact weigh (pc := 11) hj ⟨sp_eq _ _ _ _, fun k hk t => sp_ne _ _ _ _ hk⟩ (by rw [h10]; show wgt 11 + bwt m.B < _; simp [wgt])
theorem leave_same (h10 : m.S j 0 ≠ 10) : mBeg n m j 10 11 = m := by
  unfold mBeg
  rw [if_neg]
  unfold mBegOk
  simp
  exact fun _ => h10
theorem stepI_nat (hj : j < n) : mStepI tail first n bud m j = mStep tail first n bud m j := by
  unfold mStepI
  rw [if_pos (by unfold sHas; simp; omega)]
  rfl
theorem MInv.turn (h : MInv tail first n m) (i : Nat) : MInv tail first n (mTurn tail first n bud m i) := (h.stepI i).leave i
/-- a turn sinks the weight, or changes nothing that counts; it sinks it where the thread can go on -/
theorem MInv.turns (h : MInv tail first n m) (hj : j < n) : mWt n (mTurn tail first n bud m j) < mWt n m ∨ (Alike tail first n m (mTurn tail first n bud m j) ∧ ¬ mCan tail first n m j) := by
  unfold mTurn
  rw [stepI_nat hj]
  by_cases hi : mIdle tail first n m j
  · have ha := h.idle (bud := bud) hj hi
    by_cases h10 : (mStep tail first n bud m j).S j 0 = 10
    · left
      have := leave_low (n := n) hj h10
      rw [ha.wt] at this
      exact this
    · right
      rw [leave_same h10]
      refine ⟨ha, fun hc => ?_⟩
      rcases hc with hc | hc
      · exact h10 (by rw [ha.pc j hj]; exact hc)
      · exact hc hi
  · left
    have hs := h.sinks (bud := bud) hj hi
    by_cases h10 : (mStep tail first n bud m j).S j 0 = 10
    · have := leave_low (n := n) hj h10; omega
    · rw [leave_same h10]; exact hs
theorem round_inv (h : MInv tail first n m) : ∀ k, MInv tail first n (mRound tail first n bud k m)
  | 0 => h
  | k + 1 => (round_inv h k).turn k
theorem MInv.rounds (h : MInv tail first n m) : ∀ k, k ≤ n → mWt n (mRound tail first n bud k m) < mWt n m ∨ (Alike tail first n m (mRound tail first n bud k m) ∧ ∀ j, j < k → ¬ mCan tail first n m j)
  | 0, _ => .inr ⟨Alike.rfl', fun j hj => absurd hj (Nat.not_lt_zero _)⟩
  | k + 1, hk => by
    have hi := round_inv (bud := bud) h k
    rcases h.rounds k (by omega) with h1 | ⟨h1, h2⟩
    · left
      show mWt n (mTurn tail first n bud (mRound tail first n bud k m) k) < _
      rcases hi.turns (bud := bud) (j := k) (by omega) with h3 | ⟨h3, _⟩
      · omega
      · rw [h3.wt]; exact h1
    · rcases hi.turns (bud := bud) (j := k) (by omega) with h3 | ⟨h3, h4⟩
      · left
        show mWt n (mTurn tail first n bud (mRound tail first n bud k m) k) < _
        rw [h1.wt] at h3
        exact h3
      · right
        refine ⟨h1.trans h3, fun j hj => ?_⟩
        by_cases e : j = k
        · subst e; exact fun hc => h4 (h1.can (by omega) hc)
        · exact h2 j (by omega)
/-- where nobody can go on all are at rest -/
theorem MInv.stuck (h : MInv tail first n m) (hs : ∀ j, j < n → ¬ mCan tail first n m j) : ∀ j, j < n → m.S j 0 = 0 := by
  obtain ⟨hl, Q, L, c, o, ha⟩ := h
  have hno : ∀ j, j < n → m.S j 0 ≠ 10 ∧ mIdle tail first n m j := fun j hj => by
    have := hs j hj
    unfold mCan at this
    exact ⟨fun e => this (.inl e), Classical.byContradiction fun e => this (.inr e)⟩
  have hpc : ∀ j, j < n → m.S j 0 = 0 ∨ (m.S j 0 = 5 ∧ (wv tail first n m.A).wt j ≠ 0) ∨ ((m.S j 0 = 17 ∨ m.S j 0 = 20) ∧ (wv tail first n m.A).nx j = 0) := fun j hj => by
    obtain ⟨h1, h2⟩ := hno j hj
    rcases h2 with h2 | h2 | h2 | h2
    · exact .inl h2
    · exact absurd h2 h1
    · exact .inr (.inl h2)
    · exact .inr (.inr h2)
  have hq5 : ∀ q ∈ Q, o ≠ some q → m.S q 0 = 5 := fun q hq hne => by
    have h1 := ha.core.idle q (List.mem_append.2 (.inl hq)) hne
    rcases hpc q (ha.core.lt q (List.mem_append.2 (.inl hq))) with h2 | h2 | h2 <;> omega
  cases o with
  | some x =>
    exfalso
    have hx := ha.core.own2 x rfl
    have hp : Ph (wv tail first n m.A) m.B m.d m.S x Q L c := ha.ph
    have hx17 : (m.S x 0 = 17 ∨ m.S x 0 = 20) ∧ (wv tail first n m.A).nx x = 0 := by
      rcases hpc x hx.1 with h2 | h2 | h2
      · omega
      · omega
      · exact h2
    have hsec : ∃ q r, Q = x :: q :: r := by
      cases hp
      case late q r y h1 h2 h3 => exact ⟨q, r, rfl⟩
      case wait q r h1 h2 => exact ⟨q, r, rfl⟩
      all_goals omega
    obtain ⟨q, r, rfl⟩ := hsec
    have hqx : q ≠ x := fun e => hx.2.2.1 (by simp [e])
    have h5 := hq5 q (by simp) (fun e => hqx (by simpa using e.symm))
    have := ha.core.ql.1
    omega
  | none =>
    have hp : PhN (wv tail first n m.A) m.B m.S Q L c := ha.ph
    have hQ : Q = [] := by
      cases Q with
      | nil => rfl
      | cons a r =>
        exfalso
        obtain ⟨h1, h2⟩ := hp.hd a r rfl
        rcases hpc a (ha.core.lt a (by simp)) with h3 | h3 | h3
        · omega
        · exact h3.2 h2
        · omega
    have hL := hp.l0 hQ
    have hc := hp.c0
    subst hQ hL hc
    intro j hj
    rcases hpc j hj with h3 | h3 | h3
    · exact h3
    · have := ha.core.mem j hj (.inr h3.1); simp at this
    · have := ha.core.ownr j hj (by omega); simp at this
def mRuns (tail first n : Nat) (bud : Int) : Nat → MS → MS
  | 0, m => m
  | k + 1, m => mRound tail first n bud n (mRuns tail first n bud k m)
theorem runs_inv (h : MInv tail first n m) : ∀ k, MInv tail first n (mRuns tail first n bud k m)
  | 0 => h
  | k + 1 => round_inv (runs_inv h k) n
theorem rest_round (hz : ∀ j, j < n → m.S j 0 = 0) : ∀ k, k ≤ n → mRound tail first n bud k m = m
  | 0, _ => rfl
  | k + 1, hk => by
    show mTurn tail first n bud (mRound tail first n bud k m) k = m
    rw [rest_round hz k (by omega)]
    unfold mTurn
    have h0 := hz k (by omega)
    rw [stepI_nat (by omega)]
    have e : mStep tail first n bud m k = m := by unfold mStep; rw [mGo_0 (.inl h0), mk_same]
    rw [e, leave_same (by omega)]
/-- behind enough rounds all are at rest -/
theorem MInv.rest (h : MInv tail first n m) : ∀ k, (∀ j, j < n → (mRuns tail first n bud k m).S j 0 = 0) ∨ mWt n (mRuns tail first n bud k m) + k ≤ mWt n m
  | 0 => .inr (Nat.le_refl _)
  | k + 1 => by
    have hi := runs_inv (bud := bud) h k
    rcases h.rest k with h1 | h1
    · left
      show ∀ j, j < n → (mRound tail first n bud n (mRuns tail first n bud k m)).S j 0 = 0
      rw [rest_round h1 n (Nat.le_refl _)]
      exact h1
    · rcases hi.rounds (bud := bud) n (Nat.le_refl _) with h2 | ⟨_, h3⟩
      · right
        show mWt n (mRound tail first n bud n (mRuns tail first n bud k m)) + (k + 1) ≤ _
        omega
      · left
        have hz := hi.stuck h3
        show ∀ j, j < n → (mRound tail first n bud n (mRuns tail first n bud k m)).S j 0 = 0
        rw [rest_round hz n (Nat.le_refl _)]
        exact hz
theorem bwt_le {B : BK} (h : 0 ≤ B.step) : bwt B ≤ 8 := by unfold bwt; split; omega; split <;> omega
theorem MInv.rests (h : MInv tail first n m) (hb : 0 ≤ m.B.step) {k : Nat} (hk : 22 * n + 8 < k) : ∀ j, j < n → (mRuns tail first n bud k m).S j 0 = 0 := by
  rcases h.rest (bud := bud) k with h1 | h1
  · exact h1
  · exfalso
    have := sumW_le m.S n
    have := bwt_le hb
    unfold mWt at h1
    omega
end
end Go.Proofs.Ytacogelejffbhaa
