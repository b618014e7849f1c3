/- The malthus lock's invariant stands behind each act. -/
import Derived.Test.YtacogelejffbhaaMalJoin
namespace Go.Proofs.Ytacogelejffbhaa
open Go.RowKit

structure MInv (tail first n : Nat) (m : MS) : Prop where
  lay : Lay tail first n m.A
  ex : ∃ Q L c o, All n (wv tail first n m.A) m.B m.d m.S Q L c o
section
variable {tail first n : Nat} {bud : Int} {m : MS} {j : Nat}
theorem minv_go {x : MS × Int} {A' : AR} {B' : BK} {d' r : Int} {S' : Nat → Nat → Int} (e : x = (⟨A', B', d', S'⟩, r)) (hl : Lay tail first n A') (h : ∃ Q L c o, All n (wv tail first n A') B' d' (spPut S' j 0 r) Q L c o) :
    MInv tail first n { x.1 with S := spPut x.1.S j 0 x.2 } := by
  subst e
  exact ⟨hl, h⟩
theorem sp_twice (S : Nat → Nat → Int) (j : Nat) (r : Int) (h : S j 0 = r) : spPut S j 0 r = S := by subst h; exact spPut_same S j 0
theorem PcOk.cases {p : Int} (hp : PcOk p) : p = 0 ∨ p = 1 ∨ p = 2 ∨ p = 3 ∨ p = 4 ∨ p = 5 ∨ p = 10 ∨ p = 11 ∨ p = 12 ∨ p = 13 ∨ p = 14 ∨ p = 15 ∨ p = 16 ∨ p = 17 ∨ p = 18 ∨ p = 19 ∨ p = 20 ∨ p = 21 ∨ p = 22 ∨ p = 23 ∨ p = 24 := by unfold PcOk at hp; omega
theorem MInv.pc (h : MInv tail first n m) : ∀ j, j < n → PcOk (m.S j 0) := by
  obtain ⟨hl, Q, L, c, o, ha⟩ := h
  exact ha.core.pcs
theorem mid_bench {Q L c : List Nat} {o : Option Nat} (hl : Lay tail first n m.A) (ha : All n (wv tail first n m.A) m.B m.d m.S Q L c o) (hj : j < n) (h0 : m.S j 0 = 13 ∨ m.S j 0 = 22) :
    bStepR first m.A m.B = bbR (wv tail first n m.A) m.B ∧ bStepB first m.A m.B = bbB (wv tail first n m.A) m.B ∧ wv tail first n (bStepA first m.A m.B) = bbW (wv tail first n m.A) m.B := by
  refine bb_conn hl ha.bp (fun y hy => ha.core.lt y (by simp [hy])) fun hs => ?_
  obtain rfl := ha.who hj (by omega)
  have hp : Ph (wv tail first n m.A) m.B m.d m.S j Q L c := ha.ph
  cases hp
  case putting q r y h1 h2 h3 h4 h5 h6 h7 => exact ⟨y, ha.core.lt y (by simp), h3⟩
  all_goals omega
theorem MInv.step (h : MInv tail first n m) (hj : j < n) : MInv tail first n (mStep tail first n bud m j) := by
  have h' := h
  obtain ⟨hl, Q, L, c, o, ha⟩ := h
  have lay := fun {A' : AR} (k : OpOk m.A A') => k.lay hl
  unfold mStep
  rcases (ha.core.pcs j hj).cases with h0 | h0 | h0 | h0 | h0 | h0 | h0 | h0 | h0 | h0 | h0 | h0 | h0 | h0 | h0 | h0 | h0 | h0 | h0 | h0 | h0
  · rw [mGo_0 (.inl h0), mk_same]; exact h'
  · rw [mGo_1 h0]
    exact minv_go rfl (lay (op_store _ _ _)) ⟨_, _, _, _, by rw [st_next hl hj]; exact ha.early hj (by omega) (by omega) (fun k e => upd_ne _ _ e) (fun _ _ => rfl) rfl ⟨rfl, rfl, rfl⟩ (fun _ => upd_eq _ _ _) (fun e => absurd e (by omega))⟩
  · rw [mGo_2 h0]
    exact minv_go rfl (lay (op_store _ _ _)) ⟨_, _, _, _, by rw [st_wait hl hj]; exact ha.early hj (by omega) (by omega) (fun _ _ => rfl) (fun k e => upd_ne _ _ e) rfl ⟨rfl, rfl, rfl⟩ (fun e => absurd e (by omega)) (fun _ => ⟨ha.core.p2 j hj h0, upd_eq _ _ _⟩)⟩
  · rw [mGo_3 h0]
    have hd := ha.door (w' := { wv tail first n m.A with tl := (j : Int) + 1 }) hj h0 rfl rfl rfl ⟨rfl, rfl, rfl⟩
    have hg : m.A.get tail = (wv tail first n m.A).tl := rfl
    rcases hd with ⟨hz, _, _, hd⟩ | ⟨hz, _, hd⟩
    · exact minv_go (if_pos (by rw [hg]; exact hz)) (lay (op_swap _ _ _)) ⟨_, _, _, _, by rw [sw_tail hl]; exact hd⟩
    · exact minv_go (if_neg (by rw [hg]; exact hz)) (lay (op_swap _ _ _)) ⟨_, _, _, _, by rw [sw_tail hl]; exact hd⟩
  · rw [mGo_4 h0]
    obtain ⟨p, hp, he, hd⟩ := ha.link hj h0
    exact minv_go rfl (lay (op_store _ _ _)) ⟨_, _, _, _, by rw [he, st_next hl hp]; exact hd _ rfl rfl rfl ⟨rfl, rfl, rfl⟩⟩
  · rw [mGo_5 h0]
    by_cases hg : m.A.get (mWait tail ((j : Int) + 1)) = 0
    · have hz : (wv tail first n m.A).wt j = 0 := by rw [← wt_get hl hj]; exact hg
      obtain ⟨_, _, hd⟩ := ha.enter hj h0 hz
      exact minv_go (if_pos hg) (lay (op_load _ _)) ⟨_, _, _, _, by rw [wv_load]; exact hd _ rfl rfl rfl ⟨rfl, rfl, rfl⟩⟩
    · exact minv_go (if_neg hg) (lay (op_load _ _)) ⟨_, _, _, _, by rw [wv_load, sp_twice _ _ _ h0]; exact ha⟩
  · rw [mGo_0 (.inr h0), mk_same]; exact h'
  · rw [mGo_11 h0]
    exact minv_go rfl (lay (op_add _ _ _)) ⟨_, _, _, _, by rw [add_none hl]; exact ha.t11 hj h0 _⟩
  · rw [mGo_12 h0]
    obtain ⟨hb, h1, h2⟩ := ha.t12 hj h0
    have hg := nx_get hl hj
    have e : bTakeB m.B = ⟨5, 1, m.B.n, m.B.got⟩ := by unfold bTakeB bTakeOk; simp [hb]
    by_cases hc : ¬ m.A.get (mNext tail ((j : Int) + 1)) = 0 ∧ ¬ (m.S j 3).tmod (bud + 1) = 0
    · exact minv_go (if_pos hc) (lay (op_load _ _)) ⟨_, _, _, _, by rw [wv_load, hg]; exact h1 (by rw [← hg]; exact hc.1)⟩
    · exact minv_go (if_neg hc) (lay (op_load _ _)) ⟨_, _, _, _, by rw [wv_load, hg, e]; exact h2⟩
  · rw [mGo_13 h0]
    obtain ⟨e1, e2, e3⟩ := mid_bench hl ha hj (.inl h0)
    rcases ha.t13 hj h0 with ⟨hR, hd⟩ | ⟨hR, L', c', hd⟩
    · exact minv_go (if_neg (by rw [e1, hR]; simp)) (lay (op_bench _ _ _)) ⟨_, _, _, _, by rw [e2, e3, sp_twice _ _ _ h0]; exact hd⟩
    · exact minv_go (if_pos (by rw [e1, hR])) (lay (op_bench _ _ _)) ⟨_, _, _, _, by rw [e2, e3]; exact hd⟩
  · rw [mGo_14 h0]
    obtain ⟨y, hy, he, Q', c', hd⟩ := ha.t14 hj h0
    exact minv_go rfl (lay (op_store _ _ _)) ⟨_, _, _, _, by rw [he, st_next hl hy]; exact hd⟩
  · rw [mGo_15 h0]
    obtain ⟨y, hy, he, hd⟩ := ha.t15 hj h0
    exact minv_go rfl (lay (op_store _ _ _)) ⟨_, _, _, _, by rw [he, st_next hl hy]; exact hd⟩
  · rw [mGo_16 h0]
    obtain ⟨h1, h2⟩ := ha.t16 hj h0
    obtain ⟨hk, hw⟩ := cas_tail hl ((j : Int) + 1) (m.S j 2)
    by_cases ht : (wv tail first n m.A).tl = (j : Int) + 1
    · obtain ⟨Q', c', hd⟩ := h1 ht
      exact minv_go (if_pos (by rw [hk]; simpa using ht)) (lay (op_cas _ _ _ _)) ⟨_, _, _, _, by rw [hw, if_pos ht]; exact hd⟩
    · exact minv_go (if_neg (by rw [hk]; simpa using ht)) (lay (op_cas _ _ _ _)) ⟨_, _, _, _, by rw [hw, if_neg ht]; exact h2 ht⟩
  · rw [mGo_17 h0]
    obtain ⟨h1, h2⟩ := ha.t17 hj h0
    have hg := nx_get hl hj
    by_cases hc : m.A.get (mNext tail ((j : Int) + 1)) = 0
    · exact minv_go (if_pos hc) (lay (op_load _ _)) ⟨_, _, _, _, by rw [wv_load, hc]; exact h1 (by rw [← hg]; exact hc)⟩
    · exact minv_go (if_neg hc) (lay (op_load _ _)) ⟨_, _, _, _, by rw [wv_load, hg]; exact h2 (by rw [← hg]; exact hc)⟩
  · rw [mGo_18 h0]
    obtain ⟨y, hy, he, hd⟩ := ha.t18 hj h0
    exact minv_go rfl (lay (op_store _ _ _)) ⟨_, _, _, _, by rw [he, st_wait hl hy]; exact hd⟩
  · rw [mGo_19 h0]
    obtain ⟨h1, h2⟩ := ha.t19 hj h0
    obtain ⟨hk, hw⟩ := cas_tail hl ((j : Int) + 1) 0
    by_cases ht : (wv tail first n m.A).tl = (j : Int) + 1
    · exact minv_go (if_pos (by rw [hk]; simpa using ht)) (lay (op_cas _ _ _ _)) ⟨_, _, _, _, by rw [hw, if_pos ht]; exact h1 ht⟩
    · exact minv_go (if_neg (by rw [hk]; simpa using ht)) (lay (op_cas _ _ _ _)) ⟨_, _, _, _, by rw [hw, if_neg ht]; exact h2 ht⟩
  · rw [mGo_20 h0]
    obtain ⟨h1, h2⟩ := ha.t20 hj h0
    have hg := nx_get hl hj
    by_cases hc : m.A.get (mNext tail ((j : Int) + 1)) = 0
    · exact minv_go (if_pos hc) (lay (op_load _ _)) ⟨_, _, _, _, by rw [wv_load, hc]; exact h1 (by rw [← hg]; exact hc)⟩
    · exact minv_go (if_neg hc) (lay (op_load _ _)) ⟨_, _, _, _, by rw [wv_load, hg]; exact h2 (by rw [← hg]; exact hc)⟩
  · rw [mGo_21 h0]
    obtain ⟨q, hq, he, hb, h1, h2⟩ := ha.t21 hj h0
    have hg := nx_get hl hq
    rw [← he] at hg
    have e : bPutB n m.B (m.S j 1) = ⟨1, m.S j 1, m.B.n, m.B.got⟩ := by
      unfold bPutB bPutOk; rw [if_pos (by simp [hb, he]; omega)]
    by_cases hc : m.A.get (mNext tail (m.S j 1)) = 0
    · exact minv_go (if_pos hc) (lay (op_load _ _)) ⟨_, _, _, _, by rw [wv_load]; exact h1 (by rw [← hg]; exact hc)⟩
    · obtain ⟨Q', c', hd⟩ := h2 (by rw [← hg]; exact hc)
      exact minv_go (if_neg hc) (lay (op_load _ _)) ⟨_, _, _, _, by rw [wv_load, hg, e]; exact hd⟩
  · rw [mGo_22 h0]
    obtain ⟨e1, e2, e3⟩ := mid_bench hl ha hj (.inr h0)
    rcases ha.t22 hj h0 with ⟨hR, hd⟩ | ⟨hR, L', c', hd⟩
    · exact minv_go (if_neg (by rw [e1, hR]; simp)) (lay (op_bench _ _ _)) ⟨_, _, _, _, by rw [e2, e3, sp_twice _ _ _ h0]; exact hd⟩
    · exact minv_go (if_pos (by rw [e1, hR])) (lay (op_bench _ _ _)) ⟨_, _, _, _, by rw [e2, e3]; exact hd⟩
  · rw [mGo_23 h0]
    obtain ⟨y, hy, he, hd⟩ := ha.t23 hj h0
    have hs : wv tail first n (m.A.store (mWait tail m.d) 0) = { wv tail first n m.A with wt := upd (wv tail first n m.A).wt y 0 } := by rw [he]; exact st_wait hl hy 0
    exact minv_go rfl (lay (op_store _ _ _)) ⟨_, _, _, _, by rw [hs]; exact hd⟩
  · rw [mGo_24 h0]
    obtain ⟨y, hy, he, hd⟩ := ha.t24 hj h0
    exact minv_go rfl (lay (op_store _ _ _)) ⟨_, _, _, _, by rw [he, st_wait hl hy]; exact hd⟩
theorem MInv.stepI (h : MInv tail first n m) (i : Int) : MInv tail first n (mStepI tail first n bud m i) := by
  unfold mStepI
  split
  · rename_i hi
    have : 0 ≤ i ∧ i < (n : Int) := by unfold sHas at hi; simpa using hi
    exact h.step (by omega)
  · exact h
theorem MInv.ask (h : MInv tail first n m) (i : Int) : MInv tail first n (mBeg n m i 0 1) := by
  unfold mBeg
  split
  · rename_i hi
    unfold mBegOk sHas at hi
    simp at hi
    obtain ⟨hl, Q, L, c, o, ha⟩ := h
    exact ⟨hl, Q, L, c, o, ha.early (by omega) (by omega) (by omega) (fun _ _ => rfl) (fun _ _ => rfl) rfl ⟨rfl, rfl, rfl⟩ (fun e => absurd e (by omega)) (fun e => absurd e (by omega))⟩
  · exact h
theorem MInv.leave (h : MInv tail first n m) (i : Int) : MInv tail first n (mBeg n m i 10 11) := by
  unfold mBeg
  split
  · rename_i hi
    unfold mBegOk sHas at hi
    simp at hi
    obtain ⟨hl, Q, L, c, o, ha⟩ := h
    exact ⟨hl, Q, L, c, some i.toNat, ha.t10 (by omega) hi.2⟩
  · exact h
theorem MInv.act (h : MInv tail first n m) (kind i : Int) : MInv tail first n (mAct tail first n bud m kind i) := by
  unfold mAct
  split
  · exact h.stepI i
  · split
    · exact h.ask i
    · split
      · exact h.leave i
      · exact h
/-- at most one is in -/
theorem MInv.one (h : MInv tail first n m) {i j : Nat} (hi : i < n) (hj : j < n) (h1 : m.S i 0 = 10) (h2 : m.S j 0 = 10) : i = j := by
  obtain ⟨hl, Q, L, c, o, ha⟩ := h
  have e1 := ha.core.ownr i hi (by omega)
  have e2 := ha.core.ownr j hj (by omega)
  rw [e1] at e2
  simpa using e2
/-- an act is one op at most, and asks and leaves are none -/
theorem act_op (kind i : Int) : OpOk m.A (mAct tail first n bud m kind i).A ∧ (kind ≠ 0 → (mAct tail first n bud m kind i).A = m.A) := by
  unfold mAct
  split
  · refine ⟨?_, fun h => absurd ‹_› h⟩
    unfold mStepI
    split
    · exact op_go tail first n bud m i.toNat
    · exact op_refl _
  · refine ⟨?_, fun _ => ?_⟩ <;> (repeat' split) <;> (try unfold mBeg) <;> (repeat' split) <;> first | exact op_refl _ | rfl
/-- a lock as it was made -/
theorem MInv.new (A : AR) (hl : Lay tail first n A) (hz : ∀ i, (tail : Int) ≤ i → A.get i = 0) (hn : 1 ≤ n) : MInv tail first n ⟨A, ⟨0, 0, 0, 0⟩, 0, fun _ _ => 0⟩ := by
  have hfe := hl.fe
  refine ⟨hl, [], [], [], none, ?_, .inl ⟨rfl, hz _ (by omega), hz _ (by omega), trivial⟩, ⟨rfl, fun _ => rfl, fun a r e => by simp at e, rfl⟩⟩
  refine { nd := by simp, lt := by simp, mem := fun j _ h => ?_, idle := by simp, five := by simp, ownr := fun j _ h => ?_, own2 := by simp, pcs := fun _ _ => .inl (by simp), tl := hz _ (by omega), ql := trivial, w1 := by simp, p2 := fun j _ h => ?_, p3 := fun j _ h => ?_ }
  all_goals (simp only at h; omega)
end
end Go.Proofs.Ytacogelejffbhaa
