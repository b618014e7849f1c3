/- The malthus lock's invariant stands behind each step: the words as the arena has them. -/
import Derived.Test.YtacogelejffbhaaMalOwn
namespace Go.Proofs.Ytacogelejffbhaa
open Go.RowKit

/-- where the lock's words lie -/
structure Lay (tail first n : Nat) (A : AR) : Prop where
  fe : first = tail + 2 + 2 * n
  tk : A.taken = first + 1 + n
  ln : A.taken ≤ A.ws.length
  t1 : 1 ≤ tail
  tb : tail ≤ 4000
  nb : n ≤ 32
def wv (tail first n : Nat) (A : AR) : WV :=
  { tl := A.get tail, nx := fun j => if j < n then A.get (tail + 2 * ((j : Int) + 1)) else 0, wt := fun j => if j < n then A.get (tail + 2 * ((j : Int) + 1) + 1) else 0, bf := A.get first, bl := A.get ((first : Int) + 1), lk := fun j => if j < n then A.get ((first : Int) + 2 + j) else 0 }
section
variable {tail first n : Nat} {A : AR} {j : Nat}
theorem mNext_eq (hl : Lay tail first n A) (hj : j < n) : mNext tail ((j : Int) + 1) = tail + 2 * ((j : Int) + 1) := by have := hl.tb; have := hl.nb; unfold mNext wrap64; omega
theorem mWait_eq (hl : Lay tail first n A) (hj : j < n) : mWait tail ((j : Int) + 1) = tail + 2 * ((j : Int) + 1) + 1 := by have := hl.tb; have := hl.nb; unfold mWait wrap64; omega
theorem mLink_eq (hl : Lay tail first n A) (hj : j < n) : bLink first ((j : Int) + 1) = (first : Int) + 2 + j := by have := hl.tb; have := hl.nb; have := hl.fe; unfold bLink wrap64; omega
theorem np_get (A : AR) (k i : Int) (wr : Bool) (v x : Int) (hi : A.has i = true) (hl : A.taken ≤ A.ws.length) : ((A.note k i wr).put i v).get x = if x = i then v else A.get x := by
  have hh : 1 ≤ i ∧ i ≤ (A.taken : Int) := by unfold AR.has at hi; simpa using hi
  show (if A.has x then (A.ws.set (i.toNat - 1) v)[x.toNat - 1]?.getD 0 else 0) = _
  by_cases hj : x = i
  · subst hj
    rw [hi, if_pos rfl, if_pos rfl, List.getElem?_set, if_pos rfl, if_pos (by omega)]; rfl
  · rw [if_neg hj]
    unfold AR.get
    cases hk : A.has x with
    | false => rfl
    | true =>
      have hh2 : 1 ≤ x ∧ x ≤ (A.taken : Int) := by unfold AR.has at hk; simpa using hk
      rw [if_pos rfl, if_pos rfl, List.getElem?_set, if_neg (by omega)]
/-- what an op may leave -/
structure OpOk (A A' : AR) : Prop where
  tk : A'.taken = A.taken
  ln : A'.ws.length = A.ws.length
  op : A'.ops = A.ops ∨ A'.ops = wrap64 (A.ops + 1)
theorem OpOk.lay {A' : AR} (h : OpOk A A') (hl : Lay tail first n A) : Lay tail first n A' := { hl with tk := by rw [h.tk]; exact hl.tk, ln := by rw [h.tk, h.ln]; exact hl.ln }
theorem op_refl (A : AR) : OpOk A A := ⟨rfl, rfl, .inl rfl⟩
theorem op_note (A : AR) (k i : Int) (wr : Bool) : OpOk A (A.note k i wr) := ⟨rfl, rfl, .inr rfl⟩
theorem op_put (A : AR) (k i : Int) (wr : Bool) (v : Int) : OpOk A ((A.note k i wr).put i v) := ⟨rfl, by unfold AR.put AR.note; simp, .inr rfl⟩
theorem op_load (A : AR) (i : Int) : OpOk A (A.load i) := by unfold AR.load; split; exact op_note _ _ _ _; exact op_refl _
theorem op_store (A : AR) (i v : Int) : OpOk A (A.store i v) := by unfold AR.store; split; exact op_put _ _ _ _ _; exact op_refl _
theorem op_swap (A : AR) (i v : Int) : OpOk A (A.swap i v) := by unfold AR.swap; split; exact op_put _ _ _ _ _; exact op_refl _
theorem op_add (A : AR) (i v : Int) : OpOk A (A.add i v) := by unfold AR.add; split; exact op_put _ _ _ _ _; exact op_refl _
theorem op_cas (A : AR) (i o v : Int) : OpOk A (A.cas i o v) := by
  unfold AR.cas; split
  · split
    · exact op_put _ _ _ _ _
    · exact op_note _ _ _ _
  · exact op_refl _
theorem op_bench (f : Nat) (A : AR) (B : BK) : OpOk A (bStepA f A B) := by
  unfold bStepA
  (repeat' split) <;> first | exact op_store _ _ _ | exact op_load _ _ | exact op_refl _
theorem ite_op {A : AR} {c : Prop} [Decidable c] {a b : MS × Int} (h1 : OpOk A a.1.A) (h2 : OpOk A b.1.A) : OpOk A (if c then a else b).1.A := by split; exact h1; exact h2
theorem op_go1 (t f k : Nat) (bud : Int) (m : MS) (i : Nat) : OpOk m.A (mGo1 t f k bud m i).1.A := by unfold mGo1; exact op_store _ _ _
theorem op_go2 (t f k : Nat) (bud : Int) (m : MS) (i : Nat) : OpOk m.A (mGo2 t f k bud m i).1.A := by unfold mGo2; exact op_store _ _ _
theorem op_go3 (t f k : Nat) (bud : Int) (m : MS) (i : Nat) : OpOk m.A (mGo3 t f k bud m i).1.A := by unfold mGo3; split <;> exact op_swap _ _ _
theorem op_go4 (t f k : Nat) (bud : Int) (m : MS) (i : Nat) : OpOk m.A (mGo4 t f k bud m i).1.A := by unfold mGo4; exact op_store _ _ _
theorem op_go5 (t f k : Nat) (bud : Int) (m : MS) (i : Nat) : OpOk m.A (mGo5 t f k bud m i).1.A := by unfold mGo5; split <;> exact op_load _ _
theorem op_go11 (t f k : Nat) (bud : Int) (m : MS) (i : Nat) : OpOk m.A (mGo11 t f k bud m i).1.A := by unfold mGo11; exact op_add _ _ _
theorem op_go12 (t f k : Nat) (bud : Int) (m : MS) (i : Nat) : OpOk m.A (mGo12 t f k bud m i).1.A := by unfold mGo12; split <;> exact op_load _ _
theorem op_go13 (t f k : Nat) (bud : Int) (m : MS) (i : Nat) : OpOk m.A (mGo13 t f k bud m i).1.A := by unfold mGo13; split <;> exact op_bench _ _ _
theorem op_go14 (t f k : Nat) (bud : Int) (m : MS) (i : Nat) : OpOk m.A (mGo14 t f k bud m i).1.A := by unfold mGo14; exact op_store _ _ _
theorem op_go15 (t f k : Nat) (bud : Int) (m : MS) (i : Nat) : OpOk m.A (mGo15 t f k bud m i).1.A := by unfold mGo15; exact op_store _ _ _
theorem op_go16 (t f k : Nat) (bud : Int) (m : MS) (i : Nat) : OpOk m.A (mGo16 t f k bud m i).1.A := by unfold mGo16; split <;> exact op_cas _ _ _ _
theorem op_go17 (t f k : Nat) (bud : Int) (m : MS) (i : Nat) : OpOk m.A (mGo17 t f k bud m i).1.A := by unfold mGo17; split <;> exact op_load _ _
theorem op_go18 (t f k : Nat) (bud : Int) (m : MS) (i : Nat) : OpOk m.A (mGo18 t f k bud m i).1.A := by unfold mGo18; exact op_store _ _ _
theorem op_go19 (t f k : Nat) (bud : Int) (m : MS) (i : Nat) : OpOk m.A (mGo19 t f k bud m i).1.A := by unfold mGo19; split <;> exact op_cas _ _ _ _
theorem op_go20 (t f k : Nat) (bud : Int) (m : MS) (i : Nat) : OpOk m.A (mGo20 t f k bud m i).1.A := by unfold mGo20; split <;> exact op_load _ _
theorem op_go21 (t f k : Nat) (bud : Int) (m : MS) (i : Nat) : OpOk m.A (mGo21 t f k bud m i).1.A := by unfold mGo21; split <;> exact op_load _ _
theorem op_go22 (t f k : Nat) (bud : Int) (m : MS) (i : Nat) : OpOk m.A (mGo22 t f k bud m i).1.A := by unfold mGo22; split <;> exact op_bench _ _ _
theorem op_go23 (t f k : Nat) (bud : Int) (m : MS) (i : Nat) : OpOk m.A (mGo23 t f k bud m i).1.A := by unfold mGo23; exact op_store _ _ _
theorem op_go24 (t f k : Nat) (bud : Int) (m : MS) (i : Nat) : OpOk m.A (mGo24 t f k bud m i).1.A := by unfold mGo24; exact op_store _ _ _
theorem op_go (t f k : Nat) (bud : Int) (m : MS) (i : Nat) : OpOk m.A (mGo t f k bud m i).1.A := by
  unfold mGo
  exact ite_op (op_go1 _ _ _ _ _ _) (ite_op (op_go2 _ _ _ _ _ _) (ite_op (op_go3 _ _ _ _ _ _) (ite_op (op_go4 _ _ _ _ _ _) (ite_op (op_go5 _ _ _ _ _ _) (ite_op (op_go11 _ _ _ _ _ _) (ite_op (op_go12 _ _ _ _ _ _) (ite_op (op_go13 _ _ _ _ _ _) (ite_op (op_go14 _ _ _ _ _ _) (ite_op (op_go15 _ _ _ _ _ _) (ite_op (op_go16 _ _ _ _ _ _) (ite_op (op_go17 _ _ _ _ _ _) (ite_op (op_go18 _ _ _ _ _ _) (ite_op (op_go19 _ _ _ _ _ _) (ite_op (op_go20 _ _ _ _ _ _) (ite_op (op_go21 _ _ _ _ _ _) (ite_op (op_go22 _ _ _ _ _ _) (ite_op (op_go23 _ _ _ _ _ _) (ite_op (op_go24 _ _ _ _ _ _) (op_refl _)))))))))))))))))))
theorem has_in (hl : Lay tail first n A) {i : Int} (h1 : 1 ≤ i) (h2 : i ≤ (first : Int) + 1 + n) : A.has i = true := by unfold AR.has; rw [hl.tk]; simp; omega
theorem wv_ext {a b : WV} (h1 : a.tl = b.tl) (h2 : ∀ k, a.nx k = b.nx k) (h3 : ∀ k, a.wt k = b.wt k) (h4 : a.bf = b.bf) (h5 : a.bl = b.bl) (h6 : ∀ k, a.lk k = b.lk k) : a = b := by
  cases a; cases b
  simp only at h1 h2 h3 h4 h5 h6
  subst h1 h4 h5
  obtain rfl := funext h2
  obtain rfl := funext h3
  obtain rfl := funext h6
  rfl
theorem wv_same {A' : AR} (h : ∀ i, A'.get i = A.get i) : wv tail first n A' = wv tail first n A := by
  unfold wv; simp only [h]
theorem wv_load (i : Int) : wv tail first n (A.load i) = wv tail first n A := wv_same fun x => (by unfold AR.load; split <;> rfl)
theorem wv_note (k i : Int) (wr : Bool) : wv tail first n (A.note k i wr) = wv tail first n A := wv_same fun _ => rfl
theorem wv_tail {A' : AR} {v : Int} (hl : Lay tail first n A) (h : ∀ i, A'.get i = if i = (tail : Int) then v else A.get i) : wv tail first n A' = { wv tail first n A with tl := v } := by
  have := hl.fe
  refine wv_ext ?_ (fun k => ?_) (fun k => ?_) ?_ ?_ (fun k => ?_)
  · show A'.get tail = v; rw [h, if_pos rfl]
  · show (if k < n then A'.get _ else 0) = (if k < n then A.get _ else 0); split; rw [h, if_neg (by omega)]; rfl
  · show (if k < n then A'.get _ else 0) = (if k < n then A.get _ else 0); split; rw [h, if_neg (by omega)]; rfl
  · show A'.get _ = A.get _; rw [h, if_neg (by omega)]
  · show A'.get _ = A.get _; rw [h, if_neg (by omega)]
  · show (if k < n then A'.get _ else 0) = (if k < n then A.get _ else 0); split; rw [h, if_neg (by omega)]; rfl
theorem wv_none {A' : AR} {v : Int} (hl : Lay tail first n A) (h : ∀ i, A'.get i = if i = (tail : Int) + 1 then v else A.get i) : wv tail first n A' = wv tail first n A := by
  have := hl.fe
  refine wv_ext ?_ (fun k => ?_) (fun k => ?_) ?_ ?_ (fun k => ?_)
  · show A'.get tail = _; rw [h, if_neg (by omega)]; rfl
  · show (if k < n then A'.get _ else 0) = (if k < n then A.get _ else 0); split; rw [h, if_neg (by omega)]; rfl
  · show (if k < n then A'.get _ else 0) = (if k < n then A.get _ else 0); split; rw [h, if_neg (by omega)]; rfl
  · show A'.get _ = A.get _; rw [h, if_neg (by omega)]
  · show A'.get _ = A.get _; rw [h, if_neg (by omega)]
  · show (if k < n then A'.get _ else 0) = (if k < n then A.get _ else 0); split; rw [h, if_neg (by omega)]; rfl
theorem wv_next {A' : AR} {v : Int} (hl : Lay tail first n A) (hj : j < n) (h : ∀ i, A'.get i = if i = (tail : Int) + 2 * ((j : Int) + 1) then v else A.get i) : wv tail first n A' = { wv tail first n A with nx := upd (wv tail first n A).nx j v } := by
  have := hl.fe
  refine wv_ext ?_ (fun k => ?_) (fun k => ?_) ?_ ?_ (fun k => ?_)
  · show A'.get tail = _; rw [h, if_neg (by omega)]; rfl
  · show (if k < n then A'.get _ else 0) = upd (wv tail first n A).nx j v k
    by_cases e : k = j
    · subst e; rw [if_pos hj, upd_eq, h, if_pos rfl]
    · rw [upd_ne _ _ e]; show _ = (if k < n then A.get _ else 0); split; rw [h, if_neg (by omega)]; rfl
  · show (if k < n then A'.get _ else 0) = (if k < n then A.get _ else 0); split; rw [h, if_neg (by omega)]; rfl
  · show A'.get _ = A.get _; rw [h, if_neg (by omega)]
  · show A'.get _ = A.get _; rw [h, if_neg (by omega)]
  · show (if k < n then A'.get _ else 0) = (if k < n then A.get _ else 0); split; rw [h, if_neg (by omega)]; rfl
theorem wv_wait {A' : AR} {v : Int} (hl : Lay tail first n A) (hj : j < n) (h : ∀ i, A'.get i = if i = (tail : Int) + 2 * ((j : Int) + 1) + 1 then v else A.get i) : wv tail first n A' = { wv tail first n A with wt := upd (wv tail first n A).wt j v } := by
  have := hl.fe
  refine wv_ext ?_ (fun k => ?_) (fun k => ?_) ?_ ?_ (fun k => ?_)
  · show A'.get tail = _; rw [h, if_neg (by omega)]; rfl
  · show (if k < n then A'.get _ else 0) = (if k < n then A.get _ else 0); split; rw [h, if_neg (by omega)]; rfl
  · show (if k < n then A'.get _ else 0) = upd (wv tail first n A).wt j v k
    by_cases e : k = j
    · subst e; rw [if_pos hj, upd_eq, h, if_pos rfl]
    · rw [upd_ne _ _ e]; show _ = (if k < n then A.get _ else 0); split; rw [h, if_neg (by omega)]; rfl
  · show A'.get _ = A.get _; rw [h, if_neg (by omega)]
  · show A'.get _ = A.get _; rw [h, if_neg (by omega)]
  · show (if k < n then A'.get _ else 0) = (if k < n then A.get _ else 0); split; rw [h, if_neg (by omega)]; rfl
theorem wv_bf {A' : AR} {v : Int} (hl : Lay tail first n A) (h : ∀ i, A'.get i = if i = (first : Int) then v else A.get i) : wv tail first n A' = { wv tail first n A with bf := v } := by
  have := hl.fe
  refine wv_ext ?_ (fun k => ?_) (fun k => ?_) ?_ ?_ (fun k => ?_)
  · show A'.get tail = _; rw [h, if_neg (by omega)]; rfl
  · show (if k < n then A'.get _ else 0) = (if k < n then A.get _ else 0); split; rw [h, if_neg (by omega)]; rfl
  · show (if k < n then A'.get _ else 0) = (if k < n then A.get _ else 0); split; rw [h, if_neg (by omega)]; rfl
  · show A'.get _ = v; rw [h, if_pos rfl]
  · show A'.get _ = A.get _; rw [h, if_neg (by omega)]
  · show (if k < n then A'.get _ else 0) = (if k < n then A.get _ else 0); split; rw [h, if_neg (by omega)]; rfl
theorem wv_bl {A' : AR} {v : Int} (hl : Lay tail first n A) (h : ∀ i, A'.get i = if i = (first : Int) + 1 then v else A.get i) : wv tail first n A' = { wv tail first n A with bl := v } := by
  have := hl.fe
  refine wv_ext ?_ (fun k => ?_) (fun k => ?_) ?_ ?_ (fun k => ?_)
  · show A'.get tail = _; rw [h, if_neg (by omega)]; rfl
  · show (if k < n then A'.get _ else 0) = (if k < n then A.get _ else 0); split; rw [h, if_neg (by omega)]; rfl
  · show (if k < n then A'.get _ else 0) = (if k < n then A.get _ else 0); split; rw [h, if_neg (by omega)]; rfl
  · show A'.get _ = A.get _; rw [h, if_neg (by omega)]
  · show A'.get _ = v; rw [h, if_pos rfl]
  · show (if k < n then A'.get _ else 0) = (if k < n then A.get _ else 0); split; rw [h, if_neg (by omega)]; rfl
theorem wv_lk {A' : AR} {v : Int} (hl : Lay tail first n A) (hj : j < n) (h : ∀ i, A'.get i = if i = (first : Int) + 2 + j then v else A.get i) : wv tail first n A' = { wv tail first n A with lk := upd (wv tail first n A).lk j v } := by
  have := hl.fe
  refine wv_ext ?_ (fun k => ?_) (fun k => ?_) ?_ ?_ (fun k => ?_)
  · show A'.get tail = _; rw [h, if_neg (by omega)]; rfl
  · show (if k < n then A'.get _ else 0) = (if k < n then A.get _ else 0); split; rw [h, if_neg (by omega)]; rfl
  · show (if k < n then A'.get _ else 0) = (if k < n then A.get _ else 0); split; rw [h, if_neg (by omega)]; rfl
  · show A'.get _ = A.get _; rw [h, if_neg (by omega)]
  · show A'.get _ = A.get _; rw [h, if_neg (by omega)]
  · show (if k < n then A'.get _ else 0) = upd (wv tail first n A).lk j v k
    by_cases e : k = j
    · subst e; rw [if_pos hj, upd_eq, h, if_pos rfl]
    · rw [upd_ne _ _ e]; show _ = (if k < n then A.get _ else 0); split; rw [h, if_neg (by omega)]; rfl
theorem st_get (hl : Lay tail first n A) {i : Int} (v : Int) (h1 : 1 ≤ i) (h2 : i ≤ (first : Int) + 1 + n) : ∀ x, (A.store i v).get x = if x = i then v else A.get x := fun x => by
  have hi := has_in hl h1 h2
  have e : A.store i v = (A.note 2 i true).put i v := by unfold AR.store; rw [hi, if_pos rfl]
  rw [e]; exact np_get A 2 i true v x hi hl.ln
theorem st_next (hl : Lay tail first n A) (hj : j < n) (v : Int) : wv tail first n (A.store (mNext tail ((j : Int) + 1)) v) = { wv tail first n A with nx := upd (wv tail first n A).nx j v } := by
  have := hl.fe
  rw [mNext_eq hl hj]; exact wv_next hl hj (st_get hl v (by omega) (by omega))
theorem st_wait (hl : Lay tail first n A) (hj : j < n) (v : Int) : wv tail first n (A.store (mWait tail ((j : Int) + 1)) v) = { wv tail first n A with wt := upd (wv tail first n A).wt j v } := by
  have := hl.fe
  rw [mWait_eq hl hj]; exact wv_wait hl hj (st_get hl v (by omega) (by omega))
theorem nx_get (hl : Lay tail first n A) (hj : j < n) : A.get (mNext tail ((j : Int) + 1)) = (wv tail first n A).nx j := by rw [mNext_eq hl hj]; show _ = (if j < n then _ else _); rw [if_pos hj]
theorem wt_get (hl : Lay tail first n A) (hj : j < n) : A.get (mWait tail ((j : Int) + 1)) = (wv tail first n A).wt j := by rw [mWait_eq hl hj]; show _ = (if j < n then _ else _); rw [if_pos hj]
theorem lk_get (hl : Lay tail first n A) (hj : j < n) : A.get (bLink first ((j : Int) + 1)) = (wv tail first n A).lk j := by rw [mLink_eq hl hj]; show _ = (if j < n then _ else _); rw [if_pos hj]
theorem sw_tail (hl : Lay tail first n A) (v : Int) : wv tail first n (A.swap tail v) = { wv tail first n A with tl := v } := by
  have := hl.fe; have := hl.t1
  have hi := has_in hl (i := (tail : Int)) (by omega) (by omega)
  have e : A.swap tail v = (A.note 3 tail true).put tail v := by unfold AR.swap; rw [hi, if_pos rfl]
  rw [e]; exact wv_tail hl fun x => np_get A 3 tail true v x hi hl.ln
theorem cas_tail (hl : Lay tail first n A) (o v : Int) : A.casOk tail o = decide ((wv tail first n A).tl = o) ∧ wv tail first n (A.cas tail o v) = (if (wv tail first n A).tl = o then { wv tail first n A with tl := v } else wv tail first n A) := by
  have := hl.fe; have := hl.t1
  have hi := has_in hl (i := (tail : Int)) (by omega) (by omega)
  refine ⟨by unfold AR.casOk; rw [hi]; rfl, ?_⟩
  by_cases h : A.get tail = o
  · have e : A.cas tail o v = (A.note 4 tail true).put tail v := by unfold AR.cas; rw [hi, if_pos rfl, if_pos h]
    rw [e, if_pos (show (wv tail first n A).tl = o from h)]; exact wv_tail hl fun x => np_get A 4 tail true v x hi hl.ln
  · have e : A.cas tail o v = A.note 4 tail false := by unfold AR.cas; rw [hi, if_pos rfl, if_neg h]
    rw [e, if_neg (show ¬ (wv tail first n A).tl = o from h)]; exact wv_note _ _ _
theorem add_none (hl : Lay tail first n A) (v : Int) : wv tail first n (A.add (tail + 1) v) = wv tail first n A := by
  have := hl.fe; have := hl.t1
  have hi := has_in hl (i := (tail : Int) + 1) (by omega) (by omega)
  have e : A.add (tail + 1) v = (A.note 5 (tail + 1) true).put (tail + 1) (wrap64 (A.get (tail + 1) + v)) := by unfold AR.add; rw [hi, if_pos rfl]
  rw [e]; exact wv_none hl fun x => np_get A 5 (tail + 1) true _ x hi hl.ln
/-- the bench's step, seen by the words -/
theorem bb_conn {B : BK} {L : List Nat} (hl : Lay tail first n A) (h : BP (wv tail first n A) B L) (hL : ∀ y ∈ L, y < n) (hx : 1 ≤ B.step ∧ B.step ≤ 4 → ∃ a : Nat, a < n ∧ B.x = (a : Int) + 1) :
    bStepR first A B = bbR (wv tail first n A) B ∧ bStepB first A B = bbB (wv tail first n A) B ∧ wv tail first n (bStepA first A B) = bbW (wv tail first n A) B := by
  obtain ⟨st, x, nn, got⟩ := B
  have hfe := hl.fe
  have ht1 := hl.t1
  unfold BP at h
  simp only at h hx
  refine ⟨rfl, ?_, ?_⟩
  · by_cases h6 : st = 6
    · subst h6
      rcases h with h | h | h | h | h | h | h | h | h
      · omega
      · omega
      · obtain ⟨_, _, y, r, rfl, rfl⟩ := h
        unfold bStepB bbB
        simp
        rw [lk_get hl (hL y (by simp))]
      all_goals omega
    · unfold bStepB bbB
      simp [h6]
      rfl
  · rcases h with h | h | h | h | h | h | h | h | h
    · obtain ⟨rfl, _⟩ := h; unfold bStepA bbW; simp
    · obtain ⟨rfl, _⟩ := h; unfold bStepA bbW; simp [wv_load]
    · obtain ⟨rfl, _⟩ := h; unfold bStepA bbW; simp [wv_load]
    · obtain ⟨rfl, _⟩ := h; unfold bStepA bbW; simp; exact wv_bf hl (st_get hl _ (by omega) (by omega))
    · obtain ⟨rfl, _⟩ := h; unfold bStepA bbW; simp; exact wv_bl hl (st_get hl _ (by omega) (by omega))
    · obtain ⟨rfl, _⟩ := h
      obtain ⟨a, ha, rfl⟩ := hx (by omega)
      unfold bStepA bbW; simp
      rw [mLink_eq hl ha]; exact wv_lk hl ha (st_get hl _ (by omega) (by omega))
    · obtain ⟨rfl, _⟩ := h; unfold bStepA bbW; simp [wv_load]
    · obtain ⟨rfl, hr, _, _, _, rfl⟩ := h
      obtain ⟨a, ha, rfl⟩ := hx (by omega)
      by_cases hn : (wv tail first n A).bl = 0
      · have e1 : bStepA first A ⟨3, (a : Int) + 1, (wv tail first n A).bl, got⟩ = A.store first ((a : Int) + 1) := by unfold bStepA; simp [hn]
        have e2 : bbW (wv tail first n A) ⟨3, (a : Int) + 1, (wv tail first n A).bl, got⟩ = { wv tail first n A with bf := (a : Int) + 1 } := by unfold bbW; rw [if_neg (by simp), if_pos rfl, if_pos hn]
        rw [e1, e2]
        exact wv_bf hl (st_get hl _ (by omega) (by omega))
      · have hne : L ≠ [] := fun e => hn (by rw [hr.la, e]; rfl)
        obtain ⟨z, hz, e⟩ := lst_mem L hne
        have hzn := hL z hz
        have e1 : bStepA first A ⟨3, (a : Int) + 1, (wv tail first n A).bl, got⟩ = A.store (bLink first (wv tail first n A).bl) ((a : Int) + 1) := by unfold bStepA; simp [hn]
        have e2 : bbW (wv tail first n A) ⟨3, (a : Int) + 1, (wv tail first n A).bl, got⟩ = { wv tail first n A with lk := upd (wv tail first n A).lk ((wv tail first n A).bl - 1).toNat ((a : Int) + 1) } := by unfold bbW; rw [if_neg (by simp), if_pos rfl, if_neg hn]
        rw [e1, e2]
        have ez : ((wv tail first n A).bl - 1).toNat = z := by rw [hr.la, e]; omega
        rw [ez, show (wv tail first n A).bl = (z : Int) + 1 by rw [hr.la, e], mLink_eq hl hzn]
        exact wv_lk hl hzn (st_get hl _ (by omega) (by omega))
    · obtain ⟨rfl, _⟩ := h; unfold bStepA bbW; simp; exact wv_bl hl (st_get hl _ (by omega) (by omega))
end
end Go.Proofs.Ytacogelejffbhaa
