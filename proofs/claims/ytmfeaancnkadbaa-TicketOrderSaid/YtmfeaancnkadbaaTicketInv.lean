/- What keeps two slots from holding at once, and the order of the doorways, in plain Lean: for the laws TicketOne and TicketOrder. -/
import Derived.Test.YtmfeaancnkadbaaTicketAwake
namespace Go.Proofs.Ytmfeaancnkadbaa
open Go.RowKit

/-- the slot has a ticket -/
def KOwn (S : Nat → Nat → Int) (i : Nat) : Prop := S i 0 = 2 ∨ In S i
/-- D: the slots in the order of their doorways; V: how many have gone -/
structure KInv (n : Nat) (S : Nat → Nat → Int) (A : AR) (D : List Int) (V k : Nat) : Prop where
  taken : A.taken = 2
  len : A.ws.length = 100
  g1 : A.get 1 = D.length
  g2 : A.get 2 = V
  vle : V ≤ D.length
  dle : D.length ≤ k
  pcs : ∀ i, i < n → S i 0 = 0 ∨ S i 0 = 1 ∨ S i 0 = 2 ∨ S i 0 = 10 ∨ S i 0 = 11
  own : ∀ i, i < n → KOwn S i → ∃ t : Nat, S i 1 = (t : Int) ∧ V ≤ t ∧ D[t]? = some (i : Int)
  top : ∀ i, i < n → In S i → S i 1 = V
  owned : ∀ (t : Nat) (z : Int), V ≤ t → D[t]? = some z → ∃ i : Nat, z = (i : Int) ∧ i < n ∧ KOwn S i ∧ S i 1 = t
  ops0 : 0 ≤ A.ops
  ops1 : A.ops ≤ k

def kD (n : Nat) (S : Nat → Nat → Int) (D : List Int) (kind i : Int) : List Int := if kind = 0 ∧ sHas n i = true ∧ S i.toNat 0 = 1 then D ++ [i] else D
def kV (n : Nat) (S : Nat → Nat → Int) (V : Nat) (kind i : Int) : Nat := if kind = 0 ∧ sHas n i = true ∧ S i.toNat 0 = 11 then V + 1 else V

section
variable {n k V : Nat} {S T : Nat → Nat → Int} {A B : AR} {D : List Int}
theorem KInv.one (h : KInv n S A D V k) {i j : Nat} (hi : i < n) (hj : j < n) (h1 : KOwn S i) (h2 : KOwn S j) (he : S i 1 = S j 1) : i = j := by
  obtain ⟨t, a1, _, a3⟩ := h.own i hi h1
  obtain ⟨u, b1, _, b3⟩ := h.own j hj h2
  have : t = u := by omega
  subst this
  rw [a3] at b3
  have := Option.some.inj b3
  omega
theorem KInv.one_in (h : KInv n S A D V k) {i j : Nat} (hi : i < n) (hj : j < n) (h1 : In S i) (h2 : In S j) : i = j :=
  h.one hi hj (.inr h1) (.inr h2) (by rw [h.top i hi h1, h.top j hj h2])
theorem KInv.has1 (h : KInv n S A D V k) : A.has 1 = true := by unfold AR.has; rw [h.taken]; rfl
theorem KInv.has2 (h : KInv n S A D V k) : A.has 2 = true := by unfold AR.has; rw [h.taken]; rfl

/-- the arena may have done one op, the words as they were -/
structure Ops1 (A B : AR) : Prop where
  taken : B.taken = A.taken
  len : B.ws.length = A.ws.length
  ops : B.ops = A.ops ∨ B.ops = wrap64 (A.ops + 1)
theorem KInv.ops (h : KInv n S A D V k) (hk : k ≤ 3000) (ho : Ops1 A B) : 0 ≤ B.ops ∧ B.ops ≤ ((k + 1 : Nat) : Int) ∧ B.ops ≤ A.ops + 1 := by
  have h0 := h.ops0; have h1 := h.ops1
  have hw : wrap64 (A.ops + 1) = A.ops + 1 := by unfold wrap64; omega
  rcases ho.ops with e | e
  · omega
  · rw [hw] at e; omega
/-- nothing that counts becomes other -/
theorem KInv.still (h : KInv n S A D V k) (hk : k ≤ 3000) (ho : Ops1 A B) (e1 : B.get 1 = A.get 1) (e2 : B.get 2 = A.get 2)
    (hp : ∀ i, i < n → (KOwn T i ↔ KOwn S i) ∧ (In T i ↔ In S i) ∧ (KOwn S i → T i 1 = S i 1) ∧ (T i 0 = 0 ∨ T i 0 = 1 ∨ T i 0 = 2 ∨ T i 0 = 10 ∨ T i 0 = 11)) : KInv n T B D V (k + 1) := by
  obtain ⟨o0, o1, _⟩ := h.ops hk ho
  refine { taken := ho.taken.trans h.taken, len := ho.len.trans h.len, g1 := e1.trans h.g1, g2 := e2.trans h.g2, vle := h.vle, dle := by have := h.dle; omega, ops0 := o0, ops1 := o1, pcs := fun i hi => (hp i hi).2.2.2, own := ?_, top := ?_, owned := ?_ }
  · intro i hi ho
    have ho' := (hp i hi).1.1 ho
    rw [(hp i hi).2.2.1 ho']
    exact h.own i hi ho'
  · intro i hi ho
    have ho' := (hp i hi).2.1.1 ho
    rw [(hp i hi).2.2.1 (.inr ho')]
    exact h.top i hi ho'
  · intro t z ht hz
    obtain ⟨i, e, hi, ho, hs⟩ := h.owned t z ht hz
    exact ⟨i, e, hi, (hp i hi).1.2 ho, by rw [(hp i hi).2.2.1 ho]; exact hs⟩
theorem put_at (S : Nat → Nat → Int) (j t : Nat) (v : Int) (i u : Nat) : spPut S j t v i u = if i = j ∧ u = t then v else S i u := rfl
theorem KInv.draw (h : KInv n S A D V k) (hk : k ≤ 3000) (ho : Ops1 A B) (e1 : B.get 1 = A.get 1 + 1) (e2 : B.get 2 = A.get 2) {j : Nat} (hj : j < n) (hpc : S j 0 = 1) :
    KInv n (spPut (spPut S j 1 (A.get 1)) j 0 2) B (D ++ [(j : Int)]) V (k + 1) := by
  obtain ⟨o0, o1, _⟩ := h.ops hk ho
  have hsame : ∀ i, i ≠ j → ∀ t, spPut (spPut S j 1 (A.get 1)) j 0 2 i t = S i t := fun i hi t => by rw [put_at, put_at, if_neg (by simp [hi]), if_neg (by simp [hi])]
  have h0 : spPut (spPut S j 1 (A.get 1)) j 0 2 j 0 = 2 := by rw [put_at, if_pos (by simp)]
  have h1 : spPut (spPut S j 1 (A.get 1)) j 0 2 j 1 = D.length := by rw [put_at, if_neg (by simp), put_at, if_pos (by simp), h.g1]
  generalize spPut (spPut S j 1 (A.get 1)) j 0 2 = T at *
  have hown : ∀ i, i ≠ j → (KOwn T i ↔ KOwn S i) := fun i hi => by unfold KOwn In; rw [hsame i hi]
  have hin : ∀ i, i ≠ j → (In T i ↔ In S i) := fun i hi => by unfold In; rw [hsame i hi]
  refine { taken := ho.taken.trans h.taken, len := ho.len.trans h.len, g1 := ?_, g2 := e2.trans h.g2, vle := ?_, dle := ?_, ops0 := o0, ops1 := o1, pcs := ?_, own := ?_, top := ?_, owned := ?_ }
  · rw [e1, h.g1]; simp
  · have := h.vle; simp; omega
  · have := h.dle; simp; omega
  · intro i hi
    by_cases hij : i = j
    · subst hij; omega
    · rw [hsame i hij]; exact h.pcs i hi
  · intro i hi ho
    by_cases hij : i = j
    · subst hij
      exact ⟨D.length, h1, h.vle, by simp⟩
    · obtain ⟨t, a, b, c⟩ := h.own i hi ((hown i hij).1 ho)
      refine ⟨t, by rw [hsame i hij]; exact a, b, ?_⟩
      rw [List.getElem?_append_left (List.getElem?_eq_some_iff.1 c).1]; exact c
  · intro i hi ho
    by_cases hij : i = j
    · subst hij; unfold In at ho; omega
    · rw [hsame i hij]; exact h.top i hi ((hin i hij).1 ho)
  · intro t z ht hz
    by_cases hlt : t < D.length
    · rw [List.getElem?_append_left hlt] at hz
      obtain ⟨i, e, hi, ho, hs⟩ := h.owned t z ht hz
      have hij : i ≠ j := by rintro rfl; unfold KOwn In at ho; omega
      exact ⟨i, e, hi, (hown i hij).2 ho, by rw [hsame i hij]; exact hs⟩
    · have ht' : t = D.length := by
        have := (List.getElem?_eq_some_iff.1 hz).1
        simp at this; omega
      subst ht'
      have hz' : z = (j : Int) := by simpa using hz.symm
      exact ⟨j, hz', hj, .inl h0, h1⟩
theorem KInv.hit (h : KInv n S A D V k) (hk : k ≤ 3000) (ho : Ops1 A B) (e1 : B.get 1 = A.get 1) (e2 : B.get 2 = A.get 2) {j : Nat} (hj : j < n) (hpc : S j 0 = 2) (ht : S j 1 = V) :
    KInv n (spPut S j 0 10) B D V (k + 1) := by
  obtain ⟨o0, o1, _⟩ := h.ops hk ho
  have hsame : ∀ i, i ≠ j → ∀ t, spPut S j 0 10 i t = S i t := fun i hi t => by rw [put_at, if_neg (by simp [hi])]
  have h0 : spPut S j 0 10 j 0 = 10 := by rw [put_at, if_pos (by simp)]
  have h1 : ∀ i, spPut S j 0 10 i 1 = S i 1 := fun i => by rw [put_at, if_neg (by simp)]
  generalize spPut S j 0 10 = T at *
  have hown : ∀ i, (KOwn T i ↔ KOwn S i) := fun i => by
    by_cases hij : i = j
    · subst hij; unfold KOwn In; omega
    · unfold KOwn In; rw [hsame i hij]
  have hin : ∀ i, i ≠ j → (In T i ↔ In S i) := fun i hi => by unfold In; rw [hsame i hi]
  refine { taken := ho.taken.trans h.taken, len := ho.len.trans h.len, g1 := e1.trans h.g1, g2 := e2.trans h.g2, vle := h.vle, dle := by have := h.dle; omega, ops0 := o0, ops1 := o1, pcs := ?_, own := ?_, top := ?_, owned := ?_ }
  · intro i hi
    by_cases hij : i = j
    · subst hij; omega
    · rw [hsame i hij]; exact h.pcs i hi
  · intro i hi ho
    rw [h1 i]
    exact h.own i hi ((hown i).1 ho)
  · intro i hi ho
    rw [h1 i]
    by_cases hij : i = j
    · subst hij; exact ht
    · exact h.top i hi ((hin i hij).1 ho)
  · intro t z ht hz
    obtain ⟨i, e, hi, ho, hs⟩ := h.owned t z ht hz
    exact ⟨i, e, hi, (hown i).2 ho, by rw [h1 i]; exact hs⟩
theorem KInv.free (h : KInv n S A D V k) (hk : k ≤ 3000) (ho : Ops1 A B) (e1 : B.get 1 = A.get 1) (e2 : B.get 2 = V + 1) {j : Nat} (hj : j < n) (hpc : S j 0 = 11) :
    KInv n (spPut S j 0 0) B D (V + 1) (k + 1) := by
  obtain ⟨o0, o1, _⟩ := h.ops hk ho
  have hsame : ∀ i, i ≠ j → ∀ t, spPut S j 0 0 i t = S i t := fun i hi t => by rw [put_at, if_neg (by simp [hi])]
  have h0 : spPut S j 0 0 j 0 = 0 := by rw [put_at, if_pos (by simp)]
  generalize spPut S j 0 0 = T at *
  have hjin : In S j := .inr hpc
  have htv := h.top j hj hjin
  have hown : ∀ i, i ≠ j → (KOwn T i ↔ KOwn S i) := fun i hi => by unfold KOwn In; rw [hsame i hi]
  have hin : ∀ i, i ≠ j → (In T i ↔ In S i) := fun i hi => by unfold In; rw [hsame i hi]
  obtain ⟨tj, b1, b2, b3⟩ := h.own j hj (.inr hjin)
  have etj : tj = V := by omega
  subst etj
  refine { taken := ho.taken.trans h.taken, len := ho.len.trans h.len, g1 := e1.trans h.g1, g2 := by rw [e2]; simp, vle := (List.getElem?_eq_some_iff.1 b3).1, dle := by have := h.dle; omega, ops0 := o0, ops1 := o1, pcs := ?_, own := ?_, top := ?_, owned := ?_ }
  · intro i hi
    by_cases hij : i = j
    · subst hij; omega
    · rw [hsame i hij]; exact h.pcs i hi
  · intro i hi ho
    by_cases hij : i = j
    · subst hij; unfold KOwn In at ho; omega
    · obtain ⟨t, a, b, c⟩ := h.own i hi ((hown i hij).1 ho)
      refine ⟨t, by rw [hsame i hij]; exact a, ?_, c⟩
      by_cases he : t = tj
      · subst he
        rw [b3] at c
        have := Option.some.inj c
        omega
      · omega
  · intro i hi ho
    by_cases hij : i = j
    · subst hij; unfold In at ho; omega
    · exact absurd (h.one_in hi hj ((hin i hij).1 ho) hjin) hij
  · intro t z ht hz
    obtain ⟨i, e, hi, ho, hs⟩ := h.owned t z (by omega) hz
    have hij : i ≠ j := by rintro rfl; omega
    exact ⟨i, e, hi, (hown i hij).2 ho, by rw [hsame i hij]; exact hs⟩

theorem ops1_refl (A : AR) : Ops1 A A := ⟨rfl, rfl, .inl rfl⟩
theorem ops1_note (A : AR) (c i : Int) (wr : Bool) : Ops1 A (A.note c i wr) := ⟨rfl, rfl, .inr rfl⟩
theorem ops1_put (A : AR) (c i j v : Int) (wr : Bool) : Ops1 A ((A.note c i wr).put j v) := ⟨rfl, by unfold AR.put AR.note; simp, .inr rfl⟩
theorem get_put2 (A : AR) (ht : A.taken = 2) (hl : A.ws.length = 100) (c i : Int) (wr : Bool) (v : Int) :
    ((A.note c i wr).put 1 v).get 1 = v ∧ ((A.note c i wr).put 1 v).get 2 = A.get 2 ∧ ((A.note c i wr).put 2 v).get 2 = v ∧ ((A.note c i wr).put 2 v).get 1 = A.get 1 := by
  have h1 : A.has 1 = true := by unfold AR.has; rw [ht]; rfl
  have h2 : A.has 2 = true := by unfold AR.has; rw [ht]; rfl
  have g1 : ∀ B : AR, B.taken = A.taken → B.get 1 = B.ws[0]?.getD 0 := fun B hB => by unfold AR.get; rw [show B.has 1 = true from by unfold AR.has at *; rw [hB]; exact h1, if_pos rfl]; rfl
  have g2 : ∀ B : AR, B.taken = A.taken → B.get 2 = B.ws[1]?.getD 0 := fun B hB => by unfold AR.get; rw [show B.has 2 = true from by unfold AR.has at *; rw [hB]; exact h2, if_pos rfl]; rfl
  refine ⟨?_, ?_, ?_, ?_⟩
  · rw [g1 ((A.note c i wr).put 1 v) rfl]; show (A.ws.set 0 v)[0]?.getD 0 = v; rw [List.getElem?_set, if_pos rfl, if_pos (by omega)]; rfl
  · rw [g2 ((A.note c i wr).put 1 v) rfl, g2 A rfl]; show (A.ws.set 0 v)[1]?.getD 0 = _; rw [List.getElem?_set, if_neg (by omega)]
  · rw [g2 ((A.note c i wr).put 2 v) rfl]; show (A.ws.set 1 v)[1]?.getD 0 = v; rw [List.getElem?_set, if_pos rfl, if_pos (by omega)]; rfl
  · rw [g1 ((A.note c i wr).put 2 v) rfl, g1 A rfl]; show (A.ws.set 1 v)[0]?.getD 0 = _; rw [List.getElem?_set, if_neg (by omega)]

theorem KInv.do_ (h : KInv n S A D V k) (hk : k ≤ 3000) (kind i : Int) :
    KInv n (kDoS n 1 S A kind i) (kDoA n 1 S A kind i) (kD n S D kind i) (kV n S V kind i) (k + 1) ∧ (kDoA n 1 S A kind i).ops ≤ A.ops + 1 := by
  have hself : ∀ i, i < n → (KOwn S i ↔ KOwn S i) ∧ (In S i ↔ In S i) ∧ (KOwn S i → S i 1 = S i 1) ∧ (S i 0 = 0 ∨ S i 0 = 1 ∨ S i 0 = 2 ∨ S i 0 = 10 ∨ S i 0 = 11) := fun i hi => ⟨Iff.rfl, Iff.rfl, fun _ => rfl, h.pcs i hi⟩
  have ol := (h.ops hk (ops1_refl A)).2.2
  have on := fun c i wr => (h.ops hk (ops1_note A c i wr)).2.2
  have op := fun c i j v wr => (h.ops hk (ops1_put A c i j v wr)).2.2
  have hg1 := h.g1
  have hg2 := h.g2
  have hdl := h.dle
  have hvl := h.vle
  unfold kDoS kDoA kD kV
  by_cases k0 : kind = 0
  · simp only [if_pos k0]
    unfold kStepS kStepA
    cases hi : sHas n i with
    | false => simp only [Bool.false_eq_true, if_false, false_and, and_false]; exact ⟨h.still hk (ops1_refl A) rfl rfl hself, ol⟩
    | true =>
      have hi' : 0 ≤ i ∧ i < (n : Int) := by unfold sHas at hi; simpa using hi
      obtain ⟨j, rfl⟩ := Int.eq_ofNat_of_zero_le hi'.1
      have hj : j < n := by omega
      have ej : ((j : Int)).toNat = j := by omega
      simp only [if_true, ej, k0, true_and]
      by_cases q1 : S j 0 = 1
      · have q2 : ¬ S j 0 = 11 := by omega
        simp only [if_pos q1, if_neg q2]
        have hc : A.add ((1 : Nat) : Int) 1 = (A.note 5 1 true).put 1 (A.get 1 + 1) := by
          have hw : wrap64 (A.get 1 + 1) = A.get 1 + 1 := by unfold wrap64; omega
          unfold AR.add; show (if A.has 1 then (A.note 5 1 true).put 1 (wrap64 (A.get 1 + 1)) else A) = _; rw [h.has1, if_pos rfl, hw]
        have hr : wrap64 (A.addRes ((1 : Nat) : Int) 1 - 1) = A.get 1 := by
          have hw : wrap64 (A.get 1 + 1) = A.get 1 + 1 := by unfold wrap64; omega
          have hw2 : wrap64 (A.get 1 + 1 - 1) = A.get 1 := by unfold wrap64; omega
          unfold AR.addRes; show wrap64 ((if A.has 1 then wrap64 (A.get 1 + 1) else 0) - 1) = _; rw [h.has1, if_pos rfl, hw, hw2]
        rw [hc, hr]
        obtain ⟨p1, p2, _, _⟩ := get_put2 A h.taken h.len 5 1 true (A.get 1 + 1)
        exact ⟨h.draw hk (ops1_put A _ _ _ _ _) p1 p2 hj q1, op _ _ _ _ _⟩
      · simp only [if_neg q1]
        by_cases q2 : S j 0 = 2
        · have q3 : ¬ S j 0 = 11 := by omega
          simp only [if_pos q2, if_neg q3]
          have hc : A.load (((1 : Nat) : Int) + 1) = A.note 1 2 false := by unfold AR.load; show (if A.has 2 then A.note 1 2 false else A) = _; rw [h.has2, if_pos rfl]
          have hg : A.get (((1 : Nat) : Int) + 1) = A.get 2 := rfl
          rw [hc, hg]
          split
          · rename_i hhit
            exact ⟨h.hit hk (ops1_note A _ _ _) rfl rfl hj q2 (by rw [← hhit, hg2]), on _ _ _⟩
          · exact ⟨h.still hk (ops1_note A _ _ _) rfl rfl hself, on _ _ _⟩
        · simp only [if_neg q2]
          by_cases q3 : S j 0 = 11
          · simp only [if_pos q3]
            have htv := h.top j hj (.inr q3)
            have hc : A.store (((1 : Nat) : Int) + 1) (wrap64 (S j 1 + 1)) = (A.note 2 2 true).put 2 ((V : Int) + 1) := by
              have hw : wrap64 (S j 1 + 1) = (V : Int) + 1 := by unfold wrap64; omega
              rw [hw]; unfold AR.store; show (if A.has 2 then (A.note 2 2 true).put 2 ((V : Int) + 1) else A) = _; rw [h.has2, if_pos rfl]
            rw [hc]
            obtain ⟨_, _, p1, p2⟩ := get_put2 A h.taken h.len 2 2 true ((V : Int) + 1)
            exact ⟨h.free hk (ops1_put A _ _ _ _ _) p2 p1 hj q3, op _ _ _ _ _⟩
          · simp only [if_neg q3]; exact ⟨h.still hk (ops1_refl A) rfl rfl hself, ol⟩
  · simp only [k0, false_and, if_false]
    by_cases k1 : kind = 1
    · have k3 : ¬ kind = 3 := by omega
      simp only [if_pos k1, if_neg k3]
      unfold kTurn
      split
      · rename_i hok
        have hpc : S i.toNat 0 = 0 := by unfold kTurnOk at hok; simp at hok; exact hok.2
        refine ⟨h.still hk (ops1_refl A) rfl rfl fun j hj => ?_, ol⟩
        by_cases he : j = i.toNat
        · subst he
          refine ⟨?_, ?_, fun ho => ?_, ?_⟩
          · unfold KOwn In; rw [put_at, if_pos (by simp)]; omega
          · unfold In; rw [put_at, if_pos (by simp)]; omega
          · unfold KOwn In at ho; omega
          · rw [put_at, if_pos (by simp)]; omega
        · have e : ∀ t, spPut S i.toNat 0 1 j t = S j t := fun t => by rw [put_at, if_neg (by simp [he])]
          unfold KOwn In; rw [e, e]; exact ⟨Iff.rfl, Iff.rfl, fun _ => rfl, h.pcs j hj⟩
      · exact ⟨h.still hk (ops1_refl A) rfl rfl hself, ol⟩
    · simp only [if_neg k1]
      by_cases k2 : kind = 2
      · have k3 : ¬ kind = 3 := by omega
        simp only [if_pos k2, if_neg k3]
        unfold kTurn
        split
        · rename_i hok
          have hpc : S i.toNat 0 = 10 := by unfold kTurnOk at hok; simp at hok; exact hok.2
          refine ⟨h.still hk (ops1_refl A) rfl rfl fun j hj => ?_, ol⟩
          by_cases he : j = i.toNat
          · subst he
            refine ⟨?_, ?_, fun ho => ?_, ?_⟩
            · unfold KOwn In; rw [put_at, if_pos (by simp)]; omega
            · unfold In; rw [put_at, if_pos (by simp)]; omega
            · rw [put_at, if_neg (by simp)]
            · rw [put_at, if_pos (by simp)]; omega
          · have e : ∀ t, spPut S i.toNat 0 11 j t = S j t := fun t => by rw [put_at, if_neg (by simp [he])]
            unfold KOwn In; rw [e, e]; exact ⟨Iff.rfl, Iff.rfl, fun _ => rfl, h.pcs j hj⟩
        · exact ⟨h.still hk (ops1_refl A) rfl rfl hself, ol⟩
      · simp only [if_neg k2]
        split
        · unfold kAlA
          split
          · have hc : A.load ((1 : Nat) : Int) = A.note 1 1 false := by unfold AR.load; show (if A.has 1 then A.note 1 1 false else A) = _; rw [h.has1, if_pos rfl]
            rw [hc]
            exact ⟨h.still hk (ops1_note A _ _ _) rfl rfl hself, on _ _ _⟩
          · exact ⟨h.still hk (ops1_refl A) rfl rfl hself, ol⟩
        · exact ⟨h.still hk (ops1_refl A) rfl rfl hself, ol⟩
/-- asks and leaves touch no word and are no op; refused, they change nothing -/
theorem kDo_no {kind i : Int} (hk : kind = 1 ∨ kind = 2) (h : kDoR n 1 S A kind i = false) : kDoS n 1 S A kind i = S := by
  unfold kDoR at h
  unfold kDoS
  have k0 : ¬ kind = 0 := by omega
  rw [if_neg k0] at h
  simp only [if_neg k0]
  by_cases k1 : kind = 1
  · rw [if_pos k1] at h ⊢; unfold kTurn; rw [h]; rfl
  · have k2 : kind = 2 := by omega
    rw [if_neg k1, if_pos k2] at h; rw [if_neg k1, if_pos k2]; unfold kTurn; rw [h]; rfl
theorem kDo_ar {kind i : Int} (hk : kind = 1 ∨ kind = 2) : kDoA n 1 S A kind i = A := by
  unfold kDoA
  rw [if_neg (by omega), if_neg (by omega)]
theorem kDo_words {kind i : Int} (hk : ¬ kind = 0) : (kDoA n 1 S A kind i).words = A.words := by
  unfold kDoA
  rw [if_neg hk]
  split
  · unfold kAlA
    split
    · unfold AR.load; split <;> rfl
    · rfl
  · rfl
/-- who is not alone has somebody behind it -/
theorem KInv.behind (h : KInv n S A D V k) (hk : k ≤ 3000) {i : Int} (hi : sHas n i = true) (hp : S i.toNat 0 = 10) (hr : kAlR n 1 S A i = false) : ∃ j, j < n ∧ S j 0 = 2 := by
  have hi' : 0 ≤ i ∧ i < (n : Int) := by unfold sHas at hi; simpa using hi
  obtain ⟨j, rfl⟩ := Int.eq_ofNat_of_zero_le hi'.1
  have hj : j < n := by omega
  have ej : ((j : Int)).toNat = j := by omega
  rw [ej] at hp
  have htv := h.top j hj (.inl hp)
  have hdl := h.dle
  have hvl := h.vle
  have hne : ¬ A.get 1 = (V : Int) + 1 := by
    intro he
    have hw : wrap64 (S j 1 + 1) = (V : Int) + 1 := by unfold wrap64; omega
    unfold kAlR kTurnOk at hr
    rw [hi, ej, hp, hw] at hr
    have : A.get ((1 : Nat) : Int) = (V : Int) + 1 := he
    rw [this] at hr
    simp at hr
  rw [h.g1] at hne
  obtain ⟨t, a, b, c⟩ := h.own j hj (.inr (.inl hp))
  have et : t = V := by omega
  subst et
  have hlt := (List.getElem?_eq_some_iff.1 c).1
  have hlt2 : t + 1 < D.length := by omega
  obtain ⟨z, hz⟩ : ∃ z, D[t + 1]? = some z := ⟨_, List.getElem?_eq_getElem hlt2⟩
  obtain ⟨q, -, hq, ho, hs⟩ := h.owned (t + 1) z (by omega) hz
  rcases ho with ho | ho
  · exact ⟨q, hq, ho⟩
  · have := h.top q hq ho; omega
end

end Go.Proofs.Ytmfeaancnkadbaa
