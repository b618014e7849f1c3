/- Why whoever asks holds some time, in plain Lean: for the law TasAll. -/
import Derived.Test.YtmfeaancnkadbaaTasInv
namespace Go.Proofs.Ytmfeaancnkadbaa
open Go.RowKit

/-- how many below n -/
def cnt (p : Nat → Bool) : Nat → Nat
  | 0 => 0
  | n + 1 => cnt p n + (if p n then 1 else 0)
theorem cnt_congr {p q : Nat → Bool} : ∀ {n : Nat}, (∀ i, i < n → p i = q i) → cnt p n = cnt q n
  | 0, _ => rfl
  | n + 1, h => by unfold cnt; rw [cnt_congr fun i hi => h i (by omega), h n (by omega)]
theorem cnt_flip {p q : Nat → Bool} {j : Nat} (hp : p j = true) (hq : q j = false) : ∀ {n : Nat}, j < n → (∀ i, i < n → i ≠ j → p i = q i) → cnt p n = cnt q n + 1
  | 0, h, _ => absurd h (by omega)
  | n + 1, h, he => by
    unfold cnt
    by_cases hj : j = n
    · subst hj
      rw [hp, hq, cnt_congr fun i hi => he i (by omega) (by omega)]
      simp
    · rw [cnt_flip hp hq (by omega) (fun i hi => he i (by omega)), he n (by omega) (by omega)]
      omega
theorem cnt_pos {p : Nat → Bool} {j : Nat} (hp : p j = true) : ∀ {n : Nat}, j < n → 1 ≤ cnt p n
  | 0, h => absurd h (by omega)
  | n + 1, h => by
    unfold cnt
    by_cases hj : j = n
    · subst hj; rw [hp]; simp
    · have := cnt_pos hp (n := n) (by omega); omega
theorem cnt_le {p : Nat → Bool} : ∀ {n : Nat}, cnt p n ≤ n
  | 0 => Nat.le_refl _
  | n + 1 => by unfold cnt; have := cnt_le (p := p) (n := n); split <;> omega
theorem cnt_none {p : Nat → Bool} : ∀ {n : Nat}, (∀ i, i < n → p i = false) → cnt p n = 0
  | 0, _ => rfl
  | n + 1, h => by unfold cnt; rw [cnt_none fun i hi => h i (by omega), h n (by omega)]; rfl

/-- slot i waits -/
def wt (S : Nat → Nat → Int) (i : Nat) : Bool := decide (S i 0 = 1 ∨ S i 0 = 2)
/-- when slot i comes next, p being the first to come -/
def nxt (n p i : Nat) : Nat := if p ≤ i then i else i + n
def vis (r p i : Nat) : Int := r + (if i < p then 1 else 0)
/-- what slot i has still to wait at most, in visits of its own, all told -/
structure LV (n L r p : Nat) (S : Nat → Nat → Int) (A : AR) (left : Int) : Prop where
  taken : A.taken = 1
  len : A.ws.length = 10
  pc : ∀ i, i < n → S i 0 = 0 ∨ S i 0 = 1 ∨ S i 0 = 2 ∨ S i 0 = 11
  who : (A.get 1 = 0 ∧ ∀ i, i < n → S i 0 ≠ 11) ∨ (∃ h, h < n ∧ A.get 1 = (h : Int) + 1 ∧ S h 0 = 11 ∧ ∀ i, i < n → i ≠ h → S i 0 ≠ 11)
  len1 : ∀ i, i < n → wt S i = true → 1 ≤ S i 1 ∧ S i 1 ≤ L
  len2 : ∀ i, i < n → S i 0 = 2 → 1 ≤ S i 2 ∧ S i 2 ≤ L
  left : left = cnt (wt S) n
  pot1 : ∀ i, i < n → S i 0 = 1 → ((cnt (wt S) n : Nat) : Int) * (L + 1) + vis r p i ≤ n * (L + 1)
  pot2 : ∀ i, i < n → S i 0 = 2 → ((cnt (wt S) n : Nat) : Int) * (L + 1) + S i 2 + vis r p i ≤ n * (L + 1)
  pot3 : ∀ i h, i < n → h < n → S h 0 = 11 → nxt n p i < nxt n p h → S i 0 = 1 → ((cnt (wt S) n : Nat) : Int) * (L + 1) + (L + 1) + vis r p i ≤ n * (L + 1)
  pot4 : ∀ i h, i < n → h < n → S h 0 = 11 → nxt n p i < nxt n p h → S i 0 = 2 → ((cnt (wt S) n : Nat) : Int) * (L + 1) + (L + 1) + S i 2 + vis r p i ≤ n * (L + 1)
  pot5 : ∀ i, i < n → S i 0 = 11 → 1 + vis r p i ≤ n * (L + 1)

section
variable {n L r p : Nat} {S : Nat → Nat → Int} {A : AR} {left : Int}

theorem vis_other {i : Nat} (h : i ≠ p) : vis r (p + 1) i = vis r p i := by
  unfold vis
  by_cases h1 : i < p
  · rw [if_pos (by omega), if_pos h1]
  · rw [if_neg (by omega), if_neg h1]
theorem vis_own : vis r p p = r ∧ vis r (p + 1) p = r + 1 := by unfold vis; rw [if_neg (by omega), if_pos (by omega)]; omega
theorem nxt_other {i : Nat} (h : i ≠ p) : nxt n (p + 1) i = nxt n p i := by
  unfold nxt
  by_cases h1 : p ≤ i
  · rw [if_pos (by omega), if_pos h1]
  · rw [if_neg (by omega), if_neg h1]
theorem nxt_first {h : Nat} (hp : p < n) (hne : h ≠ p) : nxt n p p < nxt n p h := by
  unfold nxt
  rw [if_pos (Nat.le_refl _)]
  split <;> omega
theorem nxt_last {h : Nat} (hh : h < n) : ¬ nxt n (p + 1) p < nxt n (p + 1) h := by
  unfold nxt
  rw [if_neg (by omega)]
  split <;> omega

theorem LV.next (h : LV n L r n S A left) : LV n L (r + 1) 0 S A left := by
  have hv : ∀ i, i < n → vis (r + 1) 0 i = vis r n i := fun i hi => by unfold vis; rw [if_neg (by omega), if_pos hi]; omega
  have hn : ∀ i j, i < n → j < n → nxt n 0 i < nxt n 0 j → nxt n n i < nxt n n j := fun i j hi hj h => by unfold nxt at *; rw [if_neg (by omega), if_neg (by omega)]; simp at h; omega
  exact { h with
    pot1 := fun i hi q => by rw [hv i hi]; exact h.pot1 i hi q
    pot2 := fun i hi q => by rw [hv i hi]; exact h.pot2 i hi q
    pot3 := fun i j hi hj q1 q2 q3 => by rw [hv i hi]; exact h.pot3 i j hi hj q1 (hn i j hi hj q2) q3
    pot4 := fun i j hi hj q1 q2 q3 => by rw [hv i hi]; exact h.pot4 i j hi hj q1 (hn i j hi hj q2) q3
    pot5 := fun i hi q => by rw [hv i hi]; exact h.pot5 i hi q }
/-- in the end all are at rest -/
theorem LV.done (h : LV n L r 0 S A left) (hr : n * (L + 1) ≤ r) : (∀ i, i < n → S i 0 = 0) ∧ left = 0 ∧ A.get 1 = 0 := by
  have hall : ∀ i, i < n → S i 0 = 0 := by
    intro i hi
    have hC : ((n : Int) * (L + 1)) ≤ r := by exact_mod_cast hr
    have hv : vis r 0 i = r := by unfold vis; rw [if_neg (by omega)]; omega
    have hpos : ∀ q, wt S i = q → q = true → 0 < ((cnt (wt S) n : Nat) : Int) * (L + 1) := fun q hq hq' => by
      have h1 := cnt_pos (hq.trans hq') hi
      exact Int.mul_pos (by omega) (by omega)
    rcases h.pc i hi with q | q | q | q
    · exact q
    · have h1 := h.pot1 i hi q
      have h2 := hpos _ rfl (by unfold wt; simp [q])
      omega
    · have h1 := h.pot2 i hi q
      have h2 := hpos _ rfl (by unfold wt; simp [q])
      have h3 := h.len2 i hi q
      omega
    · have h1 := h.pot5 i hi q
      omega
  refine ⟨hall, ?_, ?_⟩
  · rw [h.left, cnt_none fun i hi => by unfold wt; simp [hall i hi]]; rfl
  · rcases h.who with ⟨g, _⟩ | ⟨q, hq, _, h11, _⟩
    · exact g
    · have := hall q hq; omega

theorem LV.idle (h : LV n L r p S A left) (h0 : S p 0 = 0) : LV n L r (p + 1) S A left :=
  { h with
    pot1 := fun i hi q => by rw [vis_other (by intro e; subst e; omega)]; exact h.pot1 i hi q
    pot2 := fun i hi q => by rw [vis_other (by intro e; subst e; omega)]; exact h.pot2 i hi q
    pot3 := fun i j hi hj q1 q2 q3 => by
      have e1 : i ≠ p := by intro e; subst e; omega
      have e2 : j ≠ p := by intro e; subst e; omega
      rw [vis_other e1]; rw [nxt_other e1, nxt_other e2] at q2; exact h.pot3 i j hi hj q1 q2 q3
    pot4 := fun i j hi hj q1 q2 q3 => by
      have e1 : i ≠ p := by intro e; subst e; omega
      have e2 : j ≠ p := by intro e; subst e; omega
      rw [vis_other e1]; rw [nxt_other e1, nxt_other e2] at q2; exact h.pot4 i j hi hj q1 q2 q3
    pot5 := fun i hi q => by rw [vis_other (by intro e; subst e; omega)]; exact h.pot5 i hi q }

/-- slot p is turned, and nothing else -/
theorem wt_other {T : Nat → Nat → Int} (hT : ∀ i, i ≠ p → ∀ t, T i t = S i t) {i : Nat} (hi : i ≠ p) : wt T i = wt S i := by unfold wt; rw [hT i hi 0]

theorem LV.enter (h : LV n L r p S A left) (hp : p < n) (h1 : S p 0 = 1) (hz : A.get 1 = 0) {T : Nat → Nat → Int} {B : AR} (hT : ∀ i, i ≠ p → ∀ t, T i t = S i t) (hTp : T p 0 = 11) (hB1 : B.taken = 1) (hB2 : B.ws.length = 10) (hB3 : B.get 1 = (p : Int) + 1) :
    LV n L r (p + 1) T B (left - 1) := by
  have hno : ∀ i, i < n → S i 0 ≠ 11 := by
    rcases h.who with ⟨_, hn⟩ | ⟨q, hq, g, _, _⟩
    · exact hn
    · omega
  have hw : cnt (wt S) n = cnt (wt T) n + 1 := cnt_flip (by unfold wt; simp [h1]) (by unfold wt; simp [hTp]) hp fun i _ hi => (wt_other hT hi).symm
  have hpw : ((cnt (wt S) n : Nat) : Int) * (L + 1) = ((cnt (wt T) n : Nat) : Int) * (L + 1) + (L + 1) := by rw [hw]; push_cast; rw [Int.add_mul]; omega
  have hnn : 0 ≤ ((cnt (wt T) n : Nat) : Int) * (L + 1) := Int.mul_nonneg (by omega) (by omega)
  have hL1 := h.len1 p hp (by unfold wt; simp [h1])
  refine { taken := hB1, len := hB2, pc := fun i hi => ?_, who := .inr ⟨p, hp, hB3, hTp, fun i hi hne => by rw [hT i hne 0]; exact hno i hi⟩, len1 := fun i hi q => ?_, len2 := fun i hi q => ?_, left := by rw [h.left, hw]; push_cast; omega,
           pot1 := fun i hi q => ?_, pot2 := fun i hi q => ?_, pot3 := fun i j hi hj q1 q2 q3 => ?_, pot4 := fun i j hi hj q1 q2 q3 => ?_, pot5 := fun i hi q => ?_ }
  · by_cases e : i = p
    · subst e; omega
    · rw [hT i e 0]; exact h.pc i hi
  · by_cases e : i = p
    · subst e; unfold wt at q; simp [hTp] at q
    · rw [wt_other hT e] at q; rw [hT i e 1]; exact h.len1 i hi q
  · by_cases e : i = p
    · subst e; omega
    · rw [hT i e 0] at q; rw [hT i e 2]; exact h.len2 i hi q
  · have e : i ≠ p := by intro e; subst e; omega
    rw [hT i e 0] at q; rw [vis_other e]; have := h.pot1 i hi q; omega
  · have e : i ≠ p := by intro e; subst e; omega
    rw [hT i e 0] at q; rw [vis_other e, hT i e 2]; have := h.pot2 i hi q; omega
  · have e : i ≠ p := by intro e; subst e; omega
    rw [hT i e 0] at q3; rw [vis_other e]; have := h.pot1 i hi q3; omega
  · have e : i ≠ p := by intro e; subst e; omega
    rw [hT i e 0] at q3; rw [vis_other e, hT i e 2]; have := h.pot2 i hi q3; omega
  · by_cases e : i = p
    · subst e
      have := h.pot1 i hp h1
      rw [vis_own.1] at this
      rw [vis_own.2]
      omega
    · rw [hT i e 0] at q; exact absurd q (hno i hi)

/-- slot p waits on, or begins to wait -/
theorem LV.wait (h : LV n L r p S A left) (hp : p < n) {T : Nat → Nat → Int} {B : AR} (hT : ∀ i, i ≠ p → ∀ t, T i t = S i t) (hw : wt S p = true) (hTp : T p 0 = 1 ∨ (T p 0 = 2 ∧ 1 ≤ T p 2 ∧ T p 2 ≤ L)) (hT1 : 1 ≤ T p 1 ∧ T p 1 ≤ L)
    (hB1 : B.taken = 1) (hB2 : B.ws.length = 10) (hB3 : B.get 1 = A.get 1) (hpot : ((cnt (wt S) n : Nat) : Int) * (L + 1) + (if T p 0 = 2 then T p 2 else 0) + (r + 1) ≤ n * (L + 1)) : LV n L r (p + 1) T B left := by
  have hwT : wt T p = true := by unfold wt; rcases hTp with q | ⟨q, _⟩ <;> simp [q]
  have hc : cnt (wt T) n = cnt (wt S) n := cnt_congr fun i _ => by
    by_cases e : i = p
    · subst e; rw [hwT, hw]
    · exact wt_other hT e
  have hS11 : S p 0 ≠ 11 := by unfold wt at hw; intro e; simp [e] at hw
  have hT11 : T p 0 ≠ 11 := by omega
  have h11 : ∀ j, T j 0 = 11 → j ≠ p ∧ S j 0 = 11 := fun j hj => by
    have e : j ≠ p := by intro e; subst e; exact hT11 hj
    exact ⟨e, by rw [← hT j e 0]; exact hj⟩
  refine { taken := hB1, len := hB2, pc := fun i hi => ?_, who := ?_, len1 := fun i hi q => ?_, len2 := fun i hi q => ?_, left := by rw [hc]; exact h.left,
           pot1 := fun i hi q => ?_, pot2 := fun i hi q => ?_, pot3 := fun i j hi hj q1 q2 q3 => ?_, pot4 := fun i j hi hj q1 q2 q3 => ?_, pot5 := fun i hi q => ?_ }
  · by_cases e : i = p
    · subst e; omega
    · rw [hT i e 0]; exact h.pc i hi
  · rcases h.who with ⟨g, hn⟩ | ⟨q, hq, g, h5, hn⟩
    · exact .inl ⟨hB3.trans g, fun i hi e => hn i hi (h11 i e).2⟩
    · have e : q ≠ p := by intro e; subst e; exact hS11 h5
      exact .inr ⟨q, hq, hB3.trans g, by rw [hT q e 0]; exact h5, fun i hi hne e2 => hn i hi hne (h11 i e2).2⟩
  · by_cases e : i = p
    · subst e; exact hT1
    · rw [wt_other hT e] at q; rw [hT i e 1]; exact h.len1 i hi q
  · by_cases e : i = p
    · subst e; omega
    · rw [hT i e 0] at q; rw [hT i e 2]; exact h.len2 i hi q
  · rw [hc]
    by_cases e : i = p
    · subst e; rw [if_neg (by omega)] at hpot; rw [vis_own.2]; omega
    · rw [hT i e 0] at q; rw [vis_other e]; exact h.pot1 i hi q
  · rw [hc]
    by_cases e : i = p
    · subst e; rw [if_pos q] at hpot; rw [vis_own.2]; omega
    · rw [hT i e 0] at q; rw [vis_other e, hT i e 2]; exact h.pot2 i hi q
  · obtain ⟨e2, q1'⟩ := h11 j q1
    rw [hc]
    by_cases e : i = p
    · subst e; exact absurd q2 (nxt_last hj)
    · rw [hT i e 0] at q3; rw [nxt_other e, nxt_other e2] at q2; rw [vis_other e]; exact h.pot3 i j hi hj q1' q2 q3
  · obtain ⟨e2, q1'⟩ := h11 j q1
    rw [hc]
    by_cases e : i = p
    · subst e; exact absurd q2 (nxt_last hj)
    · rw [hT i e 0] at q3; rw [nxt_other e, nxt_other e2] at q2; rw [vis_other e, hT i e 2]; exact h.pot4 i j hi hj q1' q2 q3
  · obtain ⟨e2, q1'⟩ := h11 i q
    rw [vis_other e2]; exact h.pot5 i hi q1'

theorem LV.free (h : LV n L r p S A left) (hp : p < n) (h11 : S p 0 = 11) {T : Nat → Nat → Int} {B : AR} (hT : ∀ i, i ≠ p → ∀ t, T i t = S i t) (hTp : T p 0 = 0) (hB1 : B.taken = 1) (hB2 : B.ws.length = 10) (hB3 : B.get 1 = 0) : LV n L r (p + 1) T B left := by
  have hc : cnt (wt T) n = cnt (wt S) n := cnt_congr fun i _ => by
    by_cases e : i = p
    · subst e; unfold wt; simp [hTp, h11]
    · exact wt_other hT e
  have hno : ∀ i, i < n → T i 0 ≠ 11 := by
    intro i hi
    by_cases e : i = p
    · subst e; omega
    · rw [hT i e 0]
      rcases h.who with ⟨_, hn⟩ | ⟨q, hq, g, h5, hn⟩
      · exact hn i hi
      · by_cases e2 : q = p
        · subst e2; exact hn i hi e
        · exact absurd h11 (hn p hp (Ne.symm e2))
  refine { taken := hB1, len := hB2, pc := fun i hi => ?_, who := .inl ⟨hB3, hno⟩, len1 := fun i hi q => ?_, len2 := fun i hi q => ?_, left := by rw [hc]; exact h.left,
           pot1 := fun i hi q => ?_, pot2 := fun i hi q => ?_, pot3 := fun i j hi hj q1 q2 q3 => absurd q1 (hno j hj), pot4 := fun i j hi hj q1 q2 q3 => absurd q1 (hno j hj), pot5 := fun i hi q => absurd q (hno i hi) }
  · by_cases e : i = p
    · subst e; omega
    · rw [hT i e 0]; exact h.pc i hi
  · by_cases e : i = p
    · subst e; unfold wt at q; simp [hTp] at q
    · rw [wt_other hT e] at q; rw [hT i e 1]; exact h.len1 i hi q
  · by_cases e : i = p
    · subst e; omega
    · rw [hT i e 0] at q; rw [hT i e 2]; exact h.len2 i hi q
  · have e : i ≠ p := by intro e; subst e; omega
    rw [hc]; rw [hT i e 0] at q; rw [vis_other e]; exact h.pot1 i hi q
  · have e : i ≠ p := by intro e; subst e; omega
    rw [hc]; rw [hT i e 0] at q; rw [vis_other e, hT i e 2]; exact h.pot2 i hi q

theorem spPut_at (S : Nat → Nat → Int) (i t : Nat) (v : Int) : spPut S i t v i t = v := by unfold spPut; simp
theorem spPut_slot (S : Nat → Nat → Int) {i j : Nat} (h : j ≠ i) (t t' : Nat) (v : Int) : spPut S i t v j t' = S j t' := by unfold spPut; simp [h]
theorem spPut_field (S : Nat → Nat → Int) (i : Nat) {t t' : Nat} (h : t' ≠ t) (v : Int) : spPut S i t v i t' = S i t' := by unfold spPut; simp [h]

theorem LV.visit (h : LV n L r p S A left) (hp : p < n) (hL1 : 1 ≤ L) (hL : L ≤ 16) :
    LV n L r (p + 1) (tLeave n (tStepS n 1 L S A p) p) (tStepA n 1 S A p) (left - (if tLeaveOk n (tStepS n 1 L S A p) p then 1 else 0)) := by
  have hs : sHas n (p : Int) = true := by unfold sHas; simp; omega
  have ep : ((p : Int)).toNat = p := by omega
  have hhas : A.has 1 = true := by unfold AR.has; rw [h.taken]; rfl
  have hlok : ∀ T : Nat → Nat → Int, tLeaveOk n T p = decide (T p 0 = 10) := fun T => by unfold tLeaveOk; rw [hs, ep]; rfl
  have hlv : ∀ T : Nat → Nat → Int, T p 0 ≠ 10 → tLeave n T p = T := fun T hT => by unfold tLeave; rw [hlok, decide_eq_false hT]; rfl
  unfold tStepS tStepA
  simp only [hs, if_true, ep]
  rcases h.pc p hp with q | q | q | q
  · -- at rest
    have q1 : ¬ S p 0 = 1 := by omega
    have q2 : ¬ S p 0 = 2 := by omega
    have q3 : ¬ S p 0 = 11 := by omega
    simp only [if_neg q1, if_neg q2, if_neg q3]
    rw [hlv S (by omega), hlok, decide_eq_false (by omega)]
    simpa using h.idle q
  · have hw : wt S p = true := by unfold wt; simp [q]
    have ha := h.len1 p hp hw
    simp only [if_pos q]
    by_cases hz : A.get 1 = 0
    · have hok : A.casOk ((1 : Nat) : Int) 0 = true := by unfold AR.casOk; show (A.has 1 && decide (A.get 1 = 0)) = true; rw [hhas, hz]; rfl
      have hc : A.cas ((1 : Nat) : Int) 0 ((p : Int) + 1) = (A.note 4 1 true).put 1 ((p : Int) + 1) := by unfold AR.cas; show (if A.has 1 then (if A.get 1 = 0 then _ else _) else A) = _; rw [hhas, if_pos rfl, if_pos hz]; rfl
      rw [hok, hc]
      obtain ⟨g1, g2, g3, g4⟩ := get_put A hhas (by rw [h.len]; omega) 4 true ((p : Int) + 1)
      simp only [if_true]
      have h10 : spPut S p 0 10 p 0 = 10 := spPut_at _ _ _ _
      have e1 : tLeave n (spPut S p 0 10) p = spPut (spPut S p 0 10) p 0 11 := by unfold tLeave; rw [hlok, decide_eq_true h10, ep]; rfl
      rw [e1, hlok, decide_eq_true h10, if_pos rfl]
      exact h.enter hp q hz (fun i hi t => by rw [spPut_slot _ hi, spPut_slot _ hi]) (spPut_at _ _ _ _) (g2.trans h.taken) (g3.trans h.len) g1
    · have hok : A.casOk ((1 : Nat) : Int) 0 = false := by unfold AR.casOk; show (A.has 1 && decide (A.get 1 = 0)) = false; rw [decide_eq_false hz]; simp
      have hc : A.cas ((1 : Nat) : Int) 0 ((p : Int) + 1) = A.note 4 1 false := by unfold AR.cas; show (if A.has 1 then (if A.get 1 = 0 then _ else _) else A) = _; rw [hhas, if_pos rfl, if_neg hz]; rfl
      rw [hok, hc]
      simp only [Bool.false_eq_true, if_false]
      have w2 : wrap64 (2 * S p 1) = 2 * S p 1 := by unfold wrap64; omega
      have hlong : 1 ≤ tLonger L (S p 1) ∧ tLonger L (S p 1) ≤ L := by
        unfold tLonger; rw [w2]; split <;> omega
      generalize tLonger (L : Int) (S p 1) = a' at *
      have t0 : spPut (spPut (spPut S p 0 2) p 2 (S p 1)) p 1 a' p 0 = 2 := by rw [spPut_field _ _ (by omega), spPut_field _ _ (by omega), spPut_at]
      have t1 : spPut (spPut (spPut S p 0 2) p 2 (S p 1)) p 1 a' p 1 = a' := spPut_at _ _ _ _
      have t2 : spPut (spPut (spPut S p 0 2) p 2 (S p 1)) p 1 a' p 2 = S p 1 := by rw [spPut_field _ _ (by omega), spPut_at]
      have tT : ∀ i, i ≠ p → ∀ t, spPut (spPut (spPut S p 0 2) p 2 (S p 1)) p 1 a' i t = S i t := fun i hi t => by rw [spPut_slot _ hi, spPut_slot _ hi, spPut_slot _ hi]
      generalize spPut (spPut (spPut S p 0 2) p 2 (S p 1)) p 1 a' = T at *
      rw [hlv T (by omega), hlok, decide_eq_false (by omega)]
      obtain ⟨hh, hh1, hh2, hh3, hh4⟩ : ∃ hh, hh < n ∧ A.get 1 = (hh : Int) + 1 ∧ S hh 0 = 11 ∧ ∀ i, i < n → i ≠ hh → S i 0 ≠ 11 := by
        rcases h.who with ⟨g, _⟩ | hx
        · exact absurd g hz
        · exact hx
      have hne : hh ≠ p := by intro e; subst e; omega
      have hpot := h.pot3 p hh hp hh1 hh3 (nxt_first hp hne) q
      rw [vis_own.1] at hpot
      have := h.wait (T := T) (B := A.note 4 1 false) hp tT hw (.inr ⟨t0, by omega, by omega⟩) (by omega) h.taken h.len rfl (by rw [if_pos t0, t2]; omega)
      simpa using this
  · have hw : wt S p = true := by unfold wt; simp [q]
    have ha := h.len1 p hp hw
    have hb := h.len2 p hp q
    have hpot := h.pot2 p hp q
    rw [vis_own.1] at hpot
    have q1 : ¬ S p 0 = 1 := by omega
    have q3 : ¬ S p 0 = 11 := by omega
    have w1 : wrap64 (S p 2 - 1) = S p 2 - 1 := by unfold wrap64; omega
    simp only [if_neg q1, if_pos q, if_neg q3, w1]
    by_cases hz : S p 2 - 1 = 0
    · simp only [if_pos hz]
      have t0 : spPut (spPut S p 2 (S p 2 - 1)) p 0 1 p 0 = 1 := spPut_at _ _ _ _
      have t1 : spPut (spPut S p 2 (S p 2 - 1)) p 0 1 p 1 = S p 1 := by rw [spPut_field _ _ (by omega), spPut_field _ _ (by omega)]
      have tT : ∀ i, i ≠ p → ∀ t, spPut (spPut S p 2 (S p 2 - 1)) p 0 1 i t = S i t := fun i hi t => by rw [spPut_slot _ hi, spPut_slot _ hi]
      generalize spPut (spPut S p 2 (S p 2 - 1)) p 0 1 = T at *
      rw [hlv T (by omega), hlok, decide_eq_false (by omega)]
      have := h.wait (T := T) (B := A) hp tT hw (.inl t0) (by omega) h.taken h.len rfl (by rw [if_neg (by omega)]; omega)
      simpa using this
    · simp only [if_neg hz]
      have t0 : spPut S p 2 (S p 2 - 1) p 0 = 2 := by rw [spPut_field _ _ (by omega), q]
      have t1 : spPut S p 2 (S p 2 - 1) p 1 = S p 1 := by rw [spPut_field _ _ (by omega)]
      have t2 : spPut S p 2 (S p 2 - 1) p 2 = S p 2 - 1 := spPut_at _ _ _ _
      have tT : ∀ i, i ≠ p → ∀ t, spPut S p 2 (S p 2 - 1) i t = S i t := fun i hi t => by rw [spPut_slot _ hi]
      generalize spPut S p 2 (S p 2 - 1) = T at *
      rw [hlv T (by omega), hlok, decide_eq_false (by omega)]
      have := h.wait (T := T) (B := A) hp tT hw (.inr ⟨t0, by omega, by omega⟩) (by omega) h.taken h.len rfl (by rw [if_pos t0]; omega)
      simpa using this
  · have q1 : ¬ S p 0 = 1 := by omega
    have q2 : ¬ S p 0 = 2 := by omega
    simp only [if_neg q1, if_neg q2, if_pos q]
    have hc : A.store ((1 : Nat) : Int) 0 = (A.note 2 1 true).put 1 0 := by unfold AR.store; show (if A.has 1 then _ else A) = _; rw [hhas, if_pos rfl]; rfl
    rw [hc]
    obtain ⟨g1, g2, g3, g4⟩ := get_put A hhas (by rw [h.len]; omega) 2 true 0
    have t0 : spPut S p 0 0 p 0 = 0 := spPut_at _ _ _ _
    have tT : ∀ i, i ≠ p → ∀ t, spPut S p 0 0 i t = S i t := fun i hi t => by rw [spPut_slot _ hi]
    generalize spPut S p 0 0 = T at *
    rw [hlv T (by omega), hlok, decide_eq_false (by omega)]
    have := h.free (T := T) hp q tT t0 (g2.trans h.taken) (g3.trans h.len) g1
    simpa using this

/-- who has asked so far -/
structure AskI (n i : Nat) (S : Nat → Nat → Int) (left : Int) : Prop where
  pc : ∀ j, j < n → S j 0 = 0 ∨ (S j 0 = 1 ∧ S j 1 = 1)
  later : ∀ j, i ≤ j → S j 0 = 0
  left : left = cnt (wt S) n
theorem AskI.start (n : Nat) : AskI n 0 (fun _ _ => 0) 0 := ⟨fun _ _ => .inl rfl, fun _ _ => rfl, by rw [cnt_none fun i _ => by simp [wt]]; rfl⟩
theorem AskI.pass {n i : Nat} {S : Nat → Nat → Int} {left : Int} (h : AskI n i S left) : AskI n (i + 1) S left := ⟨h.pc, fun j hj => h.later j (by omega), h.left⟩
theorem AskI.ask {n i : Nat} {S : Nat → Nat → Int} {left : Int} (h : AskI n i S left) (hi : i < n) : tAskOk n S i = true ∧ AskI n (i + 1) (tAsk n S i) (left + 1) := by
  have hs : sHas n (i : Int) = true := by unfold sHas; simp; omega
  have ei : ((i : Int)).toNat = i := by omega
  have h0 := h.later i (Nat.le_refl _)
  have hok : tAskOk n S i = true := by unfold tAskOk; rw [hs, ei, decide_eq_true h0]; rfl
  refine ⟨hok, ?_⟩
  unfold tAsk
  rw [hok, if_pos rfl, ei]
  have t0 : spPut (spPut S i 0 1) i 1 1 i 0 = 1 := by rw [spPut_field _ _ (by omega), spPut_at]
  have t1 : spPut (spPut S i 0 1) i 1 1 i 1 = 1 := spPut_at _ _ _ _
  have tT : ∀ j, j ≠ i → ∀ t, spPut (spPut S i 0 1) i 1 1 j t = S j t := fun j hj t => by rw [spPut_slot _ hj, spPut_slot _ hj]
  generalize spPut (spPut S i 0 1) i 1 1 = T at *
  refine ⟨fun j hj => ?_, fun j hj => by rw [tT j (by omega)]; exact h.later j (by omega), ?_⟩
  · by_cases e : j = i
    · subst e; exact .inr ⟨t0, t1⟩
    · rw [tT j e, tT j e]; exact h.pc j hj
  · have := cnt_flip (p := wt T) (q := wt S) (j := i) (by simp [wt, t0]) (by simp [wt, h0]) hi fun j _ hj => by simp [wt, tT j hj]
    rw [h.left, this]; push_cast; rfl
theorem AskI.begin {n L : Nat} {S : Nat → Nat → Int} {left : Int} {A : AR} (h : AskI n n S left) (hL : 1 ≤ L) (ht : A.taken = 1) (hl : A.ws.length = 10) (hz : A.get 1 = 0) : LV n L 0 0 S A left := by
  have hC : ((cnt (wt S) n : Nat) : Int) * (L + 1) ≤ n * (L + 1) := Int.mul_le_mul_of_nonneg_right (by have := cnt_le (p := wt S) (n := n); omega) (by omega)
  have hno : ∀ i, i < n → S i 0 ≠ 11 ∧ S i 0 ≠ 2 := fun i hi => by have := h.pc i hi; omega
  refine { taken := ht, len := hl, pc := fun i hi => by have := h.pc i hi; omega, who := .inl ⟨hz, fun i hi => (hno i hi).1⟩, len1 := fun i hi q => ?_, len2 := fun i hi q => absurd q (hno i hi).2, left := h.left,
           pot1 := fun i _ _ => by rw [show vis 0 0 i = 0 by unfold vis; rw [if_neg (by omega)]; rfl]; omega, pot2 := fun i hi q => absurd q (hno i hi).2, pot3 := fun i j hi hj q1 _ _ => absurd q1 (hno j hj).1, pot4 := fun i j hi hj q1 _ _ => absurd q1 (hno j hj).1, pot5 := fun i hi q => absurd q (hno i hi).1 }
  have := h.pc i hi
  unfold wt at q
  simp at q
  omega
end
end Go.Proofs.Ytmfeaancnkadbaa
