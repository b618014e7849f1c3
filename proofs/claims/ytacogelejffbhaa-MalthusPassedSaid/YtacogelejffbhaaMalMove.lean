/- The malthus lock's invariant, in plain Lean: where the one on the way out is, and each move. -/
import Derived.Test.YtacogelejffbhaaMalPh
namespace Go.Proofs.Ytacogelejffbhaa
open Go.RowKit

/-- where the one on the way out is: the row, those aside, who is in the hand -/
inductive Ph (w : WV) (B : BK) (d : Int) (S : Nat → Nat → Int) (x : Nat) : List Nat → List Nat → List Nat → Prop
  | own (r L : List Nat) : (S x 0 = 10 ∨ S x 0 = 11 ∨ S x 0 = 12) → B.step = 0 → Ph w B d S x (x :: r) L []
  | take (r L : List Nat) : S x 0 = 13 → 5 ≤ B.step ∧ B.step ≤ 8 → (S x 1 = 0 ∨ ∃ q r', r = q :: r' ∧ S x 1 = (q : Int) + 1 ∧ S q 0 = 5) → Ph w B d S x (x :: r) L []
  | tie (q : Nat) (r L : List Nat) (y : Nat) : S x 0 = 14 → B.step = 0 → S x 1 = (q : Int) + 1 → S q 0 = 5 → S x 2 = (y : Int) + 1 → Ph w B d S x (x :: q :: r) L [y]
  | bare (r L : List Nat) (y : Nat) : S x 0 = 15 → B.step = 0 → S x 2 = (y : Int) + 1 → Ph w B d S x (x :: r) L [y]
  | swap (r L : List Nat) (y : Nat) : S x 0 = 16 → B.step = 0 → S x 2 = (y : Int) + 1 → w.nx y = 0 → Ph w B d S x (x :: r) L [y]
  | late (q : Nat) (r L : List Nat) (y : Nat) : S x 0 = 17 → B.step = 0 → S x 2 = (y : Int) + 1 → Ph w B d S x (x :: q :: r) L [y]
  | call (y : Nat) (r L : List Nat) : S x 0 = 18 → B.step = 0 → S x 2 = (y : Int) + 1 → S y 0 = 5 → w.wt y = 1 → x ≠ y → Ph w B d S x (y :: r) L []
  | free (r : List Nat) : S x 0 = 19 → B.step = 0 → Ph w B d S x (x :: r) [] []
  | wait (q : Nat) (r : List Nat) : S x 0 = 20 → B.step = 0 → Ph w B d S x (x :: q :: r) [] []
  | second (q : Nat) (r L : List Nat) : (S x 0 = 21 ∨ S x 0 = 24) → B.step = 0 → S x 1 = (q : Int) + 1 → S q 0 = 5 → Ph w B d S x (x :: q :: r) L []
  | putting (q : Nat) (r L : List Nat) (y : Nat) : S x 0 = 22 → 1 ≤ B.step ∧ B.step ≤ 4 → B.x = (y : Int) + 1 → d = (q : Int) + 1 → S q 0 = 5 → w.wt q = 1 → x ≠ q → Ph w B d S x (q :: r) L [y]
  | skip (q : Nat) (r L : List Nat) : S x 0 = 23 → B.step = 0 → d = (q : Int) + 1 → S q 0 = 5 → w.wt q = 1 → x ≠ q → Ph w B d S x (q :: r) L []
/-- nobody is on the way out -/
structure PhN (w : WV) (B : BK) (S : Nat → Nat → Int) (Q L c : List Nat) : Prop where
  c0 : c = []
  l0 : Q = [] → L = []
  hd : ∀ h r, Q = h :: r → S h 0 = 5 ∧ w.wt h = 0
  b0 : B.step = 0
def PhO (w : WV) (B : BK) (d : Int) (S : Nat → Nat → Int) (Q L c : List Nat) : Option Nat → Prop
  | none => PhN w B S Q L c
  | some x => Ph w B d S x Q L c
structure All (n : Nat) (w : WV) (B : BK) (d : Int) (S : Nat → Nat → Int) (Q L c : List Nat) (o : Option Nat) : Prop where
  core : Core n w S Q L c o
  bp : BP w B L
  ph : PhO w B d S Q L c o
section
variable {n : Nat} {w w' : WV} {B B' : BK} {d d' : Int} {S S' : Nat → Nat → Int} {Q Q' L c : List Nat} {o : Option Nat}
/-- another one's step leaves the one on the way out where it is -/
theorem Ph.kept {x : Nat} (h : Ph w B d S x Q L c) (hx : ∀ t, S' x t = S x t) (h5 : ∀ q, S q 0 = 5 → S' q 0 = 5) (hn : ∀ y ∈ c, w'.nx y = w.nx y) (hw : ∀ y ∈ Q, w'.wt y = w.wt y) (z : List Nat) : Ph w' B d S' x (Q ++ z) L c := by
  cases h with
  | own r _ h1 h2 => exact .own (r ++ z) L (by rw [hx]; exact h1) h2
  | take r _ h1 h2 h3 =>
    refine .take (r ++ z) L (by rw [hx]; exact h1) h2 ?_
    rw [hx]
    rcases h3 with h3 | ⟨q, r', rfl, h4, h6⟩
    · exact .inl h3
    · exact .inr ⟨q, r' ++ z, rfl, h4, h5 q h6⟩
  | tie q r _ y h1 h2 h3 h4 h6 => exact .tie q (r ++ z) L y (by rw [hx]; exact h1) h2 (by rw [hx]; exact h3) (h5 q h4) (by rw [hx]; exact h6)
  | bare r _ y h1 h2 h3 => exact .bare (r ++ z) L y (by rw [hx]; exact h1) h2 (by rw [hx]; exact h3)
  | swap r _ y h1 h2 h3 h4 => exact .swap (r ++ z) L y (by rw [hx]; exact h1) h2 (by rw [hx]; exact h3) (by rw [hn y (by simp)]; exact h4)
  | late q r _ y h1 h2 h3 => exact .late q (r ++ z) L y (by rw [hx]; exact h1) h2 (by rw [hx]; exact h3)
  | call y r _ h1 h2 h3 h4 h6 h7 => exact .call y (r ++ z) L (by rw [hx]; exact h1) h2 (by rw [hx]; exact h3) (h5 y h4) (by rw [hw y (by simp)]; exact h6) h7
  | free r h1 h2 => exact .free (r ++ z) (by rw [hx]; exact h1) h2
  | wait q r h1 h2 => exact .wait q (r ++ z) (by rw [hx]; exact h1) h2
  | second q r _ h1 h2 h3 h4 => exact .second q (r ++ z) L (by rw [hx]; exact h1) h2 (by rw [hx]; exact h3) (h5 q h4)
  | putting q r _ y h1 h2 h3 h4 h6 h7 h8 => exact .putting q (r ++ z) L y (by rw [hx]; exact h1) h2 h3 h4 (h5 q h6) (by rw [hw q (by simp)]; exact h7) h8
  | skip q r _ h1 h2 h3 h4 h6 h7 => exact .skip q (r ++ z) L (by rw [hx]; exact h1) h2 h3 (h5 q h4) (by rw [hw q (by simp)]; exact h6) h7
theorem Ph.ne {x : Nat} (h : Ph w B d S x Q L c) : Q ≠ [] := by cases h <;> simp
theorem PhN.kept (h : PhN w B S Q L c) (h5 : ∀ q, S q 0 = 5 → S' q 0 = 5) (hw : ∀ y ∈ Q, w'.wt y = w.wt y) (z : List Nat) (hz : Q = [] → z = []) : PhN w' B S' (Q ++ z) L c := by
  refine ⟨h.c0, fun e => h.l0 (by simp at e; exact e.1), fun a r e => ?_, h.b0⟩
  cases Q with
  | nil => rw [hz rfl] at e; simp at e
  | cons b q =>
    have e2 : b = a := by simpa using (List.cons.inj e).1
    subst e2
    have := h.hd b q rfl
    exact ⟨h5 b this.1, by rw [hw b (by simp)]; exact this.2⟩
theorem PhO.kept (h : PhO w B d S Q L c o) (hx : ∀ x, o = some x → ∀ t, S' x t = S x t) (h5 : ∀ q, S q 0 = 5 → S' q 0 = 5) (hn : ∀ y ∈ c, w'.nx y = w.nx y) (hw : ∀ y ∈ Q, w'.wt y = w.wt y) (z : List Nat) (hz : Q = [] → z = []) : PhO w' B d S' (Q ++ z) L c o := by
  cases o with
  | none => exact PhN.kept h h5 hw z hz
  | some x => exact Ph.kept h (hx x rfl) h5 hn hw z
theorem PhO.head (h : PhO w B d S Q L c o) (hp : ∀ x, o = some x → 10 ≤ S x 0) : ∀ a r, Q = a :: r → S a 0 ≠ 4 := by
  intro a r e
  cases o with
  | none => have := (PhN.hd h a r e).1; omega
  | some x =>
    have hx := hp x rfl
    have h : Ph w B d S x Q L c := h
    subst e
    cases h <;> omega
theorem Core.out {j : Nat} (h : Core n w S Q L c o) (h3 : S j 0 ≤ 3) : j ∉ Q ++ (L ++ c) ∧ o ≠ some j := by
  have ho : o ≠ some j := fun e => by have := (h.own2 j e).2.1; omega
  exact ⟨fun hm => by have := h.idle j hm ho; omega, ho⟩
/-- one that has not come to its doorway goes on -/
theorem All.early {j : Nat} {pc : Int} (h : All n w B d S Q L c o) (hj : j < n) (h0 : 0 ≤ S j 0 ∧ S j 0 ≤ 3) (hpc : 0 ≤ pc ∧ pc ≤ 3) (hn : ∀ k, k ≠ j → w'.nx k = w.nx k) (hw : ∀ k, k ≠ j → w'.wt k = w.wt k) (ht : w'.tl = w.tl)
    (hb : w'.bf = w.bf ∧ w'.bl = w.bl ∧ w'.lk = w.lk) (hp2 : pc = 2 → w'.nx j = 0) (hp3 : pc = 3 → w'.nx j = 0 ∧ w'.wt j = 1) : All n w' B d (spPut S j 0 pc) Q L c o := by
  obtain ⟨hno, ho⟩ := h.core.out h0.2
  refine ⟨h.core.early hj h0 hpc hn hw ht hp2 hp3, h.bp.kept hb.1 hb.2.1 hb.2.2, ?_⟩
  have := PhO.kept (S' := spPut S j 0 pc) (w' := w') h.ph (fun x e t => sp_ne _ _ _ _ (fun e2 => ho (by rw [e, e2]))) (fun q hq => by rw [sp_ne _ _ _ _ (fun e => by subst e; omega)]; exact hq)
    (fun y hy => hn y (fun e => hno (by subst e; simp [hy]))) (fun y hy => hw y (fun e => hno (by subst e; simp [hy]))) [] (fun _ => rfl)
  simpa using this
/-- one comes to its doorway -/
theorem All.door {j : Nat} (h : All n w B d S Q L c o) (hj : j < n) (h0 : S j 0 = 3) (ht : w'.tl = (j : Int) + 1) (hn : w'.nx = w.nx) (hw : w'.wt = w.wt) (hb : w'.bf = w.bf ∧ w'.bl = w.bl ∧ w'.lk = w.lk) :
    (w.tl = 0 ∧ Q = [] ∧ o = none ∧ All n w' B d (spPut (spPut S j 1 w.tl) j 0 10) [j] L c (some j)) ∨ (w.tl ≠ 0 ∧ Q ≠ [] ∧ All n w' B d (spPut (spPut S j 1 w.tl) j 0 4) (Q ++ [j]) L c o) := by
  obtain ⟨hno, ho⟩ := h.core.out (j := j) (by omega)
  by_cases hq : Q = []
  · left
    subst hq
    have hon : o = none := by
      cases o with
      | none => rfl
      | some x => exact absurd rfl (Ph.ne h.ph)
    subst hon
    have hp : PhN w B S [] L c := h.ph
    obtain rfl := hp.c0
    obtain rfl := hp.l0 rfl
    refine ⟨h.core.tl, rfl, rfl, h.core.door0 hj h0 ht hn hw, h.bp.kept hb.1 hb.2.1 hb.2.2, ?_⟩
    exact Ph.own [] [] (.inl (sp_eq _ _ _ _)) hp.b0
  · right
    have e : w.tl = lst Q := h.core.tl
    rw [e]
    refine ⟨fun e => hq (lst_nil.1 e), hq, h.core.door hj h0 hq ht hn hw, h.bp.kept hb.1 hb.2.1 hb.2.2, ?_⟩
    exact PhO.kept h.ph (fun x e t => by rw [sp_ne _ _ _ _ (fun e2 => ho (by rw [e, e2])), sp_ne _ _ _ _ (fun e2 => ho (by rw [e, e2]))])
      (fun q hq => by have e : q ≠ j := fun e => by subst e; omega
                      rw [sp_ne _ _ _ _ e, sp_ne _ _ _ _ e]; exact hq) (fun y _ => by rw [hn]) (fun y _ => by rw [hw]) [j] (fun e => absurd e hq)
theorem Core.notc {p : Nat} (h : Core n w S Q L c o) (hp : p ∈ Q) : p ∉ c := fun hc => by
  have := h.nd
  rw [List.nodup_append] at this
  exact this.2.2 p hp p (List.mem_append.2 (.inr hc)) rfl
/-- one behind another tells that one of itself -/
theorem All.link {j : Nat} (h : All n w B d S Q L c o) (hj : j < n) (h0 : S j 0 = 4) :
    ∃ p, p < n ∧ S j 1 = (p : Int) + 1 ∧ ∀ w' : WV, w'.tl = w.tl → w'.nx = upd w.nx p ((j : Int) + 1) → w'.wt = w.wt → w'.bf = w.bf ∧ w'.bl = w.bl ∧ w'.lk = w.lk → All n w' B d (spPut S j 0 5) Q L c o := by
  have hh := PhO.head h.ph (fun x e => (h.core.own2 x e).2.1)
  obtain ⟨p, hp, ha, hc⟩ := h.core.link hj h0 hh
  have hm := h.core.mem j hj (.inl h0)
  have hjq : j ∈ Q := by
    rcases List.mem_append.1 hm with hm | hm
    · exact hm
    · have := h.core.five j hm; omega
  have ho : o ≠ some j := fun e => by have := (h.core.own2 j e).2.1; omega
  refine ⟨p, hp, ha, fun w' ht hn hw hb => ⟨hc w' ht hn hw, h.bp.kept hb.1 hb.2.1 hb.2.2, ?_⟩⟩
  have hpc : p ∉ c := by
    obtain ⟨p', hp', _, ha', _, _⟩ := h.core.ql.link (List.nodup_append.1 h.core.nd).1 (by
      cases Q with
      | nil => simp at hjq
      | cons a r =>
        rcases List.mem_cons.1 hjq with e | e
        · exact absurd h0 (by rw [e]; exact hh a r rfl)
        · exact e) h0
    obtain rfl : p' = p := by omega
    exact h.core.notc hp'
  have := PhO.kept (S' := spPut S j 0 5) (w' := w') h.ph (fun x e t => sp_ne _ _ _ _ (fun e2 => ho (by rw [e, e2]))) (fun q hq => by rw [sp_ne _ _ _ _ (fun e => by subst e; omega)]; exact hq)
    (fun y hy => by rw [hn, upd_ne _ _ (fun e => hpc (by subst e; exact hy))]) (fun y _ => by rw [hw]) [] (fun _ => rfl)
  simpa using this
/-- one whose word is clear is the first of the row, and comes in -/
theorem All.enter {j : Nat} (h : All n w B d S Q L c o) (hj : j < n) (h0 : S j 0 = 5) (hz : w.wt j = 0) :
    o = none ∧ (∃ r, Q = j :: r) ∧ ∀ w' : WV, w'.tl = w.tl → w'.nx = w.nx → w'.wt = w.wt → w'.bf = w.bf ∧ w'.bl = w.bl ∧ w'.lk = w.lk → All n w' B d (spPut S j 0 10) Q L c (some j) := by
  have hm := h.core.mem j hj (.inr h0)
  have hw1 : j ∉ Q.tail ++ (L ++ c) := fun hm => by have := h.core.w1 j hm; omega
  have hr : ∃ r, Q = j :: r := by
    cases Q with
    | nil => exact absurd (by simpa using hm) hw1
    | cons a r =>
      by_cases e : j = a
      · exact ⟨r, by rw [e]⟩
      · exact absurd (by simp at hm ⊢; grind) hw1
  obtain ⟨r, rfl⟩ := hr
  have hon : o = none := by
    cases o with
    | none => rfl
    | some x =>
      have hp : Ph w B d S x (j :: r) L c := h.ph
      have hx := (h.core.own2 x rfl).2.1
      cases hp <;> omega
  subst hon
  have hp : PhN w B S (j :: r) L c := h.ph
  refine ⟨rfl, ⟨r, rfl⟩, fun w' ht hn hw hb => ⟨h.core.enter h0 ht hn hw, h.bp.kept hb.1 hb.2.1 hb.2.2, ?_⟩⟩
  obtain rfl := hp.c0
  exact Ph.own r L (.inl (sp_eq _ _ _ _)) hp.b0
end
end Go.Proofs.Ytacogelejffbhaa
