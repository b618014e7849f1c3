/- The malthus lock's invariant, in plain Lean: who stands in the row, who is put aside, who is on the way out. -/
import Derived.Test.YtacogelejffbhaaMalDo
namespace Go.Proofs.Ytacogelejffbhaa
open Go.RowKit

/-- what the words say: the tail, who is behind, who waits, the bench's first, last and links -/
structure WV where
  tl : Int
  nx : Nat → Int
  wt : Nat → Int
  bf : Int
  bl : Int
  lk : Nat → Int
def upd (f : Nat → Int) (j : Nat) (v : Int) : Nat → Int := fun k => if k = j then v else f k
theorem upd_eq (f : Nat → Int) (j : Nat) (v : Int) : upd f j v j = v := by simp [upd]
theorem upd_ne (f : Nat → Int) {j k : Nat} (v : Int) (h : k ≠ j) : upd f j v k = f k := by simp [upd, h]
theorem sp_eq (S : Nat → Nat → Int) (i t : Nat) (v : Int) : spPut S i t v i t = v := by simp [spPut]
theorem sp_ne (S : Nat → Nat → Int) {i j : Nat} (t t' : Nat) (v : Int) (h : j ≠ i) : spPut S i t v j t' = S j t' := by simp [spPut, h]
theorem sp_ot (S : Nat → Nat → Int) (i j : Nat) {t t' : Nat} (v : Int) (h : t' ≠ t) : spPut S i t v j t' = S j t' := by simp [spPut, h]

def lst : List Nat → Int
  | [] => 0
  | [z] => (z : Int) + 1
  | _ :: q :: r => lst (q :: r)
theorem lst_append : ∀ (Q : List Nat) (j : Nat), lst (Q ++ [j]) = (j : Int) + 1
  | [], _ => rfl
  | [_], _ => rfl
  | _ :: q :: r, j => lst_append (q :: r) j
theorem lst_mem : ∀ (Q : List Nat), Q ≠ [] → ∃ z ∈ Q, lst Q = (z : Int) + 1
  | [], h => absurd rfl h
  | [z], _ => ⟨z, by simp, rfl⟩
  | p :: q :: r, _ => by obtain ⟨z, hz, e⟩ := lst_mem (q :: r) (by simp); exact ⟨z, List.mem_cons_of_mem _ hz, e⟩
theorem lst_nil {Q : List Nat} : lst Q = 0 ↔ Q = [] := by
  constructor
  · intro h
    by_cases hq : Q = []
    · exact hq
    · obtain ⟨z, _, e⟩ := lst_mem Q hq; omega
  · rintro rfl; rfl
theorem lst_one {x : Nat} {r : List Nat} (hnd : (x :: r).Nodup) (h : lst (x :: r) = (x : Int) + 1) : r = [] := by
  cases r with
  | nil => rfl
  | cons q r =>
    obtain ⟨z, hz, e⟩ := lst_mem (q :: r) (by simp)
    have h2 : lst (x :: q :: r) = lst (q :: r) := rfl
    have : z = x := by omega
    subst this
    exact absurd hz (List.nodup_cons.1 hnd).1

/-- a row of threads: each behind the first one has noted who is ahead of it, or is known to that one -/
def QL (S : Nat → Nat → Int) (nx : Nat → Int) : List Nat → Prop
  | [] => True
  | [z] => nx z = 0
  | p :: q :: r => ((S q 0 = 4 ∧ S q 1 = (p : Int) + 1 ∧ nx p = 0) ∨ (S q 0 = 5 ∧ nx p = (q : Int) + 1)) ∧ QL S nx (q :: r)
theorem QL.congr {S S' : Nat → Nat → Int} {nx nx' : Nat → Int} : ∀ {Q : List Nat}, QL S nx Q → (∀ j ∈ Q, nx' j = nx j) → (∀ j ∈ Q.tail, S' j 0 = S j 0 ∧ S' j 1 = S j 1) → QL S' nx' Q
  | [], _, _, _ => trivial
  | [z], h, hn, _ => by have := hn z (by simp); unfold QL at h ⊢; omega
  | p :: q :: r, h, hn, hs => by
    obtain ⟨h1, h2⟩ := h
    have e1 := hn p (by simp)
    have e2 := hs q (by simp)
    refine ⟨?_, QL.congr h2 (fun j hj => hn j (List.mem_cons_of_mem _ hj)) (fun j hj => hs j (by simp at hj ⊢; exact .inr hj))⟩
    rw [e1, e2.1, e2.2]
    exact h1
theorem QL.append {S : Nat → Nat → Int} {nx : Nat → Int} {j : Nat} : ∀ {Q : List Nat}, QL S nx Q → Q ≠ [] → S j 0 = 4 → S j 1 = lst Q → nx j = 0 → QL S nx (Q ++ [j])
  | [], _, h, _, _, _ => absurd rfl h
  | [z], h, _, h4, h1, h0 => ⟨.inl ⟨h4, h1, h⟩, h0⟩
  | p :: q :: r, h, _, h4, h1, h0 => ⟨h.1, QL.append (Q := q :: r) h.2 (by simp) h4 h1 h0⟩
theorem QL.last {S : Nat → Nat → Int} {nx : Nat → Int} : ∀ {Q : List Nat} {z : Nat}, QL S nx Q → lst Q = (z : Int) + 1 → nx z = 0
  | [], _, _, h => by unfold lst at h; omega
  | [y], z, h, e => by unfold lst at e; have : y = z := by omega
                       subst this; exact h
  | _ :: q :: r, _, h, e => QL.last (Q := q :: r) h.2 e
theorem QL.link {S : Nat → Nat → Int} {nx : Nat → Int} {j : Nat} : ∀ {Q : List Nat}, QL S nx Q → Q.Nodup → j ∈ Q.tail → S j 0 = 4 →
    ∃ p ∈ Q, p ≠ j ∧ S j 1 = (p : Int) + 1 ∧ nx p = 0 ∧ QL (spPut S j 0 5) (upd nx p ((j : Int) + 1)) Q
  | [], _, _, hj, _ => by simp at hj
  | [z], _, _, hj, _ => by simp at hj
  | p :: q :: r, h, hnd, hj, h4 => by
    obtain ⟨h1, h2⟩ := h
    have hnd' := List.nodup_cons.1 hnd
    have hnd2 := List.nodup_cons.1 hnd'.2
    by_cases e : j = q
    · subst e
      have hp : p ≠ j := fun e => hnd'.1 (by simp [e])
      rcases h1 with h1 | h1
      · refine ⟨p, by simp, hp, h1.2.1, h1.2.2, .inr ⟨sp_eq _ _ _ _, upd_eq _ _ _⟩, h2.congr (fun k hk => upd_ne _ _ fun e => hnd'.1 (e ▸ hk)) fun k hk => ?_⟩
        have hk' : k ∈ r := by simpa using hk
        have : k ≠ j := fun e => hnd2.1 (e ▸ hk')
        exact ⟨sp_ne _ _ _ _ this, sp_ne _ _ _ _ this⟩
      · omega
    · have hj' : j ∈ (q :: r).tail := by simp at hj ⊢; exact hj.resolve_left e
      obtain ⟨p', hp', hne, ha, h0, hql⟩ := QL.link h2 hnd'.2 hj' h4
      have hpp : p ≠ p' := fun e => hnd'.1 (e ▸ hp')
      refine ⟨p', List.mem_cons_of_mem _ hp', hne, ha, h0, ?_, hql⟩
      rw [sp_ne _ _ _ _ (fun e' => e e'.symm), sp_ne _ _ _ _ (fun e' => e e'.symm), upd_ne _ _ hpp]
      exact h1

/-- who stands where: the row Q, those aside L, one in the hand c, the one that is on the way out o -/
structure Core (n : Nat) (w : WV) (S : Nat → Nat → Int) (Q L c : List Nat) (o : Option Nat) : Prop where
  nd : (Q ++ (L ++ c)).Nodup
  lt : ∀ j ∈ Q ++ (L ++ c), j < n
  mem : ∀ j, j < n → S j 0 = 4 ∨ S j 0 = 5 → j ∈ Q ++ (L ++ c)
  idle : ∀ j ∈ Q ++ (L ++ c), o ≠ some j → S j 0 = 4 ∨ S j 0 = 5
  five : ∀ j ∈ L ++ c, S j 0 = 5
  ownr : ∀ j, j < n → 10 ≤ S j 0 → o = some j
  own2 : ∀ x, o = some x → x < n ∧ 10 ≤ S x 0 ∧ x ∉ Q.tail ∧ x ∉ L ++ c
  pcs : ∀ j, j < n → PcOk (S j 0)
  tl : w.tl = lst Q
  ql : QL S w.nx Q
  w1 : ∀ j ∈ Q.tail ++ (L ++ c), w.wt j = 1
  p2 : ∀ j, j < n → S j 0 = 2 → w.nx j = 0
  p3 : ∀ j, j < n → S j 0 = 3 → w.nx j = 0 ∧ w.wt j = 1
section
variable {n : Nat} {w w' : WV} {S S' : Nat → Nat → Int} {Q L c : List Nat} {o : Option Nat}
/-- the one on the way out goes on -/
theorem Core.own {x : Nat} (h : Core n w S Q L c (some x)) (hS : ∀ j, j ≠ x → ∀ t, S' j t = S j t) (hp : 10 ≤ S' x 0 ∧ S' x 0 ≤ 24) (h1 : w'.tl = w.tl) (h2 : w'.nx = w.nx) (h3 : w'.wt = w.wt) : Core n w' S' Q L c (some x) := by
  have hx := h.own2 x rfl
  refine { nd := h.nd, lt := h.lt, mem := fun j hj hc => ?_, idle := fun j hj hc => ?_, five := fun j hj => ?_, ownr := fun j hj hc => ?_, own2 := fun y hy => ?_, pcs := fun j hj => ?_, tl := by rw [h1]; exact h.tl, ql := ?_, w1 := by rw [h3]; exact h.w1, p2 := fun j hj hc => ?_, p3 := fun j hj hc => ?_ }
  · by_cases e : j = x
    · subst e; omega
    · rw [hS j e] at hc; exact h.mem j hj hc
  · have e : j ≠ x := fun e => hc (by rw [e])
    rw [hS j e]; exact h.idle j hj hc
  · have e : j ≠ x := fun e => hx.2.2.2 (e ▸ hj)
    rw [hS j e]; exact h.five j hj
  · by_cases e : j = x
    · rw [e]
    · rw [hS j e] at hc; exact h.ownr j hj hc
  · obtain rfl : x = y := by simpa using hy
    exact ⟨hx.1, hp.1, hx.2.2⟩
  · by_cases e : j = x
    · subst e; exact .inr hp
    · rw [hS j e]; exact h.pcs j hj
  · refine h.ql.congr (fun j _ => by rw [h2]) fun j hj => ?_
    have e : j ≠ x := fun e => hx.2.2.1 (e ▸ hj)
    exact ⟨hS j e 0, hS j e 1⟩
  · have e : j ≠ x := fun e => by subst e; omega
    rw [h2]; rw [hS j e] at hc; exact h.p2 j hj hc
  · have e : j ≠ x := fun e => by subst e; omega
    rw [h2, h3]; rw [hS j e] at hc; exact h.p3 j hj hc
/-- one that has not come to its doorway goes on -/
theorem Core.early {j : Nat} {pc : Int} (h : Core n w S Q L c o) (hj : j < n) (h0 : 0 ≤ S j 0 ∧ S j 0 ≤ 3) (hpc : 0 ≤ pc ∧ pc ≤ 3) (hn : ∀ k, k ≠ j → w'.nx k = w.nx k) (hw : ∀ k, k ≠ j → w'.wt k = w.wt k) (ht : w'.tl = w.tl)
    (hp2 : pc = 2 → w'.nx j = 0) (hp3 : pc = 3 → w'.nx j = 0 ∧ w'.wt j = 1) : Core n w' (spPut S j 0 pc) Q L c o := by
  have hno : j ∉ Q ++ (L ++ c) := fun hm => by
    by_cases e : o = some j
    · have := (h.own2 j e).2.1; omega
    · have := h.idle j hm e; omega
  have ho : o ≠ some j := fun e => by have := (h.own2 j e).2.1; omega
  have hne : ∀ k ∈ Q ++ (L ++ c), k ≠ j := fun k hk e => hno (e ▸ hk)
  refine { nd := h.nd, lt := h.lt, mem := fun k hk hc => ?_, idle := fun k hk hc => ?_, five := fun k hk => ?_, ownr := fun k hk hc => ?_, own2 := fun y hy => ?_, pcs := fun k hk => ?_, tl := by rw [ht]; exact h.tl, ql := ?_, w1 := fun k hk => ?_, p2 := fun k hk hc => ?_, p3 := fun k hk hc => ?_ }
  · by_cases e : k = j
    · subst e; rw [sp_eq] at hc; omega
    · rw [sp_ne _ _ _ _ e] at hc; exact h.mem k hk hc
  · rw [sp_ne _ _ _ _ (hne k hk)]; exact h.idle k hk hc
  · rw [sp_ne _ _ _ _ (hne k (List.mem_append.2 (.inr hk)))]; exact h.five k hk
  · by_cases e : k = j
    · subst e; rw [sp_eq] at hc; omega
    · rw [sp_ne _ _ _ _ e] at hc; exact h.ownr k hk hc
  · have e : y ≠ j := fun e => ho (e ▸ hy)
    rw [sp_ne _ _ _ _ e]; exact h.own2 y hy
  · by_cases e : k = j
    · subst e; rw [sp_eq]; exact .inl (by omega)
    · rw [sp_ne _ _ _ _ e]; exact h.pcs k hk
  · refine h.ql.congr (fun k hk => hn k (hne k (List.mem_append.2 (.inl hk)))) fun k hk => ?_
    have e := hne k (List.mem_append.2 (.inl (List.mem_of_mem_tail hk)))
    exact ⟨sp_ne _ _ _ _ e, sp_ne _ _ _ _ e⟩
  · have e : k ≠ j := hne k (by rcases List.mem_append.1 hk with hk | hk; exact List.mem_append.2 (.inl (List.mem_of_mem_tail hk)); exact List.mem_append.2 (.inr hk))
    rw [hw k e]; exact h.w1 k hk
  · by_cases e : k = j
    · subst e; rw [sp_eq] at hc; exact hp2 hc
    · rw [sp_ne _ _ _ _ e] at hc; rw [hn k e]; exact h.p2 k hk hc
  · by_cases e : k = j
    · subst e; rw [sp_eq] at hc; exact hp3 hc
    · rw [sp_ne _ _ _ _ e] at hc; rw [hn k e, hw k e]; exact h.p3 k hk hc
/-- the first one comes to its doorway, and is in -/
theorem Core.door0 {j : Nat} {v : Int} (h : Core n w S [] [] [] none) (hj : j < n) (h0 : S j 0 = 3) (ht : w'.tl = (j : Int) + 1) (hn : w'.nx = w.nx) (hw : w'.wt = w.wt) : Core n w' (spPut (spPut S j 1 v) j 0 10) [j] [] [] (some j) := by
  have hs : ∀ k, k ≠ j → spPut (spPut S j 1 v) j 0 10 k 0 = S k 0 := fun k e => by rw [sp_ne _ _ _ _ e, sp_ne _ _ _ _ e]
  have hsj : spPut (spPut S j 1 v) j 0 10 j 0 = 10 := sp_eq _ _ _ _
  refine { nd := by simp, lt := by simpa using hj, mem := fun k hk hc => ?_, idle := fun k hk hc => ?_, five := by simp, ownr := fun k hk hc => ?_, own2 := fun y hy => ?_, pcs := fun k hk => ?_, tl := ht, ql := by unfold QL; rw [hn]; exact (h.p3 j hj h0).1, w1 := by simp, p2 := fun k hk hc => ?_, p3 := fun k hk hc => ?_ }
  · by_cases e : k = j
    · subst e; simp
    · rw [hs k e] at hc; simpa using h.mem k hk hc
  · simp at hk; subst hk; exact absurd rfl hc
  · by_cases e : k = j
    · rw [e]
    · rw [hs k e] at hc; have := h.ownr k hk hc; simp at this
  · obtain rfl : j = y := by simpa using hy
    exact ⟨hj, by rw [hsj]; omega, by simp, by simp⟩
  · by_cases e : k = j
    · subst e; rw [hsj]; exact .inr (by omega)
    · rw [hs k e]; exact h.pcs k hk
  · have e : k ≠ j := fun e => by subst e; omega
    rw [hs k e] at hc; rw [hn]; exact h.p2 k hk hc
  · have e : k ≠ j := fun e => by subst e; omega
    rw [hs k e] at hc; rw [hn, hw]; exact h.p3 k hk hc
/-- another one comes to its doorway -/
theorem Core.door {j : Nat} (h : Core n w S Q L c o) (hj : j < n) (h0 : S j 0 = 3) (hq : Q ≠ []) (ht : w'.tl = (j : Int) + 1) (hn : w'.nx = w.nx) (hw : w'.wt = w.wt) : Core n w' (spPut (spPut S j 1 (lst Q)) j 0 4) (Q ++ [j]) L c o := by
  have ho : o ≠ some j := fun e => by have := (h.own2 j e).2.1; omega
  have hno : j ∉ Q ++ (L ++ c) := fun hm => by have := h.idle j hm ho; omega
  have hne : ∀ k ∈ Q ++ (L ++ c), k ≠ j := fun k hk e => hno (e ▸ hk)
  have hs : ∀ k, k ≠ j → ∀ t, spPut (spPut S j 1 (lst Q)) j 0 4 k t = S k t := fun k e t => by rw [sp_ne _ _ _ _ e, sp_ne _ _ _ _ e]
  have hsj : spPut (spPut S j 1 (lst Q)) j 0 4 j 0 = 4 := sp_eq _ _ _ _
  have hsj1 : spPut (spPut S j 1 (lst Q)) j 0 4 j 1 = lst Q := by rw [sp_ot _ _ _ _ (by omega), sp_eq]
  have hmm : ∀ k, k ∈ (Q ++ [j]) ++ (L ++ c) ↔ k = j ∨ k ∈ Q ++ (L ++ c) := fun k => by simp; grind
  have htl : (Q ++ [j]).tail = Q.tail ++ [j] := by cases Q with | nil => exact absurd rfl hq | cons a r => rfl
  refine { nd := ?_, lt := fun k hk => ?_, mem := fun k hk hc => ?_, idle := fun k hk hc => ?_, five := fun k hk => ?_, ownr := fun k hk hc => ?_, own2 := fun y hy => ?_, pcs := fun k hk => ?_, tl := by rw [ht, lst_append], ql := ?_, w1 := fun k hk => ?_, p2 := fun k hk hc => ?_, p3 := fun k hk hc => ?_ }
  · have := h.nd
    rw [List.append_assoc]
    rw [List.nodup_append] at this ⊢
    grind
  · rcases (hmm k).1 hk with e | hk
    · rw [e]; exact hj
    · exact h.lt k hk
  · rw [hmm]
    by_cases e : k = j
    · exact .inl e
    · rw [hs k e] at hc; exact .inr (h.mem k hk hc)
  · by_cases e : k = j
    · subst e; exact .inl hsj
    · rw [hs k e]; exact h.idle k (((hmm k).1 hk).resolve_left e) hc
  · rw [hs k (hne k (List.mem_append.2 (.inr hk)))]; exact h.five k hk
  · by_cases e : k = j
    · subst e; omega
    · rw [hs k e] at hc; exact h.ownr k hk hc
  · have e : y ≠ j := fun e => ho (e ▸ hy)
    have := h.own2 y hy
    rw [hs y e, htl]
    exact ⟨this.1, this.2.1, by simp; exact ⟨this.2.2.1, e⟩, this.2.2.2⟩
  · by_cases e : k = j
    · subst e; rw [hsj]; exact .inl (by omega)
    · rw [hs k e]; exact h.pcs k hk
  · refine QL.append ?_ hq hsj hsj1 (by rw [hn]; exact (h.p3 j hj h0).1)
    refine h.ql.congr (fun k _ => by rw [hn]) fun k hk => ?_
    have e := hne k (List.mem_append.2 (.inl (List.mem_of_mem_tail hk)))
    exact ⟨hs k e 0, hs k e 1⟩
  · rw [htl] at hk
    rw [hw]
    by_cases e : k = j
    · subst e; exact (h.p3 k hj h0).2
    · exact h.w1 k (by simp at hk ⊢; grind)
  · have e : k ≠ j := fun e => by subst e; omega
    rw [hs k e] at hc; rw [hn]; exact h.p2 k hk hc
  · have e : k ≠ j := fun e => by subst e; omega
    rw [hs k e] at hc; rw [hn, hw]; exact h.p3 k hk hc
/-- one behind another tells that one of itself -/
theorem Core.link {j : Nat} (h : Core n w S Q L c o) (hj : j < n) (h0 : S j 0 = 4) (hh : ∀ a r, Q = a :: r → S a 0 ≠ 4) :
    ∃ p, p < n ∧ S j 1 = (p : Int) + 1 ∧ ∀ w' : WV, w'.tl = w.tl → w'.nx = upd w.nx p ((j : Int) + 1) → w'.wt = w.wt → Core n w' (spPut S j 0 5) Q L c o := by
  have hm := h.mem j hj (.inl h0)
  have hjt : j ∈ Q.tail := by
    rcases List.mem_append.1 hm with hm | hm
    · cases Q with
      | nil => simp at hm
      | cons a r =>
        rcases List.mem_cons.1 hm with e | hm
        · exact absurd h0 (hh j r (by rw [e]))
        · exact hm
    · have := h.five j hm; omega
  obtain ⟨p, hp, hpj, ha, hz, hql⟩ := h.ql.link (List.nodup_append.1 h.nd).1 hjt h0
  have ho : o ≠ some j := fun e => by have := (h.own2 j e).2.1; omega
  have hpn := h.lt p (List.mem_append.2 (.inl hp))
  have hpp : S p 0 ≠ 2 ∧ S p 0 ≠ 3 := by
    by_cases e : o = some p
    · have := (h.own2 p e).2.1; omega
    · have := h.idle p (List.mem_append.2 (.inl hp)) e; omega
  refine ⟨p, hpn, ha, fun w' ht hn hw => ?_⟩
  refine { nd := h.nd, lt := h.lt, mem := fun k hk hc => ?_, idle := fun k hk hc => ?_, five := fun k hk => ?_, ownr := fun k hk hc => ?_, own2 := fun y hy => ?_, pcs := fun k hk => ?_, tl := by rw [ht]; exact h.tl, ql := by rw [hn]; exact hql, w1 := by rw [hw]; exact h.w1, p2 := fun k hk hc => ?_, p3 := fun k hk hc => ?_ }
  · by_cases e : k = j
    · rw [e]; exact hm
    · rw [sp_ne _ _ _ _ e] at hc; exact h.mem k hk hc
  · by_cases e : k = j
    · subst e; exact .inr (sp_eq _ _ _ _)
    · rw [sp_ne _ _ _ _ e]; exact h.idle k hk hc
  · by_cases e : k = j
    · subst e; exact sp_eq _ _ _ _
    · rw [sp_ne _ _ _ _ e]; exact h.five k hk
  · by_cases e : k = j
    · subst e; rw [sp_eq] at hc; omega
    · rw [sp_ne _ _ _ _ e] at hc; exact h.ownr k hk hc
  · have e : y ≠ j := fun e => ho (e ▸ hy)
    rw [sp_ne _ _ _ _ e]; exact h.own2 y hy
  · by_cases e : k = j
    · subst e; rw [sp_eq]; exact .inl (by omega)
    · rw [sp_ne _ _ _ _ e]; exact h.pcs k hk
  · by_cases e : k = j
    · subst e; rw [sp_eq] at hc; omega
    · rw [sp_ne _ _ _ _ e] at hc
      rw [hn, upd_ne _ _ (fun e => by subst e; exact hpp.1 hc)]; exact h.p2 k hk hc
  · by_cases e : k = j
    · subst e; rw [sp_eq] at hc; omega
    · rw [sp_ne _ _ _ _ e] at hc
      rw [hn, hw, upd_ne _ _ (fun e => by subst e; exact hpp.2 hc)]; exact h.p3 k hk hc
/-- the first of the row is in -/
theorem Core.enter {j : Nat} {r : List Nat} (h : Core n w S (j :: r) L c none) (h0 : S j 0 = 5) (ht : w'.tl = w.tl) (hn : w'.nx = w.nx) (hw : w'.wt = w.wt) : Core n w' (spPut S j 0 10) (j :: r) L c (some j) := by
  have hj : j < n := h.lt j (by simp)
  have hnd := List.nodup_cons.1 (show (j :: (r ++ (L ++ c))).Nodup from h.nd)
  refine { nd := h.nd, lt := h.lt, mem := fun k hk hc => ?_, idle := fun k hk hc => ?_, five := fun k hk => ?_, ownr := fun k hk hc => ?_, own2 := fun y hy => ?_, pcs := fun k hk => ?_, tl := by rw [ht]; exact h.tl, ql := ?_, w1 := by rw [hw]; exact h.w1, p2 := fun k hk hc => ?_, p3 := fun k hk hc => ?_ }
  · by_cases e : k = j
    · subst e; simp
    · rw [sp_ne _ _ _ _ e] at hc; exact h.mem k hk hc
  · have e : k ≠ j := fun e => hc (by rw [e])
    rw [sp_ne _ _ _ _ e]; exact h.idle k hk (by simp)
  · have e : k ≠ j := fun e => hnd.1 (by subst e; exact List.mem_append.2 (.inr hk))
    rw [sp_ne _ _ _ _ e]; exact h.five k hk
  · by_cases e : k = j
    · rw [e]
    · rw [sp_ne _ _ _ _ e] at hc; have := h.ownr k hk hc; simp at this
  · obtain rfl : j = y := by simpa using hy
    exact ⟨hj, by rw [sp_eq]; omega, fun hm => hnd.1 (List.mem_append.2 (.inl hm)), fun hm => hnd.1 (List.mem_append.2 (.inr hm))⟩
  · by_cases e : k = j
    · subst e; rw [sp_eq]; exact .inr (by omega)
    · rw [sp_ne _ _ _ _ e]; exact h.pcs k hk
  · refine h.ql.congr (fun k _ => by rw [hn]) fun k hk => ?_
    have e : k ≠ j := fun e => hnd.1 (by subst e; exact List.mem_append.2 (.inl hk))
    exact ⟨sp_ne _ _ _ _ e, sp_ne _ _ _ _ e⟩
  · by_cases e : k = j
    · subst e; rw [sp_eq] at hc; omega
    · rw [sp_ne _ _ _ _ e] at hc; rw [hn]; exact h.p2 k hk hc
  · by_cases e : k = j
    · subst e; rw [sp_eq] at hc; omega
    · rw [sp_ne _ _ _ _ e] at hc; rw [hn, hw]; exact h.p3 k hk hc
/-- the one on the way out steps out of the row, or the others change places -/
theorem Core.re {x : Nat} {Q0 Q' L' c' : List Nat} {o' : Option Nat} (h : Core n w S Q L c (some x)) (hQ : Q = x :: Q0 ∨ (Q = Q0 ∧ x ∉ Q0)) (hperm : (Q' ++ (L' ++ c')).Perm (Q0 ++ (L ++ c)))
    (hS : ∀ j, j ≠ x → ∀ t, S' j t = S j t) (ho : (o' = some x ∧ 10 ≤ S' x 0 ∧ S' x 0 ≤ 24) ∨ (o' = none ∧ S' x 0 = 0))
    (hf : ∀ j ∈ L' ++ c', S j 0 = 5) (ht : w'.tl = lst Q') (hql : QL S w'.nx Q') (hw1 : ∀ j ∈ Q'.tail ++ (L' ++ c'), w'.wt j = 1)
    (hk : ∀ k, k ∉ Q' ++ (L' ++ c') → w'.nx k = w.nx k ∧ w'.wt k = w.wt k) : Core n w' S' Q' L' c' o' := by
  have hx := h.own2 x rfl
  have hx0 : x ∉ Q0 := by
    rcases hQ with rfl | ⟨rfl, h1⟩
    · simpa using hx.2.2.1
    · exact h1
  have hmm : ∀ j, j ∈ Q' ++ (L' ++ c') ↔ (j ≠ x ∧ j ∈ Q ++ (L ++ c)) := fun j => by
    rw [hperm.mem_iff]
    have h4 := hx.2.2.2
    rcases hQ with rfl | ⟨rfl, h1⟩ <;> simp at h4 ⊢ <;> grind
  have hnd : (Q0 ++ (L ++ c)).Nodup := by
    have := h.nd
    rcases hQ with rfl | ⟨rfl, h1⟩
    · exact (List.nodup_cons.1 this).2
    · exact this
  have hne : ∀ k ∈ Q' ++ (L' ++ c'), k ≠ x := fun k hk => ((hmm k).1 hk).1
  have hsx : ¬ (S' x 0 = 4 ∨ S' x 0 = 5 ∨ S' x 0 = 2 ∨ S' x 0 = 3) := by omega
  refine { nd := hperm.nodup_iff.2 hnd, lt := fun k hk => h.lt k ((hmm k).1 hk).2, mem := fun k hk hc => ?_, idle := fun k hk hc => ?_, five := fun k hk => ?_, ownr := fun k hk hc => ?_, own2 := fun y hy => ?_, pcs := fun k hk => ?_, tl := ht, ql := ?_, w1 := hw1, p2 := fun k hk2 hc => ?_, p3 := fun k hk2 hc => ?_ }
  · by_cases e : k = x
    · subst e; omega
    · rw [hS k e] at hc; exact (hmm k).2 ⟨e, h.mem k hk hc⟩
  · have e := hne k hk
    rw [hS k e]; exact h.idle k ((hmm k).1 hk).2 (fun e' => e (by simpa using e'.symm))
  · rw [hS k (hne k (List.mem_append.2 (.inr hk)))]; exact hf k hk
  · by_cases e : k = x
    · subst e; rcases ho with ⟨rfl, _⟩ | ⟨_, h0⟩
      · rfl
      · omega
    · rw [hS k e] at hc; have := h.ownr k hk hc; simp at this; exact absurd this.symm e
  · rcases ho with ⟨rfl, h1⟩ | ⟨rfl, _⟩
    · obtain rfl : x = y := by simpa using hy
      exact ⟨hx.1, h1.1, fun hm => hne x (List.mem_append.2 (.inl (List.mem_of_mem_tail hm))) rfl, fun hm => hne x (List.mem_append.2 (.inr hm)) rfl⟩
    · simp at hy
  · by_cases e : k = x
    · subst e
      rcases ho with ⟨_, h1⟩ | ⟨_, h1⟩
      · exact .inr h1
      · rw [h1]; exact .inl (by omega)
    · rw [hS k e]; exact h.pcs k hk
  · refine hql.congr (fun k _ => rfl) fun k hk => ?_
    have e := hne k (List.mem_append.2 (.inl (List.mem_of_mem_tail hk)))
    exact ⟨hS k e 0, hS k e 1⟩
  · have e : k ≠ x := fun e => by subst e; omega
    rw [hS k e] at hc
    have : k ∉ Q' ++ (L' ++ c') := fun hm => by have := h.idle k ((hmm k).1 hm).2 (fun e' => e (by simpa using e'.symm)); omega
    rw [(hk k this).1]; exact h.p2 k hk2 hc
  · have e : k ≠ x := fun e => by subst e; omega
    rw [hS k e] at hc
    have : k ∉ Q' ++ (L' ++ c') := fun hm => by have := h.idle k ((hmm k).1 hm).2 (fun e' => e (by simpa using e'.symm)); omega
    rw [(hk k this).1, (hk k this).2]; exact h.p3 k hk2 hc
end
end Go.Proofs.Ytacogelejffbhaa
