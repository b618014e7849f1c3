/- The malthus lock's invariant, in plain Lean: each move of the one on the way out. -/
import Derived.Test.YtacogelejffbhaaMalMove
namespace Go.Proofs.Ytacogelejffbhaa
open Go.RowKit

section
variable {n : Nat} {w w' : WV} {B B' : BK} {d d' : Int} {S S' : Nat → Nat → Int} {Q Q' L c : List Nat} {o : Option Nat} {j : Nat}
theorem All.who (h : All n w B d S Q L c o) (hj : j < n) (h0 : 10 ≤ S j 0) : o = some j := h.core.ownr j hj h0
theorem sp2 (S : Nat → Nat → Int) (j : Nat) (t : Nat) (v pc : Int) : ∀ k, k ≠ j → ∀ u, spPut (spPut S j t v) j 0 pc k u = S k u := fun _ e _ => by rw [sp_ne _ _ _ _ e, sp_ne _ _ _ _ e]
theorem sp1 (S : Nat → Nat → Int) (j : Nat) (pc : Int) : ∀ k, k ≠ j → ∀ u, spPut S j 0 pc k u = S k u := fun _ e _ => sp_ne _ _ _ _ e
/-- who is behind the first one, when it is known -/
theorem QL.second {S : Nat → Nat → Int} {nx : Nat → Int} {x : Nat} {r : List Nat} (h : QL S nx (x :: r)) (h0 : nx x ≠ 0) : ∃ q r', r = q :: r' ∧ nx x = (q : Int) + 1 ∧ S q 0 = 5 := by
  cases r with
  | nil => exact absurd h h0
  | cons q r =>
    rcases h.1 with h1 | h1
    · exact absurd h1.2.2 h0
    · exact ⟨q, r, rfl, h1.2, h1.1⟩
theorem QL.tail {S : Nat → Nat → Int} {nx : Nat → Int} {x : Nat} {r : List Nat} (h : QL S nx (x :: r)) : QL S nx r := by
  cases r with
  | nil => trivial
  | cons q r => exact h.2
theorem All.t10 (h : All n w B d S Q L c o) (hj : j < n) (h0 : S j 0 = 10) : All n w B d (spPut S j 0 11) Q L c (some j) := by
  obtain rfl := h.who hj (by omega)
  refine ⟨h.core.own (sp1 S j 11) (by rw [sp_eq]; omega) rfl rfl rfl, h.bp, ?_⟩
  have hp : Ph w B d S j Q L c := h.ph
  show Ph w B d _ j Q L c
  cases hp
  case own r h1 h2 => exact .own r L (.inr (.inl (sp_eq _ _ _ _))) h2
  all_goals omega
theorem All.t11 (h : All n w B d S Q L c o) (hj : j < n) (h0 : S j 0 = 11) (v : Int) : All n w B d (spPut (spPut S j 3 v) j 0 12) Q L c (some j) := by
  obtain rfl := h.who hj (by omega)
  refine ⟨h.core.own (sp2 S j 3 v 12) (by rw [sp_eq]; omega) rfl rfl rfl, h.bp, ?_⟩
  have hp : Ph w B d S j Q L c := h.ph
  show Ph w B d _ j Q L c
  cases hp
  case own r h1 h2 => exact .own r L (.inr (.inr (sp_eq _ _ _ _))) h2
  all_goals omega
theorem All.t12 (h : All n w B d S Q L c o) (hj : j < n) (h0 : S j 0 = 12) :
    B.step = 0 ∧ (w.nx j ≠ 0 → All n w B d (spPut (spPut S j 1 (w.nx j)) j 0 21) Q L c (some j)) ∧ All n w ⟨5, 1, B.n, B.got⟩ d (spPut (spPut S j 1 (w.nx j)) j 0 13) Q L c (some j) := by
  obtain rfl := h.who hj (by omega)
  have hp : Ph w B d S j Q L c := h.ph
  have hx := h.core.own2 j rfl
  cases hp
  case own r h1 h2 =>
    have hne : ∀ q, q ∈ r → q ≠ j := fun q hq e => hx.2.2.1 (by rw [← e]; simpa using hq)
    refine ⟨h2, fun hn => ⟨h.core.own (sp2 S j 1 _ 21) (by rw [sp_eq]; omega) rfl rfl rfl, h.bp, ?_⟩, ⟨h.core.own (sp2 S j 1 _ 13) (by rw [sp_eq]; omega) rfl rfl rfl, .inr (.inl ⟨rfl, bp_rep h.bp h2⟩), ?_⟩⟩
    · obtain ⟨q, r', rfl, hq, h5⟩ := h.core.ql.second hn
      exact Ph.second q r' L (.inl (sp_eq _ _ _ _)) h2 (by rw [sp_ot _ _ _ _ (by omega), sp_eq]; exact hq) (by rw [sp2 S j 1 _ 21 q (hne q (by simp))]; exact h5)
    · refine Ph.take r L (sp_eq _ _ _ _) (by simp) ?_
      rw [sp_ot _ _ _ _ (by omega), sp_eq]
      by_cases hn : w.nx j = 0
      · exact .inl hn
      · obtain ⟨q, r', rfl, hq, h5⟩ := h.core.ql.second hn
        exact .inr ⟨q, r', rfl, hq, by rw [sp2 S j 1 _ 13 q (hne q (by simp))]; exact h5⟩
  all_goals omega
theorem bbW_same (w : WV) (B : BK) : (bbW w B).tl = w.tl ∧ (bbW w B).nx = w.nx ∧ (bbW w B).wt = w.wt := by
  unfold bbW; (repeat' split) <;> exact ⟨rfl, rfl, rfl⟩
/-- taking from aside: who stands aside changes -/
theorem Core.perm {L' c' : List Nat} (h : Core n w S Q L c o) (hp : (L' ++ c').Perm (L ++ c)) : Core n w S Q L' c' o := by
  have hm : ∀ k, k ∈ L' ++ c' ↔ k ∈ L ++ c := fun k => hp.mem_iff
  have hm2 : ∀ k, k ∈ Q ++ (L' ++ c') ↔ k ∈ Q ++ (L ++ c) := fun k => by rw [List.mem_append, hm, ← List.mem_append]
  have hm3 : ∀ k, k ∈ Q.tail ++ (L' ++ c') ↔ k ∈ Q.tail ++ (L ++ c) := fun k => by rw [List.mem_append, hm, ← List.mem_append]
  exact { nd := (hp.append_left Q).nodup_iff.2 h.nd, lt := fun k hk => h.lt k ((hm2 k).1 hk), mem := fun k hk hc => (hm2 k).2 (h.mem k hk hc), idle := fun k hk hc => h.idle k ((hm2 k).1 hk) hc, five := fun k hk => h.five k ((hm k).1 hk),
          ownr := h.ownr, own2 := fun x hx => ⟨(h.own2 x hx).1, (h.own2 x hx).2.1, (h.own2 x hx).2.2.1, fun hc => (h.own2 x hx).2.2.2 ((hm x).1 hc)⟩, pcs := h.pcs, tl := h.tl, ql := h.ql, w1 := fun k hk => h.w1 k ((hm3 k).1 hk), p2 := h.p2, p3 := h.p3 }
theorem All.t13 (h : All n w B d S Q L c o) (hj : j < n) (h0 : S j 0 = 13) :
    (bbR w B = false ∧ All n (bbW w B) (bbB w B) d S Q L c (some j)) ∨
    (bbR w B = true ∧ ∃ L' c', All n (bbW w B) (bbB w B) d (spPut (spPut S j 2 (bbB w B).got) j 0 (mTk (bbB w B).got (S j 1))) Q L' c' (some j)) := by
  obtain rfl := h.who hj (by omega)
  have hp : Ph w B d S j Q L c := h.ph
  have hx := h.core.own2 j rfl
  obtain ⟨e1, e2, e3⟩ := bbW_same w B
  cases hp
  case take r h1 h2 h3 =>
    have hne : ∀ q, q ∈ r → q ≠ j := fun q hq e => hx.2.2.1 (by rw [← e]; simpa using hq)
    rcases bp_take h.bp h2 with ⟨hR, hbp, hs⟩ | ⟨hR, hs, hg, hbp⟩
    · exact .inl ⟨hR, h.core.own (fun _ _ _ => rfl) (by omega) e1 e2 e3, hbp, Ph.take r L h0 hs h3⟩
    · right
      refine ⟨hR, ?_⟩
      rw [hg]
      have hjl := hx.2.2.2
      cases L with
      | nil =>
        refine ⟨[], [], h.core.own (sp2 S j 2 _ _) ?_ e1 e2 e3, hbp, ?_⟩
        · rw [sp_eq]; unfold mTk fst'; split <;> (try split) <;> omega
        · show Ph _ _ _ _ _ _ _ _
          unfold mTk fst'
          rw [if_pos rfl]
          rcases h3 with h3 | ⟨q, r', rfl, h4, h5⟩
          · rw [if_pos h3]
            exact Ph.free r (sp_eq _ _ _ _) hs
          · rw [if_neg (by omega)]
            exact Ph.second q r' [] (.inl (sp_eq _ _ _ _)) hs (by rw [sp_ot _ _ _ _ (by omega), sp_ot _ _ _ _ (by omega)]; exact h4) (by rw [sp2 S j 2 _ _ q (hne q (by simp))]; exact h5)
      | cons y L =>
        have hy : fst' (y :: L) = (y : Int) + 1 := rfl
        refine ⟨L, [y], Core.own (h.core.perm ?_) (sp2 S j 2 _ _) ?_ e1 e2 e3, hbp, ?_⟩
        · simp
        · rw [sp_eq, hy]; unfold mTk; rw [if_neg (by omega)]; split <;> omega
        · show Ph _ _ _ _ _ _ _ _
          rw [hy]
          unfold mTk
          rw [if_neg (by omega)]
          rcases h3 with h3 | ⟨q, r', rfl, h4, h5⟩
          · rw [if_pos h3]
            exact Ph.bare r L y (sp_eq _ _ _ _) hs (by rw [sp_ot _ _ _ _ (by omega), sp_eq])
          · rw [if_neg (by omega)]
            exact Ph.tie q r' L y (sp_eq _ _ _ _) hs (by rw [sp_ot _ _ _ _ (by omega), sp_ot _ _ _ _ (by omega)]; exact h4) (by rw [sp2 S j 2 _ _ q (hne q (by simp))]; exact h5) (by rw [sp_ot _ _ _ _ (by omega), sp_eq])
  all_goals omega
theorem Core.inc {y : Nat} (h : Core n w S Q L [y] o) : y < n ∧ S y 0 = 5 ∧ w.wt y = 1 ∧ y ∉ Q ∧ y ∉ L ∧ o ≠ some y := by
  have hnd := h.nd
  rw [List.nodup_append] at hnd
  refine ⟨h.lt y (by simp), h.five y (by simp), h.w1 y (by simp), fun hm => hnd.2.2 y hm y (by simp) rfl, fun hm => ?_, fun e => (h.own2 y e).2.2.2 (by simp)⟩
  have := hnd.2.1
  rw [List.nodup_append] at this
  exact this.2.2 y hm y (by simp) rfl
theorem All.t14 (h : All n w B d S Q L c o) (hj : j < n) (h0 : S j 0 = 14) :
    ∃ y, y < n ∧ S j 2 = (y : Int) + 1 ∧ ∃ Q' c', All n { w with nx := upd w.nx y (S j 1) } B d (spPut S j 0 18) Q' L c' (some j) := by
  obtain rfl := h.who hj (by omega)
  have hp : Ph w B d S j Q L c := h.ph
  have hx := h.core.own2 j rfl
  cases hp
  case tie q r y h1 h2 h3 h4 h5 =>
    obtain ⟨y1, y2, y3, y4, y5, y6⟩ := h.core.inc
    have yj : j ≠ y := fun e => y4 (by simp [e])
    have yq : q ≠ y := fun e => y4 (by simp [e])
    refine ⟨y, y1, h5, y :: q :: r, [], ?_, h.bp.kept rfl rfl rfl, ?_⟩
    · refine Core.re h.core (Q0 := q :: r) (.inl rfl) ?_ (sp1 S j 18) (.inl ⟨rfl, by rw [sp_eq]; omega, by rw [sp_eq]; omega⟩) (fun k hk => h.core.five k (by simp at hk ⊢; exact .inl hk)) h.core.tl ?_ (fun k hk => h.core.w1 k (by simp at hk ⊢; grind)) (fun k hk => ⟨upd_ne _ _ (fun e => hk (by simp [e])), rfl⟩)
      · have : (y :: q :: r ++ (L ++ [])).Perm ((q :: r ++ L) ++ [y]) := by
          have := List.perm_append_comm (l₁ := [y]) (l₂ := q :: r ++ L)
          simpa using this
        simpa using this
      · refine ⟨.inr ⟨h4, ?_⟩, h.core.ql.tail.congr (fun k hk => upd_ne _ _ (fun e => y4 (by rw [← e]; exact List.mem_cons_of_mem _ hk))) (fun k _ => ⟨rfl, rfl⟩)⟩
        show upd w.nx y (S j 1) y = _
        rw [upd_eq]; exact h3
    · refine Ph.call y (q :: r) L (sp_eq _ _ _ _) h2 (by rw [sp_ot _ _ _ _ (by omega)]; exact h5) (by rw [sp1 S j 18 y yj.symm]; exact y2) y3 yj
  all_goals omega
theorem All.t15 (h : All n w B d S Q L c o) (hj : j < n) (h0 : S j 0 = 15) :
    ∃ y, y < n ∧ S j 2 = (y : Int) + 1 ∧ All n { w with nx := upd w.nx y 0 } B d (spPut S j 0 16) Q L c (some j) := by
  obtain rfl := h.who hj (by omega)
  have hp : Ph w B d S j Q L c := h.ph
  have hx := h.core.own2 j rfl
  cases hp
  case bare r y h1 h2 h3 =>
    obtain ⟨y1, y2, y3, y4, y5, y6⟩ := h.core.inc
    have hc := h.core.own (S' := spPut S j 0 16) (w' := w) (sp1 S j 16) (by rw [sp_eq]; omega) rfl rfl rfl
    have yj : y ≠ j := fun e => y4 (by simp [e])
    refine ⟨y, y1, h3, ?_, h.bp.kept rfl rfl rfl, Ph.swap r L y (sp_eq _ _ _ _) h2 (by rw [sp_ot _ _ _ _ (by omega)]; exact h3) (upd_eq _ _ _)⟩
    refine { hc with ql := hc.ql.congr (fun k hk => upd_ne _ _ (fun e => y4 (by rw [← e]; exact hk))) (fun k _ => ⟨rfl, rfl⟩), p2 := fun k hk h2 => ?_, p3 := fun k hk h2 => ?_ }
    · have e : k ≠ y := fun e => by subst e; rw [sp1 S j 16 k yj] at h2; omega
      show upd w.nx y 0 k = 0
      rw [upd_ne _ _ e]; exact hc.p2 k hk h2
    · have e : k ≠ y := fun e => by subst e; rw [sp1 S j 16 k yj] at h2; omega
      show upd w.nx y 0 k = 0 ∧ _
      rw [upd_ne _ _ e]; exact hc.p3 k hk h2
  all_goals omega
theorem All.t16 (h : All n w B d S Q L c o) (hj : j < n) (h0 : S j 0 = 16) :
    (w.tl = (j : Int) + 1 → ∃ Q' c', All n { w with tl := S j 2 } B d (spPut S j 0 18) Q' L c' (some j)) ∧ (w.tl ≠ (j : Int) + 1 → All n w B d (spPut S j 0 17) Q L c (some j)) := by
  obtain rfl := h.who hj (by omega)
  have hp : Ph w B d S j Q L c := h.ph
  have hx := h.core.own2 j rfl
  cases hp
  case swap r y h1 h2 h3 h4 =>
    obtain ⟨y1, y2, y3, y4, y5, y6⟩ := h.core.inc
    have yj : j ≠ y := fun e => y4 (by simp [e])
    refine ⟨fun ht => ?_, fun ht => ?_⟩
    · have hr : r = [] := lst_one (List.nodup_append.1 h.core.nd).1 (by rw [← h.core.tl]; exact ht)
      subst hr
      refine ⟨[y], [], ?_, h.bp.kept rfl rfl rfl, Ph.call y [] L (sp_eq _ _ _ _) h2 (by rw [sp_ot _ _ _ _ (by omega)]; exact h3) (by rw [sp1 S j 18 y yj.symm]; exact y2) y3 yj⟩
      refine Core.re h.core (Q0 := []) (.inl rfl) ?_ (sp1 S j 18) (.inl ⟨rfl, by rw [sp_eq]; omega, by rw [sp_eq]; omega⟩) (fun k hk => h.core.five k (by simp at hk ⊢; exact .inl hk)) h3 h4 (fun k hk => h.core.w1 k (by simp at hk ⊢; exact .inl hk)) (fun k hk => ⟨rfl, rfl⟩)
      simpa using List.perm_append_comm (l₁ := [y]) (l₂ := L)
    · cases r with
      | nil => exact absurd h.core.tl ht
      | cons q r => exact ⟨h.core.own (sp1 S j 17) (by rw [sp_eq]; omega) rfl rfl rfl, h.bp, Ph.late q r L y (sp_eq _ _ _ _) h2 (by rw [sp_ot _ _ _ _ (by omega)]; exact h3)⟩
  all_goals omega
theorem All.t17 (h : All n w B d S Q L c o) (hj : j < n) (h0 : S j 0 = 17) :
    (w.nx j = 0 → All n w B d (spPut (spPut S j 1 0) j 0 17) Q L c (some j)) ∧ (w.nx j ≠ 0 → All n w B d (spPut (spPut S j 1 (w.nx j)) j 0 14) Q L c (some j)) := by
  obtain rfl := h.who hj (by omega)
  have hp : Ph w B d S j Q L c := h.ph
  have hx := h.core.own2 j rfl
  cases hp
  case late q r y h1 h2 h3 =>
    refine ⟨fun hn => ⟨h.core.own (sp2 S j 1 _ 17) (by rw [sp_eq]; omega) rfl rfl rfl, h.bp, Ph.late q r L y (sp_eq _ _ _ _) h2 (by rw [sp_ot _ _ _ _ (by omega), sp_ot _ _ _ _ (by omega)]; exact h3)⟩, fun hn => ⟨h.core.own (sp2 S j 1 _ 14) (by rw [sp_eq]; omega) rfl rfl rfl, h.bp, ?_⟩⟩
    obtain ⟨q', r', e, hq, h5⟩ := h.core.ql.second hn
    obtain ⟨rfl, rfl⟩ : q = q' ∧ r = r' := by simpa using e
    have hqj : q ≠ j := fun e => hx.2.2.1 (by simp [e])
    exact Ph.tie q r L y (sp_eq _ _ _ _) h2 (by rw [sp_ot _ _ _ _ (by omega), sp_eq]; exact hq) (by rw [sp2 S j 1 _ 14 q hqj]; exact h5) (by rw [sp_ot _ _ _ _ (by omega), sp_ot _ _ _ _ (by omega)]; exact h3)
  all_goals omega
theorem All.t18 (h : All n w B d S Q L c o) (hj : j < n) (h0 : S j 0 = 18) :
    ∃ y, y < n ∧ S j 2 = (y : Int) + 1 ∧ All n { w with wt := upd w.wt y 0 } B d (spPut S j 0 0) Q L c none := by
  obtain rfl := h.who hj (by omega)
  have hp : Ph w B d S j Q L c := h.ph
  have hx := h.core.own2 j rfl
  cases hp
  case call y r h1 h2 h3 h4 h5 h6 =>
    have hj2 : j ∉ y :: r := fun hm => by
      rcases List.mem_cons.1 hm with e | hm
      · exact h6 e
      · exact hx.2.2.1 hm
    have hnd := List.nodup_cons.1 (show (y :: (r ++ (L ++ []))).Nodup from h.core.nd)
    have hyn := h.core.lt y (by simp)
    refine ⟨y, hyn, h3, ?_, h.bp.kept rfl rfl rfl, ⟨rfl, fun e => by simp at e, fun a r' e => ?_, h2⟩⟩
    · refine Core.re h.core (Q0 := y :: r) (.inr ⟨rfl, hj2⟩) (List.Perm.refl _) (sp1 S j 0) (.inr ⟨rfl, sp_eq _ _ _ _⟩) h.core.five h.core.tl h.core.ql (fun k hk => ?_) (fun k hk => ⟨rfl, upd_ne _ _ (fun e => hk (by simp [e]))⟩)
      show upd w.wt y 0 k = 1
      rw [upd_ne _ _ (fun e => hnd.1 (by rw [← e]; simpa using hk))]
      exact h.core.w1 k hk
    · have e2 : y = a := by simpa using (List.cons.inj e).1
      subst e2
      exact ⟨by rw [sp1 S j 0 y (fun e => h6 e.symm)]; exact h4, upd_eq _ _ _⟩
  all_goals omega
theorem All.t19 (h : All n w B d S Q L c o) (hj : j < n) (h0 : S j 0 = 19) :
    (w.tl = (j : Int) + 1 → All n { w with tl := 0 } B d (spPut S j 0 0) [] [] [] none) ∧ (w.tl ≠ (j : Int) + 1 → All n w B d (spPut S j 0 20) Q L c (some j)) := by
  obtain rfl := h.who hj (by omega)
  have hp : Ph w B d S j Q L c := h.ph
  have hx := h.core.own2 j rfl
  cases hp
  case free r h1 h2 =>
    refine ⟨fun ht => ?_, fun ht => ?_⟩
    · have hr : r = [] := lst_one (List.nodup_append.1 h.core.nd).1 (by rw [← h.core.tl]; exact ht)
      subst hr
      refine ⟨?_, h.bp.kept rfl rfl rfl, ⟨rfl, fun _ => rfl, fun a r' e => by simp at e, h2⟩⟩
      exact Core.re h.core (Q0 := []) (.inl rfl) (List.Perm.refl _) (sp1 S j 0) (.inr ⟨rfl, sp_eq _ _ _ _⟩) (by simp) rfl trivial (by simp) (fun k hk => ⟨rfl, rfl⟩)
    · cases r with
      | nil => exact absurd h.core.tl ht
      | cons q r => exact ⟨h.core.own (sp1 S j 20) (by rw [sp_eq]; omega) rfl rfl rfl, h.bp, Ph.wait q r (sp_eq _ _ _ _) h2⟩
  all_goals omega
theorem All.t20 (h : All n w B d S Q L c o) (hj : j < n) (h0 : S j 0 = 20) :
    (w.nx j = 0 → All n w B d (spPut (spPut S j 1 0) j 0 20) Q L c (some j)) ∧ (w.nx j ≠ 0 → All n w B d (spPut (spPut S j 1 (w.nx j)) j 0 21) Q L c (some j)) := by
  obtain rfl := h.who hj (by omega)
  have hp : Ph w B d S j Q L c := h.ph
  have hx := h.core.own2 j rfl
  cases hp
  case wait q r h1 h2 =>
    refine ⟨fun hn => ⟨h.core.own (sp2 S j 1 _ 20) (by rw [sp_eq]; omega) rfl rfl rfl, h.bp, Ph.wait q r (sp_eq _ _ _ _) h2⟩, fun hn => ⟨h.core.own (sp2 S j 1 _ 21) (by rw [sp_eq]; omega) rfl rfl rfl, h.bp, ?_⟩⟩
    obtain ⟨q', r', e, hq, h5⟩ := h.core.ql.second hn
    obtain ⟨rfl, rfl⟩ : q = q' ∧ r = r' := by simpa using e
    have hqj : q ≠ j := fun e => hx.2.2.1 (by simp [e])
    exact Ph.second q r [] (.inl (sp_eq _ _ _ _)) h2 (by rw [sp_ot _ _ _ _ (by omega), sp_eq]; exact hq) (by rw [sp2 S j 1 _ 21 q hqj]; exact h5)
  all_goals omega
theorem All.t21 (h : All n w B d S Q L c o) (hj : j < n) (h0 : S j 0 = 21) :
    ∃ q, q < n ∧ S j 1 = (q : Int) + 1 ∧ B.step = 0 ∧ (w.nx q = 0 → All n w B 0 (spPut S j 0 24) Q L c (some j)) ∧
      (w.nx q ≠ 0 → ∃ Q' c', All n w ⟨1, S j 1, B.n, B.got⟩ (w.nx q) (spPut S j 0 22) Q' L c' (some j)) := by
  obtain rfl := h.who hj (by omega)
  have hp : Ph w B d S j Q L c := h.ph
  have hx := h.core.own2 j rfl
  cases hp
  case second q r h1 h2 h3 h4 =>
    have hqn := h.core.lt q (by simp)
    have hqj : q ≠ j := fun e => hx.2.2.1 (by simp [e])
    refine ⟨q, hqn, h3, h2, fun hn => ⟨h.core.own (sp1 S j 24) (by rw [sp_eq]; omega) rfl rfl rfl, h.bp, Ph.second q r L (.inr (sp_eq _ _ _ _)) h2 (by rw [sp_ot _ _ _ _ (by omega)]; exact h3) (by rw [sp1 S j 24 q hqj]; exact h4)⟩, fun hn => ?_⟩
    obtain ⟨e', r', rfl, he, h5⟩ := h.core.ql.tail.second hn
    have hnd := (List.nodup_append.1 h.core.nd).1
    have hej : e' ≠ j := fun e => hx.2.2.1 (by simp [e])
    refine ⟨e' :: r', [q], ?_, .inr (.inr (.inr (.inr (.inr (.inl ⟨rfl, bp_rep h.bp h2⟩))))), ?_⟩
    · refine Core.re h.core (Q0 := q :: e' :: r') (.inl rfl) ?_ (sp1 S j 22) (.inl ⟨rfl, by rw [sp_eq]; omega, by rw [sp_eq]; omega⟩) (fun k hk => ?_) h.core.tl h.core.ql.tail.tail (fun k hk => h.core.w1 k (by simp at hk ⊢; grind)) (fun k hk => ⟨rfl, rfl⟩)
      · have := List.perm_append_comm (l₁ := e' :: r' ++ L) (l₂ := [q])
        simpa using this
      · rcases List.mem_append.1 hk with hk | hk
        · exact h.core.five k (by simp [hk])
        · have : k = q := by simpa using hk
          subst this; exact h4
    · exact Ph.putting e' r' L q (sp_eq _ _ _ _) ⟨by simp, by simp⟩ h3 he (by rw [sp1 S j 22 e' hej]; exact h5) (h.core.w1 e' (by simp)) hej.symm
  all_goals omega
theorem All.t22 (h : All n w B d S Q L c o) (hj : j < n) (h0 : S j 0 = 22) :
    (bbR w B = false ∧ All n (bbW w B) (bbB w B) d S Q L c (some j)) ∨
    (bbR w B = true ∧ ∃ L' c', All n (bbW w B) (bbB w B) d (spPut S j 0 23) Q L' c' (some j)) := by
  obtain rfl := h.who hj (by omega)
  have hp : Ph w B d S j Q L c := h.ph
  have hx := h.core.own2 j rfl
  obtain ⟨e1, e2, e3⟩ := bbW_same w B
  cases hp
  case putting q r y h1 h2 h3 h4 h5 h6 h7 =>
    obtain ⟨y1, y2, y3, y4, y5, y6⟩ := h.core.inc
    have hnd : L.Nodup := (List.nodup_append.1 (List.nodup_append.1 h.core.nd).2.1).1
    rcases bp_put h.bp h2 h3 y5 hnd with ⟨hR, hbp, hs1, hs2, hx'⟩ | ⟨hR, hs, hbp⟩
    · exact .inl ⟨hR, h.core.own (fun _ _ _ => rfl) (by omega) e1 e2 e3, hbp, Ph.putting q r L y h0 ⟨hs1, hs2⟩ hx' h4 h5 (by rw [e3]; exact h6) h7⟩
    · refine .inr ⟨hR, L ++ [y], [], Core.own (h.core.perm (by simp)) (sp1 S j 23) (by rw [sp_eq]; omega) e1 e2 e3, hbp, ?_⟩
      exact Ph.skip q r _ (sp_eq _ _ _ _) hs h4 (by rw [sp1 S j 23 q (fun e => h7 e.symm)]; exact h5) (by rw [e3]; exact h6) h7
  all_goals omega
theorem All.t23 (h : All n w B d S Q L c o) (hj : j < n) (h0 : S j 0 = 23) :
    ∃ y, y < n ∧ d = (y : Int) + 1 ∧ All n { w with wt := upd w.wt y 0 } B d (spPut S j 0 0) Q L c none := by
  obtain rfl := h.who hj (by omega)
  have hp : Ph w B d S j Q L c := h.ph
  have hx := h.core.own2 j rfl
  cases hp
  case skip y r h1 h2 h3 h4 h5 h6 =>
    have hj2 : j ∉ y :: r := fun hm => by
      rcases List.mem_cons.1 hm with e | hm
      · exact h6 e
      · exact hx.2.2.1 hm
    have hnd := List.nodup_cons.1 (show (y :: (r ++ (L ++ []))).Nodup from h.core.nd)
    have hyn := h.core.lt y (by simp)
    refine ⟨y, hyn, h3, ?_, h.bp.kept rfl rfl rfl, ⟨rfl, fun e => by simp at e, fun a r' e => ?_, h2⟩⟩
    · refine Core.re h.core (Q0 := y :: r) (.inr ⟨rfl, hj2⟩) (List.Perm.refl _) (sp1 S j 0) (.inr ⟨rfl, sp_eq _ _ _ _⟩) h.core.five h.core.tl h.core.ql (fun k hk => ?_) (fun k hk => ⟨rfl, upd_ne _ _ (fun e => hk (by simp [e]))⟩)
      show upd w.wt y 0 k = 1
      rw [upd_ne _ _ (fun e => hnd.1 (by rw [← e]; simpa using hk))]
      exact h.core.w1 k hk
    · have e2 : y = a := by simpa using (List.cons.inj e).1
      subst e2
      exact ⟨by rw [sp1 S j 0 y (fun e => h6 e.symm)]; exact h4, upd_eq _ _ _⟩
  all_goals omega
theorem All.t24 (h : All n w B d S Q L c o) (hj : j < n) (h0 : S j 0 = 24) :
    ∃ q, q < n ∧ S j 1 = (q : Int) + 1 ∧ All n { w with wt := upd w.wt q 0 } B d (spPut S j 0 0) Q.tail L c none := by
  obtain rfl := h.who hj (by omega)
  have hp : Ph w B d S j Q L c := h.ph
  have hx := h.core.own2 j rfl
  cases hp
  case second q r h1 h2 h3 h4 =>
    have hqn := h.core.lt q (by simp)
    have hqj : q ≠ j := fun e => hx.2.2.1 (by simp [e])
    have hnd := List.nodup_cons.1 (List.nodup_cons.1 (show (j :: q :: (r ++ (L ++ []))).Nodup from h.core.nd)).2
    refine ⟨q, hqn, h3, ?_, h.bp.kept rfl rfl rfl, ⟨rfl, fun e => by simp at e, fun a r' e => ?_, h2⟩⟩
    · refine Core.re h.core (Q0 := q :: r) (.inl rfl) (List.Perm.refl _) (sp1 S j 0) (.inr ⟨rfl, sp_eq _ _ _ _⟩) h.core.five h.core.tl h.core.ql.tail (fun k hk => ?_) (fun k hk => ⟨rfl, upd_ne _ _ (fun e => hk (by simp [e]))⟩)
      show upd w.wt q 0 k = 1
      rw [upd_ne _ _ (fun e => hnd.1 (by rw [← e]; simpa using hk))]
      exact h.core.w1 k (by simp at hk ⊢; grind)
    · have e2 : q = a := by simpa using (List.cons.inj e).1
      subst e2
      exact ⟨by rw [sp1 S j 0 q hqj]; exact h4, upd_eq _ _ _⟩
  all_goals omega
end
end Go.Proofs.Ytacogelejffbhaa
