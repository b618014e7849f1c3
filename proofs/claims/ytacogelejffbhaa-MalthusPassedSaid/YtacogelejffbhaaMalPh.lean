/- The malthus lock's invariant, in plain Lean: the bench's state, where the one on the way out is, and each move. -/
import Derived.Test.YtacogelejffbhaaMalInv
namespace Go.Proofs.Ytacogelejffbhaa
open Go.RowKit

/-! ### the bench -/
def fst' : List Nat → Int
  | [] => 0
  | x :: _ => (x : Int) + 1
def LQ (f : Nat → Int) : List Nat → Prop
  | [] => True
  | [z] => f z = 0
  | p :: q :: r => f p = (q : Int) + 1 ∧ LQ f (q :: r)
theorem LQ.congr {f g : Nat → Int} : ∀ {L : List Nat}, LQ f L → (∀ j ∈ L, g j = f j) → LQ g L
  | [], _, _ => trivial
  | [z], h, hn => by have := hn z (by simp); unfold LQ at h ⊢; omega
  | p :: q :: r, h, hn => ⟨by rw [hn p (by simp)]; exact h.1, LQ.congr h.2 (fun j hj => hn j (List.mem_cons_of_mem _ hj))⟩
theorem LQ.append {f : Nat → Int} {a : Nat} : ∀ {L : List Nat} {z : Nat}, LQ f L → L.Nodup → lst L = (z : Int) + 1 → a ∉ L → f a = 0 → LQ (upd f z ((a : Int) + 1)) (L ++ [a])
  | [], _, _, _, h, _, _ => by unfold lst at h; omega
  | [y], z, h, _, e, ha, h0 => by
    unfold lst at e
    have : y = z := by omega
    subst this
    have hay : a ≠ y := by simpa using ha
    exact ⟨upd_eq _ _ _, by unfold LQ; rw [upd_ne _ _ hay]; exact h0⟩
  | p :: q :: r, z, h, hnd, e, ha, h0 => by
    have hnd' := List.nodup_cons.1 hnd
    obtain ⟨z', hz', e'⟩ := lst_mem (q :: r) (by simp)
    have e2 : lst (p :: q :: r) = lst (q :: r) := rfl
    have : z' = z := by omega
    subst this
    refine ⟨?_, LQ.append (L := q :: r) h.2 hnd'.2 (by omega) (fun hm => ha (List.mem_cons_of_mem _ hm)) h0⟩
    rw [upd_ne _ _ (fun e => hnd'.1 (by subst e; exact hz'))]
    exact h.1
theorem LQ.lone {f : Nat → Int} {y : Nat} {r : List Nat} (h : LQ f (y :: r)) : f y = fst' r := by
  cases r with
  | nil => exact h
  | cons q r => exact h.1
structure Rep (w : WV) (L : List Nat) : Prop where
  hd : w.bf = fst' L
  la : w.bl = lst L
  ln : LQ w.lk L
/-- the bench, whatever is under way; a is who is put -/
def BP (w : WV) (B : BK) (L : List Nat) : Prop :=
  (B.step = 0 ∧ Rep w L) ∨ (B.step = 5 ∧ Rep w L) ∨ (B.step = 6 ∧ Rep w L ∧ ∃ y r, L = y :: r ∧ B.x = (y : Int) + 1) ∨ (B.step = 7 ∧ Rep w L ∧ ∃ y r, L = y :: r ∧ B.x = (y : Int) + 1 ∧ B.n = w.lk y) ∨
  (B.step = 8 ∧ ∃ y, L = [y] ∧ B.x = (y : Int) + 1 ∧ w.bf = 0) ∨ (B.step = 1 ∧ Rep w L) ∨ (B.step = 2 ∧ Rep w L ∧ ∃ a : Nat, B.x = (a : Int) + 1 ∧ w.lk a = 0) ∨
  (B.step = 3 ∧ Rep w L ∧ ∃ a : Nat, B.x = (a : Int) + 1 ∧ w.lk a = 0 ∧ B.n = w.bl) ∨ (B.step = 4 ∧ ∃ a : Nat, B.x = (a : Int) + 1 ∧ w.bf = fst' (L ++ [a]) ∧ LQ w.lk (L ++ [a]))
def bbR (w : WV) (B : BK) : Bool := decide (B.step = 4) || decide (B.step = 8) || (decide (B.step = 5) && decide (w.bf = 0)) || (decide (B.step = 7) && decide (¬ B.n = 0))
def bbB (w : WV) (B : BK) : BK :=
  if B.step = 1 then ⟨2, B.x, B.n, B.got⟩ else if B.step = 2 then ⟨3, B.x, w.bl, B.got⟩ else if B.step = 3 then ⟨4, B.x, B.n, B.got⟩ else if B.step = 4 then ⟨0, B.x, B.n, B.got⟩
  else if B.step = 5 then (if w.bf = 0 then ⟨0, 0, B.n, 0⟩ else ⟨6, w.bf, B.n, B.got⟩) else if B.step = 6 then ⟨7, B.x, w.lk (B.x - 1).toNat, B.got⟩
  else if B.step = 7 then (if B.n = 0 then ⟨8, B.x, B.n, B.got⟩ else ⟨0, B.x, B.n, B.x⟩) else if B.step = 8 then ⟨0, B.x, B.n, B.x⟩ else B
def bbW (w : WV) (B : BK) : WV :=
  if B.step = 1 then { w with lk := upd w.lk (B.x - 1).toNat 0 } else if B.step = 3 then (if B.n = 0 then { w with bf := B.x } else { w with lk := upd w.lk (B.n - 1).toNat B.x }) else if B.step = 4 then { w with bl := B.x }
  else if B.step = 7 then { w with bf := B.n } else if B.step = 8 then { w with bl := 0 } else w
theorem BP.kept {w w' : WV} {B : BK} {L : List Nat} (h : BP w B L) (h1 : w'.bf = w.bf) (h2 : w'.bl = w.bl) (h3 : w'.lk = w.lk) : BP w' B L := by
  have hr : Rep w L → Rep w' L := fun r => ⟨by rw [h1]; exact r.hd, by rw [h2]; exact r.la, by rw [h3]; exact r.ln⟩
  unfold BP at h ⊢
  rw [h1, h2, h3]
  rcases h with h | h | h | h | h | h | h | h | h
  · exact .inl ⟨h.1, hr h.2⟩
  · exact .inr (.inl ⟨h.1, hr h.2⟩)
  · exact .inr (.inr (.inl ⟨h.1, hr h.2.1, h.2.2⟩))
  · exact .inr (.inr (.inr (.inl ⟨h.1, hr h.2.1, h.2.2⟩)))
  · exact .inr (.inr (.inr (.inr (.inl h))))
  · exact .inr (.inr (.inr (.inr (.inr (.inl ⟨h.1, hr h.2⟩)))))
  · exact .inr (.inr (.inr (.inr (.inr (.inr (.inl ⟨h.1, hr h.2.1, h.2.2⟩))))))
  · exact .inr (.inr (.inr (.inr (.inr (.inr (.inr (.inl ⟨h.1, hr h.2.1, h.2.2⟩)))))))
  · exact .inr (.inr (.inr (.inr (.inr (.inr (.inr (.inr h)))))))
theorem bp_rep {w : WV} {B : BK} {L : List Nat} (h : BP w B L) (hs : B.step = 0) : Rep w L := by
  unfold BP at h
  rcases h with h | h | h | h | h | h | h | h | h
  · exact h.2
  all_goals (exfalso; have := h.1; omega)
/-- a step of what takes -/
theorem bp_take {w : WV} {B : BK} {L : List Nat} (h : BP w B L) (hs : 5 ≤ B.step ∧ B.step ≤ 8) :
    (bbR w B = false ∧ BP (bbW w B) (bbB w B) L ∧ 5 ≤ (bbB w B).step ∧ (bbB w B).step ≤ 8) ∨
    (bbR w B = true ∧ (bbB w B).step = 0 ∧ (bbB w B).got = fst' L ∧ BP (bbW w B) (bbB w B) L.tail) := by
  obtain ⟨st, x, nn, got⟩ := B
  unfold BP at h
  simp only at hs h
  rcases h with h | h | h | h | h | h | h | h | h
  · omega
  · obtain ⟨rfl, hr⟩ := h
    by_cases hb : w.bf = 0
    · right
      have hL : L = [] := by
        cases L with
        | nil => rfl
        | cons y r => have h2 : w.bf = (y : Int) + 1 := hr.hd
                      omega
      subst hL
      refine ⟨by unfold bbR; simp [hb], by unfold bbB; simp [hb], by unfold bbB; simp [hb, fst'], .inl ⟨by unfold bbB; simp [hb], hr⟩⟩
    · left
      cases L with
      | nil => exact absurd hr.hd hb
      | cons y r =>
        have hy : w.bf = (y : Int) + 1 := hr.hd
        refine ⟨by unfold bbR; simp [hb], .inr (.inr (.inl ⟨by unfold bbB; simp [hb], hr, y, r, rfl, by unfold bbB; simp [hy]; rw [if_neg (by omega)]⟩)), by unfold bbB; simp [hb], by unfold bbB; simp [hb]⟩
  · obtain ⟨rfl, hr, y, r, rfl, rfl⟩ := h
    left
    refine ⟨by unfold bbR; simp, .inr (.inr (.inr (.inl ⟨by unfold bbB; simp, hr, y, r, rfl, by unfold bbB; simp, by unfold bbB bbW; simp⟩))), by unfold bbB; simp, by unfold bbB; simp⟩
  · obtain ⟨rfl, hr, y, r, rfl, rfl, rfl⟩ := h
    have hf := hr.ln.lone
    by_cases hn : w.lk y = 0
    · left
      have hr0 : r = [] := by
        cases r with
        | nil => rfl
        | cons q r => have h2 : w.lk y = (q : Int) + 1 := hf
                      omega
      subst hr0
      refine ⟨by unfold bbR; simp [hn], .inr (.inr (.inr (.inr (.inl ⟨by unfold bbB; simp [hn], y, rfl, by unfold bbB; simp [hn], by unfold bbW; simp [hn]⟩)))), by unfold bbB; simp [hn], by unfold bbB; simp [hn]⟩
    · right
      refine ⟨by unfold bbR; simp [hn], by unfold bbB; simp [hn], by unfold bbB; simp [hn, fst'], .inl ⟨by unfold bbB; simp [hn], ?_⟩⟩
      cases r with
      | nil => exact absurd hf hn
      | cons q r =>
        exact ⟨by unfold bbW; simpa using hf, by unfold bbW; simp; exact hr.la, by unfold bbW; simpa using hr.ln.2⟩
  · obtain ⟨rfl, y, rfl, rfl, hb⟩ := h
    right
    exact ⟨by unfold bbR; simp, by unfold bbB; simp, by unfold bbB; simp [fst'], .inl ⟨by unfold bbB; simp, by unfold bbW; simp; exact hb, by unfold bbW; simp [lst], trivial⟩⟩
  · omega
  · omega
  · omega
  · omega
/-- a step of what puts -/
theorem bp_put {w : WV} {B : BK} {L : List Nat} {a : Nat} (h : BP w B L) (hs : 1 ≤ B.step ∧ B.step ≤ 4) (hx : B.x = (a : Int) + 1) (ha : a ∉ L) (hnd : L.Nodup) :
    (bbR w B = false ∧ BP (bbW w B) (bbB w B) L ∧ 1 ≤ (bbB w B).step ∧ (bbB w B).step ≤ 4 ∧ (bbB w B).x = (a : Int) + 1) ∨
    (bbR w B = true ∧ (bbB w B).step = 0 ∧ BP (bbW w B) (bbB w B) (L ++ [a])) := by
  obtain ⟨st, x, nn, got⟩ := B
  unfold BP at h
  simp only at hs h hx
  subst hx
  have ea : ((a : Int) + 1 - 1).toNat = a := by omega
  rcases h with h | h | h | h | h | h | h | h | h
  · omega
  · omega
  · omega
  · omega
  · omega
  · obtain ⟨rfl, hr⟩ := h
    left
    refine ⟨by unfold bbR; simp, .inr (.inr (.inr (.inr (.inr (.inr (.inl ⟨by unfold bbB; simp, ?_, a, by unfold bbB; simp, by unfold bbW; simp [upd_eq]⟩)))))), by unfold bbB; simp, by unfold bbB; simp, by unfold bbB; simp⟩
    exact ⟨by unfold bbW; simpa using hr.hd, by unfold bbW; simpa using hr.la, by unfold bbW; simp; exact hr.ln.congr fun j hj => upd_ne _ _ fun e => ha (e ▸ hj)⟩
  · obtain ⟨rfl, hr, b, hb, h0⟩ := h
    obtain rfl : a = b := by omega
    left
    exact ⟨by unfold bbR; simp, .inr (.inr (.inr (.inr (.inr (.inr (.inr (.inl ⟨by unfold bbB; simp, hr, a, by unfold bbB; simp, h0, by unfold bbB bbW; simp⟩))))))), by unfold bbB; simp, by unfold bbB; simp, by unfold bbB; simp⟩
  · obtain ⟨rfl, hr, b, hb, h0, rfl⟩ := h
    obtain rfl : a = b := by omega
    left
    refine ⟨by unfold bbR; simp, .inr (.inr (.inr (.inr (.inr (.inr (.inr (.inr ⟨by unfold bbB; simp, a, by unfold bbB; simp, ?_⟩))))))), by unfold bbB; simp, by unfold bbB; simp, by unfold bbB; simp⟩
    by_cases hn : w.bl = 0
    · have hL : L = [] := lst_nil.1 (hr.la ▸ hn)
      subst hL
      exact ⟨by unfold bbW; simp [hn, fst'], by unfold bbW; simp [hn, LQ, h0]⟩
    · have hL : L ≠ [] := fun e => hn (by rw [hr.la, e]; rfl)
      obtain ⟨z, hz, e⟩ := lst_mem L hL
      have ez : w.bl.toNat - 1 = z := by rw [hr.la, e]; omega
      refine ⟨?_, ?_⟩
      · unfold bbW
        simp [hn]
        rw [hr.hd]
        cases L with
        | nil => exact absurd rfl hL
        | cons y r => rfl
      · unfold bbW
        simp [hn]
        rw [ez]
        exact LQ.append hr.ln hnd e ha h0
  · obtain ⟨rfl, b, hb, h1, h2⟩ := h
    obtain rfl : a = b := by omega
    right
    exact ⟨by unfold bbR; simp, by unfold bbB; simp, .inl ⟨by unfold bbB; simp, by unfold bbW; simpa using h1, by unfold bbW; simp [lst_append], by unfold bbW; simpa using h2⟩⟩
end Go.Proofs.Ytacogelejffbhaa
