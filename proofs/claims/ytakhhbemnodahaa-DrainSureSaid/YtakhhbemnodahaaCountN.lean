/- What a gauge's words count, in plain Lean, for any number of nodes up to 32: for the laws of drain. -/
import Derived.Test.YtakhhbemnodahaaGaugeAwake
namespace Go.Proofs.Ytakhhbemnodahaa
open Go.RowKit

/-- the words of s nodes, counted: e came, x went -/
structure CntN (A : AR) (s : Nat) (e x : Nat → Nat) (n : Nat) : Prop where
  s32 : s ≤ 32
  taken : A.taken = 2 * s
  len : 2 * s ≤ A.ws.length
  he : ∀ j, j < s → A.ws[2 * j]? = some (e j : Int)
  hx : ∀ j, j < s → A.ws[2 * j + 1]? = some (x j : Int)
  be : ∀ j, j < s → e j ≤ n
  bx : ∀ j, j < s → x j ≤ n

def upN (e : Nat → Nat) (k : Nat) : Nat → Nat := fun j => if j = k then e j + 1 else e j

section
variable {A : AR} {s n : Nat} {e x : Nat → Nat}

theorem CntN.start {r : Nat} (hs1 : 1 ≤ s) (hs : s ≤ 32) (hr : 2 * s ≤ r) : (AR.fresh r).gNewE s = 0 ∧ CntN ((AR.fresh r).take (2 * s)) s (fun _ => 0) (fun _ => 0) 0 := by
  have he : (AR.fresh r).takeE (2 * s) = 0 := by unfold AR.takeE AR.fresh; rw [if_neg (by omega), if_neg (by simp; omega)]
  refine ⟨by unfold AR.gNewE; rw [if_neg (by omega)]; exact he, ?_⟩
  unfold AR.take
  rw [if_pos he]
  unfold AR.fresh
  refine ⟨hs, by simp; omega, by simp; omega, fun j hj => ?_, fun j hj => ?_, fun _ _ => Nat.le_refl _, fun _ _ => Nat.le_refl _⟩
  · show (List.replicate r (0 : Int))[2 * j]? = _
    rw [List.getElem?_replicate, if_pos (by omega)]; rfl
  · show (List.replicate r (0 : Int))[2 * j + 1]? = _
    rw [List.getElem?_replicate, if_pos (by omega)]; rfl

theorem CntN.has (h : CntN A s e x n) {j : Nat} (hj : j < s) (t : Nat) (ht : t < 2) : gHas s j = true ∧ A.has (((1 : Nat) : Int) + 2 * (j : Int) + (t : Int)) = true := by
  have := h.taken
  constructor
  · unfold gHas; simp; omega
  · unfold AR.has; rw [this]; simp; omega

theorem CntN.get (h : CntN A s e x n) {j : Nat} (hj : j < s) : A.gGet 1 s j 0 = e j ∧ A.gGet 1 s j 1 = x j := by
  constructor
  · obtain ⟨h1, h2⟩ := h.has hj 0 (by omega)
    unfold AR.gGet AR.get
    rw [h1, if_pos rfl]
    rw [show ((1 : Nat) : Int) + 2 * (j : Int) + (0 : Int) = ((1 : Nat) : Int) + 2 * (j : Int) + ((0 : Nat) : Int) from rfl, h2, if_pos rfl]
    rw [show (((1 : Nat) : Int) + 2 * (j : Int) + ((0 : Nat) : Int)).toNat - 1 = 2 * j from by omega, h.he j hj]; rfl
  · obtain ⟨h1, h2⟩ := h.has hj 1 (by omega)
    unfold AR.gGet AR.get
    rw [h1, if_pos rfl]
    rw [show ((1 : Nat) : Int) + 2 * (j : Int) + (1 : Int) = ((1 : Nat) : Int) + 2 * (j : Int) + ((1 : Nat) : Int) from rfl, h2, if_pos rfl]
    rw [show (((1 : Nat) : Int) + 2 * (j : Int) + ((1 : Nat) : Int)).toNat - 1 = 2 * j + 1 from by omega, h.hx j hj]; rfl

theorem gLoad_ws' (first nodes : Nat) (k t : Int) : (A.gLoad first nodes k t).ws = A.ws ∧ (A.gLoad first nodes k t).taken = A.taken := by
  unfold AR.gLoad AR.load AR.note
  split
  · split <;> exact ⟨rfl, rfl⟩
  · exact ⟨rfl, rfl⟩

theorem CntN.load (h : CntN A s e x n) (f m : Nat) (k t : Int) : CntN (A.gLoad f m k t) s e x n := by
  obtain ⟨h1, h2⟩ := gLoad_ws' (A := A) f m k t
  exact ⟨h.s32, h2.trans h.taken, by rw [h1]; exact h.len, fun j hj => by rw [h1]; exact h.he j hj, fun j hj => by rw [h1]; exact h.hx j hj, h.be, h.bx⟩

/-- one more comes (t = 0), or goes (t = 1), at node k: that word alone changes -/
theorem CntN.add_ws (h : CntN A s e x n) (hn : n ≤ 1000) {k : Nat} (hk : k < s) (t : Nat) (ht : t < 2) :
    (A.gAdd 1 s k t).ws = A.ws.set (2 * k + t) (((if t = 0 then e k else x k) + 1 : Nat) : Int) ∧ (A.gAdd 1 s k t).taken = 2 * s := by
  obtain ⟨h1, h2⟩ := h.has hk t ht
  have hg : A.get (((1 : Nat) : Int) + 2 * (k : Int) + (t : Int)) = ((if t = 0 then e k else x k : Nat) : Int) := by
    have := h.get hk
    unfold AR.gGet at this
    have h8 : gHas s k = true := h1
    rw [h8, if_pos rfl, if_pos rfl] at this
    rcases Nat.lt_or_ge t 1 with h0 | h0
    · obtain rfl : t = 0 := by omega
      simpa using this.1
    · obtain rfl : t = 1 := by omega
      simpa using this.2
  have hb : ((if t = 0 then e k else x k : Nat) : Int) ≤ 1000 := by
    have := h.be k hk; have := h.bx k hk
    split <;> omega
  unfold AR.gAdd AR.add
  rw [h1, if_pos rfl, h2, if_pos rfl, hg]
  refine ⟨?_, h.taken⟩
  show A.ws.set _ _ = _
  rw [show (((1 : Nat) : Int) + 2 * (k : Int) + (t : Int)).toNat - 1 = 2 * k + t from by omega]
  congr 1
  have h0 : (0 : Int) ≤ ((if t = 0 then e k else x k : Nat) : Int) := Int.natCast_nonneg _
  generalize (if t = 0 then e k else x k : Nat) = q at *
  have hw : wrap64 ((q : Int) + 1) = (q : Int) + 1 := by unfold wrap64; omega
  rw [hw]; simp

theorem CntN.enter (h : CntN A s e x n) (hn : n ≤ 1000) {k : Nat} (hk : k < s) : CntN (A.gAdd 1 s k 0) s (upN e k) x (n + 1) := by
  obtain ⟨h1, h2⟩ := h.add_ws hn hk 0 (by omega)
  simp only [Nat.add_zero, if_true] at h1
  have hl := h.len
  refine ⟨h.s32, h2, by show 2 * s ≤ (A.gAdd 1 s k ((0 : Nat) : Int)).ws.length; rw [h1]; simpa using h.len, fun j hj => ?_, fun j hj => ?_, fun j hj => ?_, fun j hj => by have := h.bx j hj; omega⟩
  · show (A.gAdd 1 s k ((0 : Nat) : Int)).ws[2 * j]? = _
    rw [h1, List.getElem?_set]
    by_cases hjk : j = k
    · subst hjk; rw [if_pos rfl, if_pos (by omega)]; simp [upN]
    · rw [if_neg (by omega), h.he j hj]; simp [upN, hjk]
  · show (A.gAdd 1 s k ((0 : Nat) : Int)).ws[2 * j + 1]? = _
    rw [h1, List.getElem?_set, if_neg (by omega), h.hx j hj]
  · have := h.be j hj; unfold upN; split <;> omega

theorem CntN.exit (h : CntN A s e x n) (hn : n ≤ 1000) {k : Nat} (hk : k < s) : CntN (A.gAdd 1 s k 1) s e (upN x k) (n + 1) := by
  obtain ⟨h1, h2⟩ := h.add_ws hn hk 1 (by omega)
  rw [if_neg (by omega)] at h1
  have hl := h.len
  refine ⟨h.s32, h2, by show 2 * s ≤ (A.gAdd 1 s k ((1 : Nat) : Int)).ws.length; rw [h1]; simpa using h.len, fun j hj => ?_, fun j hj => ?_, fun j hj => by have := h.be j hj; omega, fun j hj => ?_⟩
  · show (A.gAdd 1 s k ((1 : Nat) : Int)).ws[2 * j]? = _
    rw [h1, List.getElem?_set, if_neg (by omega), h.he j hj]
  · show (A.gAdd 1 s k ((1 : Nat) : Int)).ws[2 * j + 1]? = _
    rw [h1, List.getElem?_set]
    by_cases hjk : j = k
    · subst hjk; rw [if_pos rfl, if_pos (by omega)]; simp [upN]
    · rw [if_neg (by omega), h.hx j hj]; simp [upN, hjk]
  · have := h.bx j hj; unfold upN; split <;> omega
end

end Go.Proofs.Ytakhhbemnodahaa
