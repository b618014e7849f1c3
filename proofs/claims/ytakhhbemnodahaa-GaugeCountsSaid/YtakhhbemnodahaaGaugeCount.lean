/- What the gauge's words count, in plain Lean: for the law GaugeCounts. -/
import Derived.Test.YtakhhbemnodahaaGaugeAwake
namespace Go.Proofs.Ytakhhbemnodahaa
open Go.RowKit

/-- the words of eight nodes, counted: e came, x went -/
structure Cnt (A : AR) (e x : Nat → Nat) (n : Nat) : Prop where
  taken : A.taken = 16
  len : A.ws.length = 20
  he : ∀ j, j < 8 → A.ws[2 * j]? = some (e j : Int)
  hx : ∀ j, j < 8 → A.ws[2 * j + 1]? = some (x j : Int)
  be : ∀ j, j < 8 → e j ≤ n
  bx : ∀ j, j < 8 → x j ≤ n

def up (e : Nat → Nat) (k : Nat) : Nat → Nat := fun j => if j = k then e j + 1 else e j

section
variable {A : AR} {e x : Nat → Nat} {n : Nat}

theorem Cnt.start : Cnt ((AR.fresh 20).take 16) (fun _ => 0) (fun _ => 0) 0 := by
  refine ⟨by kernel_rfl, by kernel_rfl, fun j hj => ?_, fun j hj => ?_, fun _ _ => Nat.le_refl _, fun _ _ => Nat.le_refl _⟩
  · have hw : ((AR.fresh 20).take 16).ws = List.replicate 20 0 := by kernel_rfl
    rw [hw, List.getElem?_replicate, if_pos (by omega)]; rfl
  · have hw : ((AR.fresh 20).take 16).ws = List.replicate 20 0 := by kernel_rfl
    rw [hw, List.getElem?_replicate, if_pos (by omega)]; rfl

theorem Cnt.has (h : Cnt A e x n) {j : Nat} (hj : j < 8) (t : Nat) (ht : t < 2) : gHas 8 j = true ∧ A.has (((1 : Nat) : Int) + 2 * (j : Int) + (t : Int)) = true := by
  have := h.taken
  constructor
  · unfold gHas; simp; omega
  · unfold AR.has; rw [this]; simp; omega

theorem Cnt.get (h : Cnt A e x n) {j : Nat} (hj : j < 8) : A.gGet 1 8 j 0 = e j ∧ A.gGet 1 8 j 1 = x j := by
  constructor
  · obtain ⟨h1, h2⟩ := h.has hj 0 (by omega)
    unfold AR.gGet AR.get
    rw [h1, if_pos rfl]
    rw [show ((1 : Nat) : Int) + 2 * (j : Int) + (0 : Int) = ((1 : Nat) : Int) + 2 * (j : Int) + ((0 : Nat) : Int) from rfl, h2, if_pos rfl]
    rw [show (((1 : Nat) : Int) + 2 * (j : Int) + ((0 : Nat) : Int)).toNat - 1 = 2 * j from by omega, h.he j hj]; rfl
  · obtain ⟨h1, h2⟩ := h.has hj 1 (by omega)
    unfold AR.gGet AR.get
    rw [h1, if_pos rfl]
    rw [show ((1 : Nat) : Int) + 2 * (j : Int) + (1 : Int) = ((1 : Nat) : Int) + 2 * (j : Int) + ((1 : Nat) : Int) from rfl, h2, if_pos rfl]
    rw [show (((1 : Nat) : Int) + 2 * (j : Int) + ((1 : Nat) : Int)).toNat - 1 = 2 * j + 1 from by omega, h.hx j hj]; rfl

theorem gLoad_ws (first nodes : Nat) (k t : Int) : (A.gLoad first nodes k t).ws = A.ws ∧ (A.gLoad first nodes k t).taken = A.taken := by
  unfold AR.gLoad AR.load AR.note
  split
  · split <;> exact ⟨rfl, rfl⟩
  · exact ⟨rfl, rfl⟩

theorem Cnt.load (h : Cnt A e x n) (k t : Int) : Cnt (A.gLoad 1 8 k t) e x n := by
  obtain ⟨h1, h2⟩ := gLoad_ws (A := A) 1 8 k t
  exact ⟨h2.trans h.taken, by rw [h1]; exact h.len, fun j hj => by rw [h1]; exact h.he j hj, fun j hj => by rw [h1]; exact h.hx j hj, h.be, h.bx⟩

/-- one more comes (t = 0), or goes (t = 1), at node k: that word alone changes -/
theorem Cnt.add_ws (h : Cnt A e x n) (hn : n ≤ 1000) {k : Nat} (hk : k < 8) (t : Nat) (ht : t < 2) :
    (A.gAdd 1 8 k t).ws = A.ws.set (2 * k + t) (((if t = 0 then e k else x k) + 1 : Nat) : Int) ∧ (A.gAdd 1 8 k t).taken = 16 := by
  obtain ⟨h1, h2⟩ := h.has hk t ht
  have hg : A.get (((1 : Nat) : Int) + 2 * (k : Int) + (t : Int)) = ((if t = 0 then e k else x k : Nat) : Int) := by
    have := h.get hk
    unfold AR.gGet at this
    have h8 : gHas 8 k = true := h1
    rw [h8, if_pos rfl, if_pos rfl] at this
    rcases Nat.lt_or_ge t 1 with h0 | h0
    · obtain rfl : t = 0 := by omega
      simpa using this.1
    · obtain rfl : t = 1 := by omega
      simpa using this.2
  have hb : ((if t = 0 then e k else x k : Nat) : Int) ≤ 1000 := by
    have := h.be k hk; have := h.bx k hk
    split <;> omega
  unfold AR.gAdd AR.add
  rw [h1, if_pos rfl, h2, if_pos rfl, hg]
  refine ⟨?_, h.taken⟩
  show A.ws.set _ _ = _
  rw [show (((1 : Nat) : Int) + 2 * (k : Int) + (t : Int)).toNat - 1 = 2 * k + t from by omega]
  congr 1
  have h0 : (0 : Int) ≤ ((if t = 0 then e k else x k : Nat) : Int) := Int.natCast_nonneg _
  generalize (if t = 0 then e k else x k : Nat) = q at *
  have hw : wrap64 ((q : Int) + 1) = (q : Int) + 1 := by unfold wrap64; omega
  rw [hw]; simp

theorem Cnt.enter (h : Cnt A e x n) (hn : n ≤ 1000) {k : Nat} (hk : k < 8) : Cnt (A.gAdd 1 8 k 0) (up e k) x (n + 1) := by
  obtain ⟨h1, h2⟩ := h.add_ws hn hk 0 (by omega)
  simp only [Nat.add_zero, if_true] at h1
  refine ⟨h2, by show (A.gAdd 1 8 k ((0 : Nat) : Int)).ws.length = 20; rw [h1]; simp [h.len], fun j hj => ?_, fun j hj => ?_, fun j hj => ?_, fun j hj => by have := h.bx j hj; omega⟩
  · show (A.gAdd 1 8 k ((0 : Nat) : Int)).ws[2 * j]? = _
    rw [h1, List.getElem?_set]
    by_cases hjk : j = k
    · subst hjk; simp [up, h.len]; omega
    · rw [if_neg (by omega), h.he j hj]; simp [up, hjk]
  · show (A.gAdd 1 8 k ((0 : Nat) : Int)).ws[2 * j + 1]? = _
    rw [h1, List.getElem?_set, if_neg (by omega), h.hx j hj]
  · have := h.be j hj; unfold up; split <;> omega

theorem Cnt.exit (h : Cnt A e x n) (hn : n ≤ 1000) {k : Nat} (hk : k < 8) : Cnt (A.gAdd 1 8 k 1) e (up x k) (n + 1) := by
  obtain ⟨h1, h2⟩ := h.add_ws hn hk 1 (by omega)
  rw [if_neg (by omega)] at h1
  refine ⟨h2, by show (A.gAdd 1 8 k ((1 : Nat) : Int)).ws.length = 20; rw [h1]; simp [h.len], fun j hj => ?_, fun j hj => ?_, fun j hj => by have := h.be j hj; omega, fun j hj => ?_⟩
  · show (A.gAdd 1 8 k ((1 : Nat) : Int)).ws[2 * j]? = _
    rw [h1, List.getElem?_set, if_neg (by omega), h.he j hj]
  · show (A.gAdd 1 8 k ((1 : Nat) : Int)).ws[2 * j + 1]? = _
    rw [h1, List.getElem?_set]
    by_cases hjk : j = k
    · subst hjk; simp [up, h.len]; omega
    · rw [if_neg (by omega), h.hx j hj]; simp [up, hjk]
  · have := h.bx j hj; unfold up; split <;> omega

/-- the words that were taken change at that word alone -/
theorem Cnt.words (h : Cnt A e x n) (hn : n ≤ 1000) {k : Nat} (hk : k < 8) (t : Nat) (ht : t < 2) {i : Nat} (hi : i ≠ 2 * k + t) : (A.gAdd 1 8 k t).words[i]? = A.words[i]? := by
  obtain ⟨h1, h2⟩ := h.add_ws hn hk t ht
  unfold AR.words
  rw [h1, h2, h.taken, List.getElem?_take, List.getElem?_take, List.getElem?_set, if_neg (show ¬ 2 * k + t = i from fun e => hi e.symm)]

theorem Cnt.wlen (h : Cnt A e x n) : A.words.length = 16 := by unfold AR.words; simp [h.taken, h.len]
theorem Cnt.gword {k : Nat} (hk : k < 8) : gWord 1 8 k = 1 + 2 * (k : Int) := by
  unfold gWord gHas; rw [if_pos (by simp; omega)]; simp
end

/-- the counts that the law keeps -/
def ins (e x : Nat → Nat) : List Value := (List.range 8).map fun j => Value.int .i64 ((e j : Int) - x j)
theorem ins_get (e x : Nat → Nat) {j : Nat} (hj : j < 8) : (ins e x)[j]? = some (.int .i64 ((e j : Int) - x j)) := by simp [ins, hj]
theorem ins_up (e x : Nat → Nat) {k : Nat} (hk : k < 8) : (ins e x).set k (.int .i64 ((e k : Int) - x k + 1)) = ins (up e k) x := by
  apply List.ext_getElem?
  intro j
  rw [List.getElem?_set]
  by_cases h : k = j
  · subst h; simp [ins, up, hk]; omega
  · rw [if_neg h]
    have hjk : ¬ j = k := fun e => h e.symm
    by_cases h8 : j < 8
    · simp [ins, up, h8, hjk]
    · simp [ins, h8]
theorem ins_down (e x : Nat → Nat) {k : Nat} (hk : k < 8) : (ins e x).set k (.int .i64 ((e k : Int) - x k - 1)) = ins e (up x k) := by
  apply List.ext_getElem?
  intro j
  rw [List.getElem?_set]
  by_cases h : k = j
  · subst h; simp [ins, up, hk]; omega
  · rw [if_neg h]
    have hjk : ¬ j = k := fun e => h e.symm
    by_cases h8 : j < 8
    · simp [ins, up, h8, hjk]
    · simp [ins, h8]

end Go.Proofs.Ytakhhbemnodahaa
