/- What the words of turns say, in plain Lean: for the laws TurnStays and TurnPlays. -/
import Derived.Test.YtakhhbemnodahaaTurnAwake
namespace Go.Proofs.Ytakhhbemnodahaa
open Go.RowKit

/-- the arena's first words are how often each slot was done -/
structure TrD (A : AR) (slots : Nat) (d : Nat → Nat) : Prop where
  len : slots ≤ A.taken
  le : A.taken ≤ A.ws.length
  eq : ∀ j, j < slots → A.ws[j]? = some (d j : Int)

/-- the word of a slot's turn -/
def tw (k m : Nat) : Int := (m : Int) * 65536 + ((k : Int) + 1)

section
variable {A : AR} {slots m : Nat} {d : Nat → Nat} {past : List Int}

theorem TrD.has (h : TrD A slots d) {j : Nat} (hj : j < slots) : A.has (((1 : Nat) : Int) + (j : Int)) = true := by
  have := h.len
  unfold AR.has; simp; omega
theorem TrD.get (h : TrD A slots d) {j : Nat} (hj : j < slots) : A.get (((1 : Nat) : Int) + (j : Int)) = d j := by
  unfold AR.get
  rw [h.has hj, if_pos rfl, show (((1 : Nat) : Int) + (j : Int)).toNat - 1 = j from by omega, h.eq j hj]; rfl
theorem TrD.gets (h : TrD A slots d) (i : Int) (hi : gHas slots i = true) : A.get (((1 : Nat) : Int) + i) = d i.toNat := by
  unfold gHas at hi
  simp at hi
  obtain ⟨j, rfl⟩ := Int.eq_ofNat_of_zero_le hi.1
  rw [h.get (by omega)]; congr 1
theorem TrD.of (h : TrD A slots d) {B : AR} (h1 : B.ws = A.ws) (h2 : B.taken = A.taken) : TrD B slots d :=
  ⟨by rw [h2]; exact h.len, by rw [h1, h2]; exact h.le, fun j hj => by rw [h1]; exact h.eq j hj⟩
theorem tLook_ws (first : Nat) (x : Int) : (A.tLook first slots x).ws = A.ws ∧ (A.tLook first slots x).taken = A.taken := by
  unfold AR.tLook AR.load AR.note
  split
  · split <;> exact ⟨rfl, rfl⟩
  · exact ⟨rfl, rfl⟩
theorem TrD.look (h : TrD A slots d) (first : Nat) (x : Int) : TrD (A.tLook first slots x) slots d :=
  h.of (tLook_ws first x).1 (tLook_ws first x).2

theorem TrD.done (h : TrD A slots d) (hd : ∀ j, d j ≤ m) (hm : m ≤ 1000) (i : Int) : TrD (A.tDone 1 slots i) slots (tUp slots d i) := by
  cases hk : gHas slots i with
  | false => unfold AR.tDone tUp; rw [hk]; exact h
  | true =>
    have hk' := hk
    unfold gHas at hk'
    simp at hk'
    obtain ⟨j, rfl⟩ := Int.eq_ofNat_of_zero_le hk'.1
    have hj : j < slots := by omega
    have hb := hd j
    unfold AR.tDone tUp AR.add
    rw [hk, if_pos rfl, if_pos rfl, h.has hj, if_pos rfl, h.get hj]
    have hw : wrap64 ((d j : Int) + 1) = ((d j + 1 : Nat) : Int) := by unfold wrap64; omega
    rw [hw]
    refine ⟨h.len, ?_, fun i hi => ?_⟩
    · show A.taken ≤ (A.ws.set _ _).length
      rw [List.length_set]; exact h.le
    · show (A.ws.set _ _)[i]? = _
      rw [show (((1 : Nat) : Int) + (j : Int)).toNat - 1 = j from by omega, List.getElem?_set]
      have := h.len
      have := h.le
      by_cases hij : j = i
      · subst hij; rw [if_pos rfl, if_pos (by omega)]; unfold dUp; simp
      · rw [if_neg hij, h.eq i hi]; unfold dUp
        rw [if_neg (show ¬ i = (j : Int).toNat from by omega)]

theorem tw_next {k : Nat} (hk : k < slots) (hs : slots ≤ 32) (hd : d k ≤ 1000) : tNext slots d k = tw k (d k + 1) := by
  unfold tNext gHas
  rw [if_pos (by simp; omega)]
  unfold fPack fPackOk tw
  rw [show ((k : Int).toNat) = k from by omega, if_pos (by simp; omega)]
  simp
theorem tw_parts {k m : Nat} (hk : k < 32) (hm : m ≤ 2000) : fMarked (tw k m) = false ∧ fIdx (tw k m) - 1 = k ∧ fNum (tw k m) = m ∧ I64 (tw k m) ∧ tw k m ≠ 0 := by
  refine ⟨?_, ?_, ?_, ?_, ?_⟩
  · unfold fMarked tw; simp; omega
  · unfold fIdx tw; omega
  · unfold fNum tw; omega
  · unfold I64 tw; omega
  · unfold tw; omega
theorem tw_inj {k m k' m' : Nat} (hk : k < 32) (hk' : k' < 32) (h : tw k m = tw k' m') : k = k' ∧ m = m' := by
  unfold tw at h; omega
theorem TrD.is (h : TrD A slots d) (hs : slots ≤ 32) {k m : Nat} (hk : k < slots) (hm : m ≤ 2000) : A.tIs 1 slots (tw k m) = decide (m ≤ d k) := by
  obtain ⟨p1, p2, p3, _⟩ := tw_parts (k := k) (m := m) (by omega) hm
  unfold AR.tIs tLooks
  rw [p1, p2, p3, h.get hk]
  have : gHas slots k = true := by unfold gHas; simp; omega
  rw [this]
  simp

/-- the turns that are over, by their words -/
def Past (slots : Nat) (d : Nat → Nat) (past : List Int) : Prop := ∀ p ∈ past, ∃ k m, k < slots ∧ m ≤ d k ∧ p = tw k m
theorem Past.nil : Past slots d [] := fun p hp => by simp at hp
theorem Past.new (h : Past slots d past) (hs : slots ≤ 32) {k : Nat} (hk : k < slots) : tw k (d k + 1) ∉ past := by
  intro hm
  obtain ⟨k', m', h1, h2, h3⟩ := h _ hm
  obtain ⟨rfl, h5⟩ := tw_inj (k := k) (k' := k') (by omega) (by omega) h3
  omega
theorem Past.more (h : Past slots d past) {k : Nat} (hk : k < slots) : Past slots (tUp slots d k) (past ++ [tw k (d k + 1)]) := by
  have hg : gHas slots k = true := by unfold gHas; simp; omega
  unfold tUp
  rw [hg, if_pos rfl, show ((k : Int).toNat) = k from by omega]
  intro p hp
  rcases List.mem_append.1 hp with hp | hp
  · obtain ⟨k', m', h1, h2, h3⟩ := h _ hp
    exact ⟨k', m', h1, by unfold dUp; split <;> omega, h3⟩
  · refine ⟨k, d k + 1, hk, by unfold dUp; simp, by simpa using hp⟩
end

theorem TrD.start {slots : Nat} (h1 : 1 ≤ slots) (h2 : slots ≤ 8) : (AR.fresh 8).tNewE slots = 0 ∧ TrD ((AR.fresh 8).take slots) slots (fun _ => 0) := by
  have he : (AR.fresh 8).takeE slots = 0 := by unfold AR.takeE AR.fresh; rw [if_neg (by omega), if_neg (by simp; omega)]
  refine ⟨by unfold AR.tNewE; rw [if_neg (by omega)]; exact he, ?_⟩
  unfold AR.take
  rw [if_pos he]
  unfold AR.fresh
  refine ⟨by simp, by simp; omega, fun j hj => ?_⟩
  show (List.replicate 8 (0 : Int))[j]? = _
  rw [List.getElem?_replicate, if_pos (by omega)]; rfl

end Go.Proofs.Ytakhhbemnodahaa
