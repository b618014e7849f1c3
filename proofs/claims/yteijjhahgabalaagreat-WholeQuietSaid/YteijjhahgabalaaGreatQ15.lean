/- The contracts of tas: New, a step whatever the slot is at. -/
import Derived.Test.YteijjhahgabalaaGreatQ06
import Derived.Test.YteijjhahgabalaaGreatQ07
import Derived.Test.YteijjhahgabalaaGreatQ11
namespace Go.Proofs.YteijjhahgabalaaGreat
open Go.RowKit

theorem spotInfo : (Tryz.prog.info? 138).map (fun i => (i.zero, i.size, i.bytes)) = some (some (.agg #[.int .i64 0, .int .i64 0, .int .i64 0, .int .i64 0]), 4, 32) := by kernel_rfl
theorem mkSpots (n : Nat) (hn : n ≤ 1000) (W : World) : (Instr.makeSlice 142 (.int .i64 n) (.int .i64 n)).run Tryz.prog W = .ok (.slice (some ⟨W.heap.size, 0, none⟩) n n) (W.alloc (.cells (spC n (fun _ _ => 0)).toArray 138)) := by
  obtain ⟨i0, hi, hz0, hz1, hz2⟩ := info_parts spotInfo
  rw [run_make W 142 138 i0 (.agg #[.int .i64 0, .int .i64 0, .int .i64 0, .int .i64 0]) Tryz.underlying142 hi hz0 .i64 .i64 n n (by omega) (by omega) (by rw [hz2]; omega) (by omega)]
  have e : madeCells (Value.agg #[.int .i64 0, .int .i64 0, .int .i64 0, .int .i64 0]).cells (((n : Int).toNat) * i0.size) = (spC n (fun _ _ => 0)).toArray := by
    rw [hz1]
    apply Array.ext'
    apply List.ext_getElem?
    intro j
    have hz : ∀ k, k < 4 → (#[Value.int .i64 0, .int .i64 0, .int .i64 0, .int .i64 0] : Array Value)[k]! = .int .i64 0 := by
      intro k hk
      rcases (by omega : k = 0 ∨ k = 1 ∨ k = 2 ∨ k = 3) with rfl | rfl | rfl | rfl <;> rfl
    have hz4 := hz (j % 4) (Nat.mod_lt _ (by omega))
    by_cases hj : j < n * 4
    · unfold madeCells spC
      simp only [Array.toList_map, List.getElem?_map, Array.toList_range]
      rw [List.getElem?_range (by simpa using hj), List.getElem?_range (by omega)]
      show some _ = some _
      congr 1
    · rw [List.getElem?_eq_none (by simp [madeCells]; omega), List.getElem?_eq_none (by simp [spC]; omega)]
  rw [e]
  simp

def tStepR (n word : Nat) (S : Nat → Nat → Int) (A : AR) (i : Int) : Bool := sHas n i && (if S i.toNat 0 = 1 then A.casOk word 0 else decide (S i.toNat 0 = 11))
def tStepS (n word : Nat) (most : Int) (S : Nat → Nat → Int) (A : AR) (i : Int) : Nat → Nat → Int :=
  if sHas n i then
    (if S i.toNat 0 = 1 then (if A.casOk word 0 then spPut S i.toNat 0 10 else spPut (spPut (spPut S i.toNat 0 2) i.toNat 2 (S i.toNat 1)) i.toNat 1 (tLonger most (S i.toNat 1)))
     else if S i.toNat 0 = 2 then (if wrap64 (S i.toNat 2 - 1) = 0 then spPut (spPut S i.toNat 2 (wrap64 (S i.toNat 2 - 1))) i.toNat 0 1 else spPut S i.toNat 2 (wrap64 (S i.toNat 2 - 1)))
     else if S i.toNat 0 = 11 then spPut S i.toNat 0 0 else S)
  else S
def tStepA (n word : Nat) (S : Nat → Nat → Int) (A : AR) (i : Int) : AR := if sHas n i then (if S i.toNat 0 = 1 then A.cas word 0 (i + 1) else if S i.toNat 0 = 11 then A.store word 0 else A) else A

section
variable {w : World} {lb ab wb sb word n : Nat} {most : Int} {S : Nat → Nat → Int} {A : AR}

theorem lStep_any (h : LkAt w lb ab sb word n most S) (hA : ArAt w ab wb A) (hne : lb ≠ ab ∧ lb ≠ wb ∧ sb ≠ ab ∧ sb ≠ wb) (i : Int) : Calls Tryz.prog 163 #[.pointer (some ⟨lb, 0, none⟩), .int .i64 i] w fun e w' => e = .returned (.bool (tStepR n word S A i)) ∧
    LkAt w' lb ab sb word n most (tStepS n word most S A i) ∧ ArAt w' ab wb (tStepA n word S A i) ∧ Frm [sb, ab, wb] w w' := by
  have hne' := hne
  obtain ⟨n1, n2, n3, n4⟩ := hne
  cases hi : sHas n i with
  | false =>
    refine (lStep_idle h i (.inl hi)).mono fun e w' ⟨g1, g2⟩ => ?_
    subst g1 g2
    exact ⟨by unfold tStepR; rw [hi]; rfl, by unfold tStepS; rw [hi]; exact h, by unfold tStepA; rw [hi]; exact hA, Frm.refl _ _⟩
  | true =>
    have hi' : 0 ≤ i ∧ i < (n : Int) := by unfold sHas at hi; simpa using hi
    obtain ⟨j, rfl⟩ := Int.eq_ofNat_of_zero_le hi'.1
    have hj : j < n := by omega
    have ej : ((j : Int)).toNat = j := by omega
    unfold tStepR tStepS tStepA
    rw [hi, ej]
    simp only [Bool.true_and, if_true]
    by_cases q1 : S j 0 = 1
    · simp only [if_pos q1]
      exact lStep_try h hA hne' hj q1
    · simp only [if_neg q1]
      by_cases q2 : S j 0 = 2
      · have q3 : ¬ S j 0 = 11 := by omega
        simp only [if_pos q2, if_neg q3, decide_eq_false q3]
        exact (lStep_wait h hj q2).mono fun e w' ⟨g1, g2, g3⟩ => ⟨g1, g2, hA.frm g3 (by simp; omega) (by simp; omega), g3.mono (by simp)⟩
      · simp only [if_neg q2]
        by_cases q3 : S j 0 = 11
        · simp only [if_pos q3, decide_eq_true q3]
          exact lStep_free h hA hne' hj q3
        · simp only [if_neg q3, decide_eq_false q3]
          refine (lStep_idle h j (.inr ?_)).mono fun e w' ⟨g1, g2⟩ => ?_
          · rw [ej]; exact ⟨q1, q2, q3⟩
          · subst g1 g2
            exact ⟨rfl, h, hA, Frm.refl _ _⟩

/-- New, where all is well -/
theorem lNew_ok (hA : ArAt w ab wb A) (n : Nat) (hn1 : 1 ≤ n) (hn : n ≤ 32) (hm1 : 1 ≤ most) (hm2 : most ≤ 1024) (ht : A.takeE 1 = 0) :
    Calls Tryz.prog 49 #[.pointer (some ⟨ab, 0, none⟩), .int .i64 n, .int .i64 most] w fun e w' => ∃ lb sb, e = .returned (.tuple #[.pointer (some ⟨lb, 0, none⟩), .int .i64 0]) ∧ w.heap.size ≤ lb ∧ w.heap.size ≤ sb ∧
      LkAt w' lb ab sb (A.taken + 1) n most (fun _ _ => 0) ∧ ArAt w' ab wb (A.take 1) ∧ Frm [ab, wb] w w' := by
  have d1 : decide ((n : Int) < 1) = false := by simp; omega
  have d2 : decide ((32 : Int) < n) = false := by simp; omega
  have d3 : decide (most < 1) = false := by simp; omega
  have d4 : decide (1024 < most) = false := by simp; omega
  have mk := mkSpots n (by omega)
  have hT := Take_any hA 1
  have hn' : A.takeN 1 = (A.taken : Int) + 1 := by unfold AR.takeN; rw [if_pos ht]
  rw [ht, hn'] at hT
  have HT := Lib.hid hT
  have hab := hA.box.lt
  have hwb := hA.row.lt
  clear hA hT hn' ht
  go_enter Tryz.func49, Tryz.ntmps49
  go_wp2_with fail
  refine HT.out.mono ?_
  rintro e w1 ⟨rfl, hA', hF⟩
  have hsz := hF.size
  have HF := Lib.hid hF
  have HA := Lib.hid hA'
  clear hA' hF
  go_wp2
  go_ret2
  have g1 := (HAt.new w1 (spC n fun _ _ => 0).toArray 138).alloc (.cells #[.pointer (some ⟨ab, 0, none⟩), .int .i64 ((A.taken : Int) + 1), .int .i64 most, .slice (some ⟨w1.heap.size, 0, none⟩) n n] 144)
  have g2 := HAt.new (w1.alloc (.cells (spC n fun _ _ => 0).toArray 138)) #[.pointer (some ⟨ab, 0, none⟩), .int .i64 ((A.taken : Int) + 1), .int .i64 most, .slice (some ⟨w1.heap.size, 0, none⟩) n n] 144
  rw [World.size_alloc] at g2
  refine ⟨w1.heap.size + 1, w1.heap.size, rfl, by omega, hsz, ?_, ?_, (HF.out.alloc _).alloc _⟩
  · exact { box := by simpa using g2, row := by simpa using g1, ne := by omega, n1 := hn1, n32 := hn, m1 := hm1, m2 := hm2 }
  · exact HA.out.frm (S := []) (((Frm.refl _ _).alloc _).alloc _) (by simp) (by simp)

/-- New, where there are no slots -/
theorem lNew_none (p : Option Addr) (s : Int) (hs : s < 1) (w : World) : Calls Tryz.prog 49 #[.pointer p, .int .i64 s, .int .i64 most] w fun e w' => e = .returned (.tuple #[.pointer none, .int .i64 1]) ∧ w = w' := by
  have d1 : decide (s < 1) = true := by simpa using hs
  go_enter Tryz.func49, Tryz.ntmps49
  go_wp2
  go_ret2
  exact ⟨rfl, rfl⟩
end
end Go.Proofs.YteijjhahgabalaaGreat
