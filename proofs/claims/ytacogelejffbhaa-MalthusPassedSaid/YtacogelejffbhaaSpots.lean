/- Spots: the cells of a slice of spots, and a new one. -/
import Derived.Test.YtacogelejffbhaaProg
import Derived.Test.YtacogelejffbhaaFrame
import Derived.Test.YtacogelejffbhaaHeap
import Derived.Test.YtacogelejffbhaaOwn
import Derived.WalkKit
import Derived.WalkSpells
import Derived.Lib.Hide
namespace Go.Proofs.Ytacogelejffbhaa
open Go.RowKit

/-- slots' spots: field t of slot i -/
def spC (n : Nat) (S : Nat → Nat → Int) : List Value := (List.range (4 * n)).map fun j => Value.int .i64 (S (j / 4) (j % 4))
def spPut (S : Nat → Nat → Int) (i t : Nat) (v : Int) : Nat → Nat → Int := fun i' t' => if i' = i ∧ t' = t then v else S i' t'
theorem spC_get (n : Nat) (S : Nat → Nat → Int) {i t : Nat} (hi : i < n) (ht : t < 4) : (spC n S)[i * 4 + t]? = some (.int .i64 (S i t)) := by
  unfold spC
  rw [List.getElem?_map, List.getElem?_range (by omega)]
  simp only [Option.map_some]
  rw [show (i * 4 + t) / 4 = i from by omega, show (i * 4 + t) % 4 = t from by omega]
theorem spC_put (n : Nat) (S : Nat → Nat → Int) {i t : Nat} (ht : t < 4) (v : Int) : (spC n S).set (i * 4 + t) (.int .i64 v) = spC n (spPut S i t v) := by
  apply List.ext_getElem?
  intro j
  rw [List.getElem?_set]
  by_cases h : i * 4 + t = j
  · subst h
    by_cases h8 : i * 4 + t < 4 * n
    · rw [if_pos rfl, if_pos (by unfold spC; simpa using h8)]
      unfold spC
      rw [List.getElem?_map, List.getElem?_range h8]
      simp only [Option.map_some]
      rw [show (i * 4 + t) / 4 = i from by omega, show (i * 4 + t) % 4 = t from by omega]
      unfold spPut; simp
    · rw [if_pos rfl, if_neg (by unfold spC; simpa using h8), List.getElem?_eq_none (by unfold spC; simp; omega)]
  · rw [if_neg h]
    unfold spC
    by_cases h8 : j < 4 * n
    · rw [List.getElem?_map, List.getElem?_map, List.getElem?_range h8]
      simp only [Option.map_some]
      unfold spPut
      rw [if_neg (by omega)]
    · rw [List.getElem?_eq_none (by simp; omega), List.getElem?_eq_none (by simp; omega)]
/-- is there a slot of that number? -/
def sHas (n : Nat) (i : Int) : Bool := decide (0 ≤ i ∧ i < (n : Int))
/-- what a slot's spot is, as a value -/
def spV (n : Nat) (S : Nat → Nat → Int) (i : Int) : Value := if sHas n i then .agg #[.int .i64 (S i.toNat 0), .int .i64 (S i.toNat 1), .int .i64 (S i.toNat 2), .int .i64 (S i.toNat 3)] else .agg #[.int .i64 0, .int .i64 0, .int .i64 0, .int .i64 0]

theorem spotPc (a b c d : Int) (W : World) : (Instr.field 64 (.agg #[.int .i64 a, .int .i64 b, .int .i64 c, .int .i64 d]) 0).run Try.prog W = .ok (.int .i64 a) W := by kernel_rfl
theorem spotInfo : (Try.prog.info? 64).map (fun i => (i.zero, i.size, i.bytes)) = some (some (.agg #[.int .i64 0, .int .i64 0, .int .i64 0, .int .i64 0]), 4, 32) := by kernel_rfl
theorem mkSpots (n : Nat) (hn : n ≤ 1000) (W : World) : (Instr.makeSlice 87 (.int .i64 n) (.int .i64 n)).run Try.prog W = .ok (.slice (some ⟨W.heap.size, 0, none⟩) n n) (W.alloc (.cells (spC n (fun _ _ => 0)).toArray 64)) := by
  obtain ⟨i0, hi, hz0, hz1, hz2⟩ := info_parts spotInfo
  rw [run_make W 87 64 i0 (.agg #[.int .i64 0, .int .i64 0, .int .i64 0, .int .i64 0]) Try.underlying87 hi hz0 .i64 .i64 n n (by omega) (by omega) (by rw [hz2]; omega) (by omega)]
  have e : madeCells (Value.agg #[.int .i64 0, .int .i64 0, .int .i64 0, .int .i64 0]).cells (((n : Int).toNat) * i0.size) = (spC n (fun _ _ => 0)).toArray := by
    rw [hz1]
    apply Array.ext'
    apply List.ext_getElem?
    intro j
    have hz : ∀ k, k < 4 → (#[Value.int .i64 0, .int .i64 0, .int .i64 0, .int .i64 0] : Array Value)[k]! = .int .i64 0 := by
      intro k hk
      rcases (by omega : k = 0 ∨ k = 1 ∨ k = 2 ∨ k = 3) with rfl | rfl | rfl | rfl <;> rfl
    have hz4 := hz (j % 4) (Nat.mod_lt _ (by omega))
    by_cases hj : j < n * 4
    · unfold madeCells spC
      simp only [Array.toList_map, List.getElem?_map, Array.toList_range]
      rw [List.getElem?_range (by simpa using hj), List.getElem?_range (by omega)]
      show some _ = some _
      congr 1
    · rw [List.getElem?_eq_none (by simp [madeCells]; omega), List.getElem?_eq_none (by simp [spC]; omega)]
  rw [e]
  simp
end Go.Proofs.Ytacogelejffbhaa
