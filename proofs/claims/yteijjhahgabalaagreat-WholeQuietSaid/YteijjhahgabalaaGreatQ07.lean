/- A slice of ints of one's own: a row known whole; what an append leaves of it. Plain lemmas. -/
import Derived.WalkKit
import Derived.OwnWalk
import Derived.Test.YteijjhahgabalaaGreatProg
import Derived.Test.YteijjhahgabalaaGreatQ04
import Derived.Test.YteijjhahgabalaaGreatQ02
namespace Go.Proofs.YteijjhahgabalaaGreat
open Go.RowKit

/-- slice v, whose row lies in a block from base on, reads as zs -/
def Own (w : World) (base : Nat) (v : Value) (zs : List Int) : Prop := w.ownsRow base 3 1 v zs.length (zs.map (Value.int .i64))

theorem Own.at {w : World} {base : Nat} {v : Value} {zs : List Int} (h : Own w base v zs) {n : Nat} (hn : zs.length = n) : w.ownsRow base 3 1 v n (zs.map (Value.int .i64)) := by subst hn; exact h
theorem Own.nil (w : World) (base : Nat) : Own w base (.slice none 0 0) [] := ⟨by simp, .inl ⟨rfl, rfl⟩⟩
theorem Own.frm {w w' : World} {base : Nat} {v : Value} {zs : List Int} (h : Own w base v zs) {S : List Nat} (hf : Frm S w w') (hs : ∀ k ∈ S, k < base) : Own w' base v zs := by
  obtain ⟨h1, h2⟩ := h
  refine ⟨h1, ?_⟩
  rcases h2 with h2 | ⟨g, cap, cur, hv, hg, hh, r⟩
  · exact .inl h2
  · refine .inr ⟨g, cap, cur, hv, hg, ?_, r⟩
    rw [hf.block g (Array.getElem?_eq_some_iff.1 hh).1 (fun hm => by have := hs g hm; omega)]
    exact hh
theorem Own.base {w : World} {base base' : Nat} {v : Value} {zs : List Int} (h : Own w base v zs) (hb : base' ≤ base) : Own w base' v zs := by
  obtain ⟨h1, h2⟩ := h
  refine ⟨h1, ?_⟩
  rcases h2 with h2 | ⟨g, cap, cur, hv, hg, r⟩
  · exact .inl h2
  · exact .inr ⟨g, cap, cur, hv, by omega, r⟩

/-- a slice v of ints reads as zs: each element lies in its cell, in a block from base on -/
def RowAt (w : World) (base : Nat) (v : Value) (zs : List Int) : Prop :=
  ∃ a cap, v = .slice a zs.length cap ∧ zs.length ≤ maxLen ∧ (0 < zs.length → ∃ b off, base ≤ b ∧ a = some ⟨b, off, none⟩ ∧ ∀ i, i < zs.length → w.cell? ⟨b, off + i, none⟩ = some (.int .i64 (zs[i]?.getD 0)))
theorem Own.row {w : World} {base : Nat} {v : Value} {zs : List Int} (h : Own w base v zs) : RowAt w base v zs := by
  obtain ⟨h1, h2⟩ := h
  rcases h2 with ⟨rfl, h2⟩ | ⟨g, cap, cur, hv, hg, hh, hn, hc, hcur, ht⟩
  · have : zs = [] := List.length_eq_zero_iff.1 h2
    subst this
    exact ⟨none, 0, rfl, Nat.zero_le _, fun h => absurd h (Nat.lt_irrefl _)⟩
  · refine ⟨some ⟨g, 0, none⟩, cap, hv, by omega, fun _ => ⟨g, 0, hg, rfl, fun i hi => ?_⟩⟩
    unfold World.cell?
    simp only [Nat.zero_add]
    rw [hh]
    show cur[i]? = _
    have h3 : (cur.toList.take (zs.length * 1))[i]? = (zs.map (Value.int .i64))[i]? := by rw [ht]
    rw [List.getElem?_take_of_lt (by omega), List.getElem?_map] at h3
    rw [← Array.getElem?_toList, h3]
    simp [hi]
theorem RowAt.frm {w w' : World} {base : Nat} {v : Value} {zs : List Int} (h : RowAt w base v zs) {S : List Nat} (hf : Frm S w w') (hs : ∀ k ∈ S, k < base) : RowAt w' base v zs := by
  obtain ⟨a, cap, h1, h2, h3⟩ := h
  refine ⟨a, cap, h1, h2, fun h0 => ?_⟩
  obtain ⟨b, off, hb, ha, hc⟩ := h3 h0
  exact ⟨b, off, hb, ha, fun i hi => hf.cell (hc i hi) (fun hm => by have := hs b hm; omega)⟩

/-- what an append of one number leaves -/
theorem own_step {w0 w w1 : World} {base : Nat} {v' : Value} {zs : List Int} {x : Int} {S : List Nat} {o : Obj} {row : Option Nat} {n : Nat} (hn : zs.length = n) (hown : w1.ownsRow base 3 1 v' (n + 1) (zs.map (Value.int .i64) ++ [.int .i64 x]))
    (hg : (w.alloc o).grownBy w1 row) (hr : ∀ k, row = some k → base ≤ k) (hf : Frm S w0 w) (hb : w0.heap.size ≤ base) : Own w1 base v' (zs ++ [x]) ∧ Frm S w0 w1 := by
  subst hn
  refine ⟨by unfold Own; simpa using hown, ?_⟩
  exact (hf.alloc o).widen (S' := row.toList) (Frm.of_grown hg (fun k hk => .inl (by simp [hk]))) (fun k hk => .inr (by have := hr k (by simpa using hk); omega))

theorem own_block {w : World} {base : Nat} {v : Value} {zs : List Int} (h : Own w base v zs) : ∀ k, v.ownBlock = some k → base ≤ k := by
  obtain ⟨h1, h2⟩ := h
  rcases h2 with ⟨rfl, h2⟩ | ⟨g, cap, cur, rfl, hg, r⟩
  · intro k hk; simp [Value.ownBlock] at hk
  · intro k hk; simp [Value.ownBlock] at hk; omega

theorem intInfo : (Tryz.prog.info? 3).map (fun i => (i.zero, i.size, i.bytes)) = some (some (.int .i64 0), 1, 8) := by kernel_rfl

end Go.Proofs.YteijjhahgabalaaGreat

/- The top laws' spec, two. -/
namespace Go.Proofs.YteijjhahgabalaaGreat
open Go.RowKit
theorem HAt.rowAt {w : World} {b base : Nat} {zs : List Int} (h : HAt w b (zs.map (Value.int .i64)) 3) (hb : base ≤ b) (hl : zs.length ≤ maxLen) : RowAt w base (.slice (some ⟨b, 0, none⟩) zs.length zs.length) zs := by
  refine ⟨_, _, rfl, hl, fun _ => ⟨b, 0, hb, rfl, fun i hi => ?_⟩⟩
  rw [Nat.zero_add]
  refine h.cell ?_
  rw [List.getElem?_map, List.getElem?_eq_getElem hi]
  simp
def spec5 (x0 x1 x2 x3 : Int) : Value := .agg #[.int .i64 (1 + x3 % 13), .int .i64 (1 + x0 % 5), .int .i64 (1 + x1 % 5), .int .i64 (1 + x2 / 4 % 4), .int .i64 (x2 % 4)]
set_option maxHeartbeats 2000000 in
theorem spec_any (w : World) (x0 x1 x2 x3 : Int) (h0 : 0 ≤ x0 ∧ x0 < 256) (h1 : 0 ≤ x1 ∧ x1 < 256) (h2 : 0 ≤ x2 ∧ x2 < 256) (h3 : 0 ≤ x3 ∧ x3 < 256) :
    Calls Tryz.prog 12 #[.agg #[.int .u8 x0, .int .u8 x1, .int .u8 x2, .int .u8 x3]] w fun e w' => e = .returned (spec5 x0 x1 x2 x3) ∧ Frm [] w w' := by
  unfold spec5
  go_enter Tryz.func12, Tryz.ntmps12
  go_wp2
  exact bodyPost_ret (v := .agg #[.int .i64 (1 + x3 % 13), .int .i64 (1 + x0 % 5), .int .i64 (1 + x1 % 5), .int .i64 (1 + x2 / 4 % 4), .int .i64 (x2 % 4)]) (by simp [results, Tryz.results12, go_sem]) rfl ⟨rfl, ((Frm.refl _ _).alloc _).alloc _⟩
theorem two_ok (w : World) : Calls Tryz.prog 23 #[] w fun e w' => ∃ v u, e = .returned (.agg #[v, u]) ∧ RowAt w' 0 v [-1, 0, 0] ∧ RowAt w' 0 u [1, 1, 2, 2] ∧ Frm [] w w' := by
  go_enter Tryz.func23, Tryz.ntmps23
  go_wp2
  have g1 := (HAt.new (w.alloc (.cells #[.slice (some ⟨w.heap.size + 1, 0, none⟩) 3 3, .slice (some ⟨w.heap.size + 1 + 1, 0, none⟩) 4 4] 24)) #[.int .i64 (-1), .int .i64 0, .int .i64 0] 3).alloc (.cells #[.int .i64 1, .int .i64 1, .int .i64 2, .int .i64 2] 3)
  have g2 := HAt.new ((w.alloc (.cells #[.slice (some ⟨w.heap.size + 1, 0, none⟩) 3 3, .slice (some ⟨w.heap.size + 1 + 1, 0, none⟩) 4 4] 24)).alloc (.cells #[.int .i64 (-1), .int .i64 0, .int .i64 0] 3)) #[.int .i64 1, .int .i64 1, .int .i64 2, .int .i64 2] 3
  rw [World.size_alloc] at g1
  rw [World.size_alloc, World.size_alloc] at g2
  have r1 : RowAt _ 0 (.slice (some ⟨w.heap.size + 1, 0, none⟩) 3 3) [-1, 0, 0] := HAt.rowAt (zs := [-1, 0, 0]) (base := 0) g1 (Nat.zero_le _) (by unfold maxLen; simp)
  have r2 : RowAt _ 0 (.slice (some ⟨w.heap.size + 1 + 1, 0, none⟩) 4 4) [1, 1, 2, 2] := HAt.rowAt (zs := [1, 1, 2, 2]) (base := 0) g2 (Nat.zero_le _) (by unfold maxLen; simp)
  exact bodyPost_ret (v := .agg #[.slice (some ⟨w.heap.size + 1, 0, none⟩) 3 3, .slice (some ⟨w.heap.size + 1 + 1, 0, none⟩) 4 4]) (by simp [results, Tryz.results23, go_sem]) rfl ⟨_, _, rfl, r1, r2, (((Frm.refl _ _).alloc _).alloc _).alloc _⟩
end Go.Proofs.YteijjhahgabalaaGreat
