/- A slice of ints of one's own: a row known whole; what an append leaves of it. Plain lemmas. -/
import Derived.Test.YtacogelejffbhaaProg
import Derived.Test.YtacogelejffbhaaFrame
import Derived.Test.YtacogelejffbhaaHeap
import Derived.WalkKit
import Derived.OwnWalk
namespace Go.Proofs.Ytacogelejffbhaa
open Go.RowKit

/-- slice v, whose row lies in a block from base on, reads as zs -/
def Own (w : World) (base : Nat) (v : Value) (zs : List Int) : Prop := w.ownsRow base 3 1 v zs.length (zs.map (Value.int .i64))

theorem Own.at {w : World} {base : Nat} {v : Value} {zs : List Int} (h : Own w base v zs) {n : Nat} (hn : zs.length = n) : w.ownsRow base 3 1 v n (zs.map (Value.int .i64)) := by subst hn; exact h
theorem Own.nil (w : World) (base : Nat) : Own w base (.slice none 0 0) [] := ⟨by simp, .inl ⟨rfl, rfl⟩⟩
theorem Own.frm {w w' : World} {base : Nat} {v : Value} {zs : List Int} (h : Own w base v zs) {S : List Nat} (hf : Frm S w w') (hs : ∀ k ∈ S, k < base) : Own w' base v zs := by
  obtain ⟨h1, h2⟩ := h
  refine ⟨h1, ?_⟩
  rcases h2 with h2 | ⟨g, cap, cur, hv, hg, hh, r⟩
  · exact .inl h2
  · refine .inr ⟨g, cap, cur, hv, hg, ?_, r⟩
    rw [hf.block g (Array.getElem?_eq_some_iff.1 hh).1 (fun hm => by have := hs g hm; omega)]
    exact hh
theorem Own.base {w : World} {base base' : Nat} {v : Value} {zs : List Int} (h : Own w base v zs) (hb : base' ≤ base) : Own w base' v zs := by
  obtain ⟨h1, h2⟩ := h
  refine ⟨h1, ?_⟩
  rcases h2 with h2 | ⟨g, cap, cur, hv, hg, r⟩
  · exact .inl h2
  · exact .inr ⟨g, cap, cur, hv, by omega, r⟩

/-- a slice v of ints reads as zs: each element lies in its cell, in a block from base on -/
def RowAt (w : World) (base : Nat) (v : Value) (zs : List Int) : Prop :=
  ∃ a cap, v = .slice a zs.length cap ∧ zs.length ≤ maxLen ∧ (0 < zs.length → ∃ b off, base ≤ b ∧ a = some ⟨b, off, none⟩ ∧ ∀ i, i < zs.length → w.cell? ⟨b, off + i, none⟩ = some (.int .i64 (zs[i]?.getD 0)))
theorem Own.row {w : World} {base : Nat} {v : Value} {zs : List Int} (h : Own w base v zs) : RowAt w base v zs := by
  obtain ⟨h1, h2⟩ := h
  rcases h2 with ⟨rfl, h2⟩ | ⟨g, cap, cur, hv, hg, hh, hn, hc, hcur, ht⟩
  · have : zs = [] := List.length_eq_zero_iff.1 h2
    subst this
    exact ⟨none, 0, rfl, Nat.zero_le _, fun h => absurd h (Nat.lt_irrefl _)⟩
  · refine ⟨some ⟨g, 0, none⟩, cap, hv, by omega, fun _ => ⟨g, 0, hg, rfl, fun i hi => ?_⟩⟩
    unfold World.cell?
    simp only [Nat.zero_add]
    rw [hh]
    show cur[i]? = _
    have h3 : (cur.toList.take (zs.length * 1))[i]? = (zs.map (Value.int .i64))[i]? := by rw [ht]
    rw [List.getElem?_take_of_lt (by omega), List.getElem?_map] at h3
    rw [← Array.getElem?_toList, h3]
    simp [hi]
theorem RowAt.frm {w w' : World} {base : Nat} {v : Value} {zs : List Int} (h : RowAt w base v zs) {S : List Nat} (hf : Frm S w w') (hs : ∀ k ∈ S, k < base) : RowAt w' base v zs := by
  obtain ⟨a, cap, h1, h2, h3⟩ := h
  refine ⟨a, cap, h1, h2, fun h0 => ?_⟩
  obtain ⟨b, off, hb, ha, hc⟩ := h3 h0
  exact ⟨b, off, hb, ha, fun i hi => hf.cell (hc i hi) (fun hm => by have := hs b hm; omega)⟩

/-- what an append of one number leaves -/
theorem own_step {w0 w w1 : World} {base : Nat} {v' : Value} {zs : List Int} {x : Int} {S : List Nat} {o : Obj} {row : Option Nat} {n : Nat} (hn : zs.length = n) (hown : w1.ownsRow base 3 1 v' (n + 1) (zs.map (Value.int .i64) ++ [.int .i64 x]))
    (hg : (w.alloc o).grownBy w1 row) (hr : ∀ k, row = some k → base ≤ k) (hf : Frm S w0 w) (hb : w0.heap.size ≤ base) : Own w1 base v' (zs ++ [x]) ∧ Frm S w0 w1 := by
  subst hn
  refine ⟨by unfold Own; simpa using hown, ?_⟩
  exact (hf.alloc o).widen (S' := row.toList) (Frm.of_grown hg (fun k hk => .inl (by simp [hk]))) (fun k hk => .inr (by have := hr k (by simpa using hk); omega))

theorem own_block {w : World} {base : Nat} {v : Value} {zs : List Int} (h : Own w base v zs) : ∀ k, v.ownBlock = some k → base ≤ k := by
  obtain ⟨h1, h2⟩ := h
  rcases h2 with ⟨rfl, h2⟩ | ⟨g, cap, cur, rfl, hg, r⟩
  · intro k hk; simp [Value.ownBlock] at hk
  · intro k hk; simp [Value.ownBlock] at hk; omega

theorem intInfo : (Try.prog.info? 3).map (fun i => (i.zero, i.size, i.bytes)) = some (some (.int .i64 0), 1, 8) := by kernel_rfl

end Go.Proofs.Ytacogelejffbhaa
