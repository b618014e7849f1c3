/- Blocks of the heap known whole, and what a call leaves of the others: plain lemmas over any program. -/
import Derived.WalkKit
import Derived.WalkSmall
import Derived.Below
import Derived.Deep.Draws
namespace Go.Proofs.YteijjhahgabalaaGreat
open Go.RowKit

/-- block b is known whole: its cells are vs; none of them is frozen -/
def HAt (w : World) (b : Nat) (vs : List Value) (T : TypeId) : Prop := w.heap[b]? = some (.cells vs.toArray T (0, 0))

theorem HAt.lt {w : World} {b : Nat} {vs : List Value} {T : TypeId} (h : HAt w b vs T) : b < w.heap.size := (Array.getElem?_eq_some_iff.1 h).1

theorem HAt.cell {w : World} {b : Nat} {vs : List Value} {T : TypeId} (h : HAt w b vs T) {i : Nat} {v : Value} (hv : vs[i]? = some v) : w.cell? ⟨b, i, none⟩ = some v := by
  unfold World.cell?
  rw [h]
  simpa using hv

theorem HAt.frozen {w : World} {b : Nat} {vs : List Value} {T : TypeId} (h : HAt w b vs T) (i : Nat) : w.frozen? ⟨b, i, none⟩ = false := by
  unfold World.frozen?
  rw [h]
  simp

theorem HAt.set {w : World} {b : Nat} {vs : List Value} {T : TypeId} (h : HAt w b vs T) (i : Nat) (v : Value) : HAt (w.setCell ⟨b, i, none⟩ v) b (vs.set i v) T := by
  unfold HAt World.setCell
  rw [Array.getElem?_modify]
  simp only [if_true]
  rw [h]
  simp

theorem HAt.other {w : World} {b : Nat} {vs : List Value} {T : TypeId} (h : HAt w b vs T) (a : Addr) (v : Value) (hb : b ≠ a.block) : HAt (w.setCell a v) b vs T := by
  unfold HAt
  rw [Below.heap_setCell _ _ _ _ hb]
  exact h

theorem HAt.alloc {w : World} {b : Nat} {vs : List Value} {T : TypeId} (h : HAt w b vs T) (o : Obj) : HAt (w.alloc o) b vs T := by
  unfold HAt
  rw [Below.heap_alloc _ _ _ h.lt]
  exact h

theorem HAt.new (w : World) (vs : Array Value) (T : TypeId) : HAt (w.alloc (.cells vs T)) w.heap.size vs.toList T := by
  unfold HAt
  show (w.heap.push _)[w.heap.size]? = _
  simp

theorem HAt.drew {w : World} {b : Nat} {vs : List Value} {T : TypeId} (h : HAt w b vs T) (n : Nat) : HAt (w.drewN n) b vs T := h
theorem HAt.drew1 {w : World} {b : Nat} {vs : List Value} {T : TypeId} (h : HAt w b vs T) : HAt w.drew b vs T := h

/-- what a call leaves: the streams as they were; no block gone; every block that was there and is not in S as it was -/
structure Frm (S : List Nat) (w w' : World) : Prop where
  os : w'.os = w.os
  tape : w'.tape = w.tape
  output : w'.output = w.output
  size : w.heap.size ≤ w'.heap.size
  block : ∀ k, k < w.heap.size → k ∉ S → w'.heap[k]? = w.heap[k]?

theorem Frm.refl (S : List Nat) (w : World) : Frm S w w := ⟨rfl, rfl, rfl, Nat.le_refl _, fun _ _ _ => rfl⟩
theorem Frm.trans {S : List Nat} {a b c : World} (h : Frm S a b) (k : Frm S b c) : Frm S a c :=
  ⟨k.os.trans h.os, k.tape.trans h.tape, k.output.trans h.output, Nat.le_trans h.size k.size, fun i hi hn => (k.block i (Nat.lt_of_lt_of_le hi h.size) hn).trans (h.block i hi hn)⟩
theorem Frm.mono {S S' : List Nat} {a b : World} (h : Frm S a b) (hs : ∀ k ∈ S, k ∈ S') : Frm S' a b :=
  ⟨h.os, h.tape, h.output, h.size, fun k hk hn => h.block k hk (fun hm => hn (hs k hm))⟩
/-- a call may touch, besides, blocks that were not there before -/
theorem Frm.widen {S S' : List Nat} {a b c : World} (h : Frm S a b) (k : Frm S' b c) (hs : ∀ x ∈ S', x ∈ S ∨ a.heap.size ≤ x) : Frm S a c :=
  ⟨k.os.trans h.os, k.tape.trans h.tape, k.output.trans h.output, Nat.le_trans h.size k.size, fun i hi hn =>
    (k.block i (Nat.lt_of_lt_of_le hi h.size) (fun hm => (hs i hm).elim hn (fun hge => by omega))).trans (h.block i hi hn)⟩
theorem Frm.drew {S : List Nat} {a b : World} (h : Frm S a b) (n : Nat) : Frm S a (b.drewN n) := ⟨h.os, h.tape, h.output, h.size, h.block⟩
theorem Frm.drew1 {S : List Nat} {a b : World} (h : Frm S a b) : Frm S a b.drew := ⟨h.os, h.tape, h.output, h.size, h.block⟩
theorem Frm.alloc {S : List Nat} {a b : World} (h : Frm S a b) (o : Obj) : Frm S a (b.alloc o) :=
  ⟨h.os, h.tape, h.output, by simp; have := h.size; omega, fun k hk hn => (Below.heap_alloc _ _ _ (Nat.lt_of_lt_of_le hk h.size)).trans (h.block k hk hn)⟩
theorem Frm.set {S : List Nat} {a b : World} (h : Frm S a b) (p : Addr) (v : Value) (hp : p.block ∈ S ∨ a.heap.size ≤ p.block) : Frm S a (b.setCell p v) :=
  ⟨h.os, h.tape, h.output, by simp [World.setCell]; exact h.size, fun k hk hn => (Below.heap_setCell _ _ _ _ (fun e => by subst e; exact hp.elim hn (fun hge => by omega))).trans (h.block k hk hn)⟩
theorem Frm.below {S : List Nat} {w w' : World} (h : Frm S w w') {B : Nat} (hB : B ≤ w.heap.size) (hs : ∀ k ∈ S, B ≤ k) : Below B w w' :=
  ⟨h.os, h.tape, h.output, h.size, fun k hk => h.block k (by omega) (fun hm => by have := hs k hm; omega)⟩
theorem Frm.of_below {w w' : World} (h : Below w.heap.size w w') : Frm [] w w' := ⟨h.os, h.tape, h.output, h.size, fun k hk _ => h.block k hk⟩
theorem Frm.of_grown {S : List Nat} {w w' : World} {row : Option Nat} (hg : w.grownBy w' row) (hr : ∀ k, row = some k → k ∈ S ∨ w.heap.size ≤ k) : Frm S w w' :=
  ⟨hg.os, hg.tape, hg.output, hg.size, fun k hk hn => hg.block k hk (fun e => (hr k e.symm).elim hn (fun hge => by omega))⟩
theorem HAt.frm {w w' : World} {b : Nat} {vs : List Value} {T : TypeId} (h : HAt w b vs T) {S : List Nat} (hf : Frm S w w') (hb : b ∉ S) : HAt w' b vs T := by
  unfold HAt
  rw [hf.block b h.lt hb]
  exact h
theorem Frm.cell {S : List Nat} {w w' : World} (hf : Frm S w w') {a : Addr} {v : Value} (h : w.cell? a = some v) (hb : a.block ∉ S) : w'.cell? a = some v := by
  have hlt : a.block < w.heap.size := by
    unfold World.cell? at h
    cases hb : w.heap[a.block]? with
    | none => rw [hb] at h; simp at h
    | some o => exact (Array.getElem?_eq_some_iff.1 hb).1
  rw [World.cell?_of_block (w := w) (hf.block a.block hlt hb)]
  exact h

end Go.Proofs.YteijjhahgabalaaGreat
