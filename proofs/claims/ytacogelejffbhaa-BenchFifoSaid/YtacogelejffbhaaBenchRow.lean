/- A row of ints of one's own that is cut from the front and grows at the end. -/
import Derived.Test.YtacogelejffbhaaBenchAwake
import Derived.Test.YtacogelejffbhaaHas
import Derived.ArgAppend
import Derived.Lib.JoinLaws
import Derived.Deep.DeepMust
import Derived.Deep.MidRow
namespace Go.Proofs.Ytacogelejffbhaa
open Go.RowKit

/-- slice v, whose row lies in a block from base on, reads as zs; all its room may be written -/
structure QAt (w : World) (base g off cap : Nat) (zs : List Int) : Prop where
  lo : base ≤ g
  hi : g < w.heap.size
  le : zs.length ≤ cap
  mx : cap ≤ maxLen
  room : ∀ j, j < cap → (w.cell? ⟨g, off + j, none⟩).isSome = true ∧ w.frozen? ⟨g, off + j, none⟩ = false
  cell : ∀ i z, zs[i]? = some z → w.cell? ⟨g, off + i, none⟩ = some (.int .i64 z)
def QRow (w : World) (base : Nat) (v : Value) (zs : List Int) : Prop := (v = .slice none 0 0 ∧ zs = []) ∨ ∃ g off cap, v = .slice (some ⟨g, off, none⟩) zs.length cap ∧ QAt w base g off cap zs
theorem QRow.nil (w : World) (base : Nat) : QRow w base (.slice none 0 0) [] := .inl ⟨rfl, rfl⟩
theorem QAt.frm {w w' : World} {base g off cap : Nat} {zs : List Int} (h : QAt w base g off cap zs) {Z : List Nat} (hf : Frm Z w w') (hz : ∀ k ∈ Z, k < base) : QAt w' base g off cap zs := by
  have hb := hf.block g h.hi (fun hm => by have := hz g hm; have := h.lo; omega)
  have hc : ∀ o, w'.cell? ⟨g, o, none⟩ = w.cell? ⟨g, o, none⟩ := fun o => by unfold World.cell?; simp only; rw [hb]
  have hq : ∀ o, w'.frozen? ⟨g, o, none⟩ = w.frozen? ⟨g, o, none⟩ := fun o => by unfold World.frozen?; simp only; rw [hb]
  exact { h with hi := Nat.lt_of_lt_of_le h.hi hf.size, room := fun j hj => by rw [hc, hq]; exact h.room j hj, cell := fun i z hi => by rw [hc]; exact h.cell i z hi }
theorem QRow.frm {w w' : World} {base : Nat} {v : Value} {zs : List Int} (h : QRow w base v zs) {Z : List Nat} (hf : Frm Z w w') (hz : ∀ k ∈ Z, k < base) : QRow w' base v zs := by
  rcases h with h | ⟨g, off, cap, hv, hq⟩
  · exact .inl h
  · exact .inr ⟨g, off, cap, hv, hq.frm hf hz⟩
theorem QRow.form {w : World} {base : Nat} {v : Value} {zs : List Int} (h : QRow w base v zs) : ∃ a cap, v = .slice a zs.length cap ∧ zs.length ≤ cap ∧ cap ≤ maxLen := by
  rcases h with ⟨rfl, rfl⟩ | ⟨g, off, cap, rfl, hq⟩
  · exact ⟨none, 0, rfl, Nat.le_refl _, Nat.zero_le _⟩
  · exact ⟨_, _, rfl, hq.le, hq.mx⟩
theorem QRow.row {w : World} {base : Nat} {v : Value} {zs : List Int} (h : QRow w base v zs) : RowAt w base v zs := by
  rcases h with ⟨rfl, rfl⟩ | ⟨g, off, cap, rfl, hq⟩
  · exact ⟨none, 0, rfl, Nat.zero_le _, fun h => absurd h (Nat.lt_irrefl _)⟩
  · exact ⟨_, _, rfl, Nat.le_trans hq.le hq.mx, fun _ => ⟨g, off, hq.lo, rfl, fun i hi => hq.cell i _ (by simp [hi])⟩⟩
/-- 'row[1:]' -/
theorem QAt.tail {w : World} {base g off cap : Nat} {z : Int} {zs : List Int} (h : QAt w base g off cap (z :: zs)) : QAt w base g (off + 1) (cap - 1) zs := by
  have hle := h.le
  have hmx := h.mx
  simp at hle
  have hr : ∀ j, j < cap - 1 → (w.cell? ⟨g, off + 1 + j, none⟩).isSome = true ∧ w.frozen? ⟨g, off + 1 + j, none⟩ = false := fun j hj => by
    have := h.room (j + 1) (by omega)
    rwa [show off + (j + 1) = off + 1 + j by omega] at this
  have hc : ∀ i y, zs[i]? = some y → w.cell? ⟨g, off + 1 + i, none⟩ = some (.int .i64 y) := fun i y hi => by
    have := h.cell (i + 1) y (by simpa using hi)
    rwa [show off + (i + 1) = off + 1 + i by omega] at this
  exact { lo := h.lo, hi := h.hi, le := by omega, mx := by omega, room := hr, cell := hc }
theorem QRow.of_own {w : World} {base : Nat} {v : Value} {zs : List Int} {n : Nat} (hn : zs.length = n) (h0 : 0 < n) (h : w.ownsRow base 3 1 v n (zs.map (Value.int .i64))) : QRow w base v zs := by
  subst hn
  obtain ⟨h1, h2⟩ := h
  rcases h2 with ⟨rfl, h2⟩ | ⟨g, cap, cur, hv, hg, hh, hn, hc, hcur, ht⟩
  · omega
  · have hlt := (Array.getElem?_eq_some_iff.1 hh).1
    refine .inr ⟨g, 0, cap, hv, { lo := hg, hi := hlt, le := hn, mx := hc, room := fun j hj => ?_, cell := fun i z hi => ?_ }⟩
    · constructor
      · unfold World.cell?
        simp only
        rw [hh]
        show (cur[0 + j]?).isSome = true
        rw [Array.getElem?_eq_getElem (by omega)]; rfl
      · unfold World.frozen?
        simp only
        rw [hh]; simp
    · have hi' : i < zs.length := (List.getElem?_eq_some_iff.1 hi).1
      unfold World.cell?
      simp only [Nat.zero_add]
      rw [hh]
      show cur[i]? = _
      have h3 : (cur.toList.take (zs.length * 1))[i]? = (zs.map (Value.int .i64))[i]? := by rw [ht]
      rw [List.getElem?_take_of_lt (by omega), List.getElem?_map, hi] at h3
      rw [← Array.getElem?_toList, h3]; rfl

section
variable {P : Program}
theorem wpList_append_q (w : World) {ops : Array Oper} {rest : List Oper} {o : Oper} {a : Act} {Q : Exit → Act → World → Prop} (hgd : o.guard = none) (s x : Operand) (t : TypeId)
    (ho : o.op = .call { callee := .builtin .append, args := #[s, x], argTypes := #[t, t] })
    (hinfo : (P.info? 3).map (fun i => (i.zero, i.size, i.bytes)) = some (some (.int .i64 0), 1, 8)) (ht : P.underlying t = some (.slice 3)) (base : Nat)
    (v : Value) (zs : List Int) (hs : a.eval s = v) (hq : QRow w base v zs) (y : Int) (ad : Addr) (c : Nat) (hx : a.eval x = .slice (some ad) 1 c)
    (hnews : ∀ (j : Nat) u, [Value.int .i64 y][j]? = some u → w.cell? (ad.add j) = some u) (hlen : zs.length ≤ 1000) (hbase : base ≤ w.heap.size)
    (h : ∀ v' w', QRow w' base v' (zs ++ [y]) → (∃ Z, Frm Z w w' ∧ ∀ k ∈ Z, base ≤ k) → wpList P ops Q rest (a.put o.dst v') w') : wpList P ops Q (o :: rest) a w := by
  obtain ⟨i0, hi, hz0, hz1, hz2⟩ := info_parts hinfo
  have grow : ∀ (ao : Option Addr) (cap : Nat), v = .slice ao zs.length cap → (ao = none → zs.length = 0 ∧ cap = 0) → (∀ b, ao = some b → ∀ j u, (zs.map (Value.int .i64))[j]? = some u → w.cell? (b.add j) = some u) → cap < zs.length + 1 → wpList P ops Q (o :: rest) a w := by
    intro ao cap hv hn hold hfull
    refine wpList_append_grows w hgd s x t ho 3 i0 (.int .i64 0) 1 8 ht hi hz0 hz1 hz2 rfl (by decide) ao zs.length cap (zs.map (Value.int .i64)) (hs.trans hv) hn (by simp) hold ad 1 c [.int .i64 y] hx rfl hnews (by simp [Value.oneCell']) hfull (by unfold maxLen; omega) (by omega) fun v' w' h1 h2 => h v' w' ?_ ⟨[], Frm.of_grown h2 (by simp), by simp⟩
    have h3 : w'.ownsRow w.heap.size 3 1 v' (zs.length + 1) ((zs ++ [y]).map (Value.int .i64)) := by simpa using h1
    rcases QRow.of_own (zs := zs ++ [y]) (by simp) (by omega) h3 with h4 | ⟨g, off, cap', e, q⟩
    · exact .inl h4
    · exact .inr ⟨g, off, cap', e, { q with lo := Nat.le_trans hbase q.lo }⟩
  rcases hq with ⟨hv, rfl⟩ | ⟨g, off, cap, hv, hq⟩
  · exact grow none 0 (by simpa using hv) (fun _ => ⟨rfl, rfl⟩) (fun b hb => by cases hb) (by simp)
  · by_cases hroom : zs.length + 1 ≤ cap
    · have hone : ∀ j, j < ([Value.int .i64 y] : List Value).length → j = 0 := fun j hj => by simp at hj; exact hj
      have hrm := hq.room zs.length (by omega)
      refine Go.wpList_append_room1 w hgd s x t t ho 3 (.int .i64 0) 8 ht hinfo g off zs.length cap (hs.trans hv) _ hx 1 [.int .i64 y] (Src.ofSlice w ht ad 1 c _ rfl hnews (by simp [Value.oneCell'])) hroom
        (fun j hj => by rw [hone j hj]; exact hrm.1) (fun j hj => by rw [hone j hj]; exact hrm.2) (h _ _ (.inr ⟨g, off, cap, by simp, ?_⟩) ⟨[g], ?_, by simp; exact hq.lo⟩)
      · refine { lo := hq.lo, hi := Nat.lt_of_lt_of_le hq.hi ((Frm.refl [g] w).set ⟨g, off + zs.length, none⟩ (.int .i64 y) (.inl (by simp))).size, le := by simpa using hroom, mx := hq.mx, room := fun j hj => ⟨?_, ?_⟩, cell := fun i z hi => ?_ }
        · exact World.isSome_setCells g _ _ w _ (hq.room j hj).1
        · rw [World.frozen?_setCells]; exact (hq.room j hj).2
        · by_cases hlt : i < zs.length
          · rw [List.getElem?_append_left hlt] at hi
            rw [World.cell?_setCells_out g _ _ w _ (fun _ _ => .inl (by simp; omega))]
            exact hq.cell i z hi
          · have e : i = zs.length := by have := (List.getElem?_eq_some_iff.1 hi).1; simp at this; omega
            subst e
            have e2 : z = y := by simpa using hi.symm
            subst e2
            have := World.cell?_setCells_in g [.int .i64 z] (off + zs.length) w (fun j hj => by rw [hone j hj]; exact hrm.1) 0 (by simp)
            simpa using this
      · exact (Frm.refl [g] w).set ⟨g, off + zs.length, none⟩ _ (.inl (by simp))
    · refine grow (some ⟨g, off, none⟩) cap hv (fun e => by cases e) (fun b hb j u hu => ?_) (by omega)
      obtain rfl : (⟨g, off, none⟩ : Addr) = b := Option.some.inj hb
      obtain ⟨z, hz, rfl⟩ : ∃ z, zs[j]? = some z ∧ Value.int .i64 z = u := by simpa using hu
      have e : (⟨g, off, none⟩ : Addr).add j = ⟨g, off + j, none⟩ := by
        unfold Addr.add
        split
        · rename_i h0; subst h0; rfl
        · simp
      rw [e]
      exact hq.cell j z hz
end
end Go.Proofs.Ytacogelejffbhaa
