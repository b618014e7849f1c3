/- How a slice of acts is opened, a struct of two ints each: plain lemmas over any program. -/
import Derived.Deep.Slices
import Derived.Deep.Fields
import Derived.ChangeSame
import Derived.Test.YteijjhahgabalaaGreatQ04
namespace Go.Proofs.YteijjhahgabalaaGreat
open Go.ChangeShapes Go.WideShapes Go.RowKit Go.Deep

/-- a slice of acts reads as a list of pairs -/
def ActsAt (w : World) (v : Value) (acts : List (Int × Int)) : Prop :=
  ∃ a cap, v = .slice a acts.length cap ∧ acts.length ≤ maxLen ∧
    (0 < acts.length → ∃ b off, a = some ⟨b, off, none⟩ ∧ b < w.heap.size ∧ ∀ i x, acts[i]? = some x → w.cell? ⟨b, off + i * 2, none⟩ = some (.int .i64 x.1) ∧ w.cell? ⟨b, off + i * 2 + 1, none⟩ = some (.int .i64 x.2)) ∧
    ∀ x ∈ acts, I64 x.1 ∧ I64 x.2

section
variable {H : Type} {enc : TypeId × Value → H} {P : Program} {w : World} {base : Nat} {held : Bool} {t : TypeId} {v : Value} {r : Reach}

theorem open_acts {e : TypeId} {f0 f1 : Field} {b0 : Nat} {d : DataW H} {p : List MemPlace} (ht : P.underlying t = some (.slice e)) (he : P.underlying e = some (.struct #[f0, f1]))
    (hone : oneCellFields P #[f0, f1] = true) (hC : P.cellsOf e = 2) (h0 : P.underlying f0.type = some (.int .i64)) (h1 : P.underlying f1.type = some (.int .i64))
    (hv : Value.okWide P w r b0 t v) (h : DataW.Trod enc P w base (fun _ => true) held t v d p) : ∃ acts, ActsAt w v acts := by
  obtain ⟨a, len, cap, rfl⟩ := okWide_slice ht hv
  obtain ⟨fuel, hf⟩ := h
  rcases open_slice ht hf with ⟨hcs, _⟩ | ⟨x, l, c, m, n, D, Pl, hcs, _, hl, hm, hmm, _, hx⟩
  · simp [Value.cells] at hcs
    obtain ⟨rfl, rfl, rfl⟩ := hcs
    exact ⟨[], none, 0, rfl, Nat.zero_le _, fun h => absurd h (Nat.lt_irrefl _), by simp⟩
  · simp [Value.cells] at hcs
    obtain ⟨rfl, rfl, rfl⟩ := hcs
    have hmc : m = cap := by simpa using hmm
    have key : ∀ i, i < len → ∃ z : Int × Int, (w.cell? (x.add (i * 2)) = some (Value.int .i64 z.1) ∧ w.cell? ((x.add (i * 2)).add 1) = some (Value.int .i64 z.2)) ∧ I64 z.1 ∧ I64 z.2 := by
      intro i hi
      obtain ⟨cs', hc, ht'⟩ := hx i (by omega)
      rw [hC] at hc
      obtain ⟨ys, n', hn', hy, hlen, hyl, hff⟩ := DataW.trod_struct he ht'
      obtain ⟨_, hcl, hat⟩ := World.cells?_some hc
      have c0 := hat (i := 0) (by omega)
      have c1 := hat (i := 1) (by omega)
      have g0 := hff 0 f0 rfl
      have g1 := hff 1 f1 rfl
      obtain ⟨o0, k0⟩ := hone_of hone 0 f0 rfl
      obtain ⟨o1, k1⟩ := hone_of hone 1 f1 rfl
      rw [o0, k0, take1_drop cs' 0 undef (by omega)] at g0
      rw [o1, k1, take1_drop cs' 1 undef (by omega)] at g1
      have y0 : ys[0]? = some (ys[0]'(by rw [hyl]; simp)) := List.getElem?_eq_getElem _
      have y1 : ys[1]? = some (ys[1]'(by rw [hyl]; simp)) := List.getElem?_eq_getElem _
      obtain ⟨z0, hz0, _, hw0⟩ := DataW.trod_int h0 (g0.trans y0)
      obtain ⟨z1, hz1, _, hw1⟩ := DataW.trod_int h1 (g1.trans y1)
      refine ⟨(z0, z1), ⟨?_, ?_⟩, i64_of_wf hw0, i64_of_wf hw1⟩
      · have e0 : (x.add (i * 2)).add 0 = x.add (i * 2) := by unfold Addr.add; simp
        rw [e0] at c0
        rw [c0]
        have : cs'.getD 0 undef = .int .i64 z0 := by simpa using hz0
        rw [← this]
        simp [List.getD, List.getElem?_eq_getElem (show 0 < cs'.length by omega)]
      · rw [c1]
        have : cs'.getD 1 undef = .int .i64 z1 := by simpa using hz1
        rw [← this]
        simp [List.getD, List.getElem?_eq_getElem (show 1 < cs'.length by omega)]
    obtain ⟨f, hfz⟩ := choose_lt key
    refine ⟨(List.range len).map f, some x, cap, by simp, by simp; omega, ?_, ?_⟩
    · intro h0
      have h0' : 0 < len := by simpa using h0
      have hs : x.spot = none := by
        have := cell_spot (hfz 0 h0').1.1
        simpa [Addr.add] using this
      have hlt := cell_lt (hfz 0 h0').1.1
      rw [add_block] at hlt
      refine ⟨x.block, x.off, by cases x; simp_all, hlt, fun i z hz => ?_⟩
      have hi' : i < len := by
        have := (List.getElem?_eq_some_iff.1 hz).1
        simpa using this
      have hzf : f i = z := by
        rw [List.getElem?_map, List.getElem?_range hi'] at hz
        exact Option.some.inj hz
      subst hzf
      obtain ⟨⟨a1, a2⟩, _⟩ := hfz i hi'
      have e : ∀ k, x.add k = ⟨x.block, x.off + k, none⟩ := by
        intro k
        unfold Addr.add
        split
        · rename_i h; subst h; cases x; simp_all
        · rfl
      rw [e] at a1 a2
      refine ⟨a1, ?_⟩
      have e2 : (⟨x.block, x.off + i * 2, none⟩ : Addr).add 1 = ⟨x.block, x.off + i * 2 + 1, none⟩ := by unfold Addr.add; simp
      rw [e2] at a2
      exact a2
    · intro z hz
      obtain ⟨i, hi, rfl⟩ := List.mem_map.1 hz
      exact (hfz i (List.mem_range.1 hi)).2
end
end Go.Proofs.YteijjhahgabalaaGreat
