/- Why things come out of a bench as they were put, in plain Lean: for the law BenchFifo. -/
import Derived.Test.YtacogelejffbhaaBenchRow
namespace Go.Proofs.Ytacogelejffbhaa
open Go.RowKit

theorem ar_store_get {A : AR} {i : Int} (v j : Int) (hi : A.has i = true) (hl : A.taken ≤ A.ws.length) : (A.store i v).get j = if j = i then v else A.get j := by
  have hc : A.store i v = (A.note 2 i true).put i v := by unfold AR.store; rw [hi, if_pos rfl]
  have hh : 1 ≤ i ∧ i ≤ (A.taken : Int) := by unfold AR.has at hi; simpa using hi
  rw [hc]
  show (if A.has j then (A.ws.set (i.toNat - 1) v)[j.toNat - 1]?.getD 0 else 0) = _
  by_cases hj : j = i
  · subst hj
    rw [hi, if_pos rfl, if_pos rfl, List.getElem?_set, if_pos rfl, if_pos (by omega)]; rfl
  · rw [if_neg hj]
    unfold AR.get
    cases hk : A.has j with
    | false => rfl
    | true =>
      have hh2 : 1 ≤ j ∧ j ≤ (A.taken : Int) := by unfold AR.has at hk; simpa using hk
      rw [if_pos rfl, if_pos rfl, List.getElem?_set, if_neg (by omega)]
theorem ar_store_len (A : AR) (i v : Int) : (A.store i v).taken = A.taken ∧ (A.store i v).ws.length = A.ws.length := by
  unfold AR.store
  split
  · exact ⟨rfl, by unfold AR.put AR.note; simp⟩
  · exact ⟨rfl, rfl⟩
theorem ar_load_get (A : AR) (i j : Int) : (A.load i).get j = A.get j ∧ (A.load i).taken = A.taken ∧ (A.load i).ws = A.ws := by
  unfold AR.load
  split
  · exact ⟨rfl, rfl, rfl⟩
  · exact ⟨rfl, rfl, rfl⟩

theorem thru_put (f : Nat) (A : AR) (k n0 got : Int) : bThru f 8 1 A ⟨1, k, n0, got⟩ =
    (4, (if ((A.store (bLink f k) 0).get (f + 1)) = 0 then ((A.store (bLink f k) 0).load (f + 1)).store f k else ((A.store (bLink f k) 0).load (f + 1)).store (bLink f ((A.store (bLink f k) 0).get (f + 1))) k).store (f + 1) k, ⟨0, k, (A.store (bLink f k) 0).get (f + 1), got⟩) := by
  simp [bThru, bStepR, bStepB, bStepA]
theorem thru_take0 (f : Nat) (A : AR) (x n got : Int) (h : A.get f = 0) : bThru f 8 1 A ⟨5, x, n, got⟩ = (1, A.load f, ⟨0, 0, n, 0⟩) := by
  simp [bThru, bStepR, bStepB, bStepA, h]
theorem thru_take1 (f : Nat) (A : AR) (x n got z : Int) (h : A.get f = z) (hz : ¬ z = 0) {m : Int} (hm : (A.load f).get (bLink f z) = m) (h0 : ¬ m = 0) :
    bThru f 8 1 A ⟨5, x, n, got⟩ = (3, ((A.load f).load (bLink f z)).store f m, ⟨0, z, m, z⟩) := by
  subst h hm
  simp [bThru, bStepR, bStepB, bStepA, hz, h0]
theorem thru_take2 (f : Nat) (A : AR) (x n got z : Int) (h : A.get f = z) (hz : ¬ z = 0) (hm : (A.load f).get (bLink f z) = 0) :
    bThru f 8 1 A ⟨5, x, n, got⟩ = (4, (((A.load f).load (bLink f z)).store f 0).store (f + 1) 0, ⟨0, z, 0, z⟩) := by
  subst h
  simp [bThru, bStepR, bStepB, bStepA, hz, hm]

/-- the words are a chain of links in the order of q -/
structure BInv (A : AR) (q : List Int) : Prop where
  taken : A.taken = 14
  len : A.ws.length = 20
  mem : ∀ x, x ∈ q → 1 ≤ x ∧ x ≤ 12
  nd : ∀ (i j : Nat) (x : Int), q[i]? = some x → q[j]? = some x → i = j
  head : A.get 1 = q[0]?.getD 0
  last : A.get 2 = q[q.length - 1]?.getD 0
  link : ∀ (i : Nat) (x : Int), q[i]? = some x → A.get (2 + x) = q[i + 1]?.getD 0
theorem BInv.has {A : AR} {q : List Int} (h : BInv A q) {i : Int} (h1 : 1 ≤ i) (h2 : i ≤ 14) : A.has i = true := by unfold AR.has; rw [h.taken]; simp; omega
theorem bLink_eq {x : Int} (h1 : 1 ≤ x) (h2 : x ≤ 12) : bLink 1 x = 2 + x := by unfold bLink wrap64; omega
theorem has_of {A : AR} (ht : A.taken = 14) {i : Int} (h1 : 1 ≤ i) (h2 : i ≤ 14) : A.has i = true := by unfold AR.has; rw [ht]; simp; omega

theorem BInv.put {A : AR} {q : List Int} (h : BInv A q) {k : Int} (h1 : 1 ≤ k) (h2 : k ≤ 12) (hk : k ∉ q) (n0 got : Int) :
    ∃ A' n', bThru 1 8 1 A ⟨1, k, n0, got⟩ = (4, A', ⟨0, k, n', got⟩) ∧ BInv A' (q ++ [k]) := by
  have ht := h.taken
  have hl := h.len
  rw [thru_put, bLink_eq h1 h2]
  refine ⟨_, _, rfl, ?_⟩
  have g1 : ∀ j, (A.store (2 + k) 0).get j = if j = 2 + k then 0 else A.get j := fun j => ar_store_get 0 j (has_of ht (by omega) (by omega)) (by omega)
  obtain ⟨t1, l1⟩ := ar_store_len A (2 + k) 0
  have hn : (A.store (2 + k) 0).get (((1 : Nat) : Int) + 1) = q[q.length - 1]?.getD 0 := by rw [g1, if_neg (by omega)]; exact h.last
  rw [hn]
  have g2 : ∀ j, ((A.store (2 + k) 0).load (((1 : Nat) : Int) + 1)).get j = if j = 2 + k then 0 else A.get j := fun j => (ar_load_get _ _ j).1.trans (g1 j)
  have t2 : ((A.store (2 + k) 0).load (((1 : Nat) : Int) + 1)).taken = 14 := (ar_load_get _ _ 0).2.1.trans (t1.trans ht)
  have l2 : ((A.store (2 + k) 0).load (((1 : Nat) : Int) + 1)).ws.length = 20 := by rw [(ar_load_get _ _ 0).2.2, l1, hl]
  generalize (A.store (2 + k) 0).load (((1 : Nat) : Int) + 1) = A2 at *
  have e1 : (((1 : Nat) : Int) + 1) = 2 := rfl
  have e0 : ((1 : Nat) : Int) = 1 := rfl
  rw [e1, e0]
  -- the last thing
  have mid : ∃ at_ : Int, (at_ = if q[q.length - 1]?.getD 0 = 0 then 1 else 2 + q[q.length - 1]?.getD 0) ∧ 1 ≤ at_ ∧ at_ ≤ 14 ∧ at_ ≠ 2 ∧ at_ ≠ 2 + k ∧
      (if q[q.length - 1]?.getD 0 = 0 then A2.store 1 k else A2.store (bLink 1 (q[q.length - 1]?.getD 0)) k) = A2.store at_ k := by
    by_cases hq : q = []
    · subst hq; exact ⟨1, by simp, by omega, by omega, by omega, by omega, by simp⟩
    · have hpos : 0 < q.length := List.length_pos_iff.2 hq
      have hx : q[q.length - 1]? = some q[q.length - 1] := List.getElem?_eq_getElem (by omega)
      have hmem : q[q.length - 1] ∈ q := List.getElem_mem _
      have hb := h.mem _ hmem
      have hne : q[q.length - 1] ≠ k := fun e => hk (e ▸ hmem)
      rw [hx]
      simp only [Option.getD_some]
      generalize q[q.length - 1] = y at *
      exact ⟨2 + y, by rw [if_neg (by omega)], by omega, by omega, by omega, by omega, by rw [if_neg (by omega), bLink_eq (by omega) (by omega)]⟩
  obtain ⟨at_, ha, ha1, ha2, ha3, ha4, hmid⟩ := mid
  rw [hmid]
  have g3 : ∀ j, (A2.store at_ k).get j = if j = at_ then k else if j = 2 + k then 0 else A.get j := fun j => by rw [ar_store_get k j (has_of t2 ha1 ha2) (by omega), g2]
  obtain ⟨t3, l3⟩ := ar_store_len A2 at_ k
  have g4 : ∀ j, ((A2.store at_ k).store 2 k).get j = if j = 2 then k else if j = at_ then k else if j = 2 + k then 0 else A.get j := fun j => by rw [ar_store_get k j (has_of (t3.trans t2) (by omega) (by omega)) (by omega), g3]
  obtain ⟨t4, l4⟩ := ar_store_len (A2.store at_ k) 2 k
  generalize (A2.store at_ k).store 2 k = A4 at *
  refine { taken := by omega, len := by omega, mem := ?_, nd := ?_, head := ?_, last := ?_, link := ?_ }
  · intro x hx
    rcases List.mem_append.1 hx with hx | hx
    · exact h.mem x hx
    · simp at hx; omega
  · intro i j x hi hj
    by_cases hil : i < q.length
    · rw [List.getElem?_append_left hil] at hi
      by_cases hjl : j < q.length
      · rw [List.getElem?_append_left hjl] at hj; exact h.nd i j x hi hj
      · have : x = k := by
          have hjl2 := (List.getElem?_eq_some_iff.1 hj).1
          simp at hjl2
          obtain rfl : j = q.length := by omega
          simpa using hj.symm
        subst this
        exact absurd (List.mem_of_getElem? hi) hk
    · have hil2 := (List.getElem?_eq_some_iff.1 hi).1
      simp at hil2
      obtain rfl : i = q.length := by omega
      have hxk : x = k := by simpa using hi.symm
      subst hxk
      by_cases hjl : j < q.length
      · rw [List.getElem?_append_left hjl] at hj; exact absurd (List.mem_of_getElem? hj) hk
      · have hjl2 := (List.getElem?_eq_some_iff.1 hj).1
        simp at hjl2; omega
  · rw [g4, if_neg (by omega)]
    by_cases hq : q = []
    · subst hq; simp at ha; rw [if_pos (by omega)]; rfl
    · have hpos : 0 < q.length := List.length_pos_iff.2 hq
      have hx : q[q.length - 1]? = some q[q.length - 1] := List.getElem?_eq_getElem (by omega)
      have hb := h.mem _ (List.getElem_mem (show q.length - 1 < q.length by omega))
      rw [hx] at ha
      simp only [Option.getD_some] at ha
      rw [if_neg (by omega)] at ha
      rw [if_neg (by omega), if_neg (by omega), h.head, List.getElem?_append_left hpos]
  · rw [g4, if_pos rfl]; simp
  · intro i x hi
    by_cases hil : i < q.length
    · rw [List.getElem?_append_left hil] at hi
      have hx := h.mem x (List.mem_of_getElem? hi)
      have hxk : x ≠ k := fun e => hk (e ▸ List.mem_of_getElem? hi)
      have hlast : q[q.length - 1]? = some q[q.length - 1] := List.getElem?_eq_getElem (by omega)
      have hb := h.mem _ (List.getElem_mem (show q.length - 1 < q.length by omega))
      rw [hlast] at ha
      simp only [Option.getD_some] at ha
      rw [if_neg (by omega)] at ha
      rw [g4, if_neg (by omega)]
      by_cases hil2 : i + 1 < q.length
      · have hne : ¬ (2 + x = at_) := by
          intro e
          have e2 : x = q[q.length - 1] := by omega
          have := h.nd i (q.length - 1) x hi (by rw [hlast, e2])
          omega
        rw [if_neg hne, if_neg (by omega), h.link i x hi, List.getElem?_append_left hil2]
      · have ei : i = q.length - 1 := by omega
        subst ei
        have e2 : q[q.length - 1] = x := by rw [hlast] at hi; exact Option.some.inj hi
        rw [if_pos (by omega)]
        rw [show q.length - 1 + 1 = q.length by omega]; simp
    · have hil2 := (List.getElem?_eq_some_iff.1 hi).1
      simp at hil2
      obtain rfl : i = q.length := by omega
      have hxk : x = k := by simpa using hi.symm
      subst hxk
      rw [g4, if_neg (by omega), if_neg (fun e => ha4 e.symm), if_pos rfl]
      simp

theorem BInv.take0 {A : AR} (h : BInv A []) (x n got : Int) : ∃ A' n', bThru 1 8 1 A ⟨5, x, n, got⟩ = (1, A', ⟨0, 0, n', 0⟩) ∧ BInv A' [] := by
  have h1 : A.get ((1 : Nat) : Int) = 0 := h.head
  refine ⟨_, _, thru_take0 1 A x n got h1, ?_⟩
  have g := ar_load_get A ((1 : Nat) : Int)
  exact { taken := (g 0).2.1.trans h.taken, len := by rw [(g 0).2.2]; exact h.len, mem := h.mem, nd := h.nd, head := (g 1).1.trans h.head, last := (g 2).1.trans h.last, link := fun i x hi => by simp at hi }
theorem BInv.take {A : AR} {z : Int} {q : List Int} (h : BInv A (z :: q)) (x n got : Int) : ∃ (r : Nat) (A' : AR) (n' : Int), bThru 1 8 1 A ⟨5, x, n, got⟩ = ((r : Int), A', ⟨0, z, n', z⟩) ∧ BInv A' q := by
  have hz := h.mem z (by simp)
  have ht := h.taken
  have hl := h.len
  have h1 : A.get ((1 : Nat) : Int) = z := h.head
  have g1 := ar_load_get A ((1 : Nat) : Int)
  have hm : (A.load ((1 : Nat) : Int)).get (bLink 1 z) = q[0]?.getD 0 := by rw [(g1 _).1, bLink_eq hz.1 hz.2]; exact h.link 0 z rfl
  have g2 := ar_load_get (A.load ((1 : Nat) : Int)) (bLink 1 z)
  have gg : ∀ j, ((A.load ((1 : Nat) : Int)).load (bLink 1 z)).get j = A.get j := fun j => (g2 j).1.trans (g1 j).1
  have tt : ((A.load ((1 : Nat) : Int)).load (bLink 1 z)).taken = 14 := (g2 0).2.1.trans ((g1 0).2.1.trans ht)
  have ll : ((A.load ((1 : Nat) : Int)).load (bLink 1 z)).ws.length = 20 := by rw [(g2 0).2.2, (g1 0).2.2, hl]
  have hmem : ∀ y, y ∈ q → 1 ≤ y ∧ y ≤ 12 := fun y hy => h.mem y (by simp [hy])
  have hnd : ∀ (i j : Nat) (y : Int), q[i]? = some y → q[j]? = some y → i = j := fun i j y hi hj => by have := h.nd (i + 1) (j + 1) y (by simpa using hi) (by simpa using hj); omega
  have hlk : ∀ (i : Nat) (y : Int), q[i]? = some y → A.get (2 + y) = q[i + 1]?.getD 0 := fun i y hi => by simpa using h.link (i + 1) y (by simpa using hi)
  cases q with
  | nil =>
    refine ⟨4, _, _, thru_take2 1 A x n got z h1 (by omega) (by simpa using hm), ?_⟩
    generalize (A.load ((1 : Nat) : Int)).load (bLink 1 z) = A2 at *
    have e1 : (((1 : Nat) : Int) + 1) = 2 := rfl
    have e0 : ((1 : Nat) : Int) = 1 := rfl
    rw [e1, e0]
    have s1 := fun j => ar_store_get (A := A2) (i := 1) 0 j (has_of tt (by omega) (by omega)) (by omega)
    obtain ⟨t3, l3⟩ := ar_store_len A2 1 0
    have s2 := fun j => ar_store_get (A := A2.store 1 0) (i := 2) 0 j (has_of (t3.trans tt) (by omega) (by omega)) (by omega)
    obtain ⟨t4, l4⟩ := ar_store_len (A2.store 1 0) 2 0
    exact { taken := by omega, len := by omega, mem := hmem, nd := hnd, head := by rw [s2, if_neg (by omega), s1, if_pos rfl]; rfl, last := by rw [s2, if_pos rfl]; rfl, link := fun i y hi => by simp at hi }
  | cons m q =>
    have hmm := hmem m (by simp)
    refine ⟨3, _, _, thru_take1 1 A x n got z h1 (by omega) (m := m) (by simpa using hm) (by omega), ?_⟩
    generalize (A.load ((1 : Nat) : Int)).load (bLink 1 z) = A2 at *
    have e0 : ((1 : Nat) : Int) = 1 := rfl
    rw [e0]
    have s1 := fun j => ar_store_get (A := A2) (i := 1) m j (has_of tt (by omega) (by omega)) (by omega)
    obtain ⟨t3, l3⟩ := ar_store_len A2 1 m
    refine { taken := by omega, len := by omega, mem := hmem, nd := hnd, head := by rw [s1, if_pos rfl]; rfl, last := ?_, link := fun i y hi => ?_ }
    · rw [s1, if_neg (by omega), gg, h.last]
      simp
    · have := hmem y (List.mem_of_getElem? hi)
      rw [s1, if_neg (by omega), gg]; exact hlk i y hi
end Go.Proofs.Ytacogelejffbhaa
