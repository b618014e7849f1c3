/- The contracts of the reference's arena: the same words, in a list that grows. -/
import Derived.Test.YtacogelejffbhaaArenaTake
import Derived.Test.YtacogelejffbhaaArenaWords
namespace Go.Proofs.Ytacogelejffbhaa
open Go.RowKit

theorem AR.words_len {A : AR} (h : A.taken ≤ A.ws.length) : A.words.length = A.taken := by unfold AR.words; simp; omega

/-- the reference's arena in block rb, its words in slice v; past what is taken all is 0 -/
structure RfAt (w : World) (rb : Nat) (v : Value) (A : AR) : Prop where
  box : HAt w rb [.int .i64 A.ws.length, v, .int .i64 A.ops, .int .i64 A.k, .int .i64 A.at_, .bool A.wr] 55
  row : Own w (rb + 1) v A.words
  room : A.ws.length ≤ 4096
  le : A.taken ≤ A.ws.length
  clean : ∀ i, A.taken ≤ i → i < A.ws.length → A.ws[i]? = some 0

theorem RfAt.frm {w w' : World} {rb : Nat} {v : Value} {A : AR} (h : RfAt w rb v A) {S : List Nat} (hf : Frm S w w') (hs : ∀ k ∈ S, k < rb) : RfAt w' rb v A :=
  { h with box := h.box.frm hf (fun hm => by have := hs _ hm; omega), row := h.row.frm hf (fun k hk => by have := hs _ hk; omega) }

/-- the block of the words -/
def vb (v : Value) : List Nat := v.ownBlock.toList

theorem RfAt.frm' {w w' : World} {rb : Nat} {v : Value} {A : AR} (h : RfAt w rb v A) {S : List Nat} (hf : Frm S w w') (h1 : rb ∉ S) (h2 : ∀ k, v.ownBlock = some k → k ∉ S) : RfAt w' rb v A := by
  refine { h with box := h.box.frm hf h1, row := ?_ }
  obtain ⟨r1, r2⟩ := h.row
  refine ⟨r1, ?_⟩
  rcases r2 with r2 | ⟨g, cap, cur, rfl, hg, hh, r⟩
  · exact .inl r2
  · refine .inr ⟨g, cap, cur, rfl, hg, ?_, r⟩
    rw [hf.block g (Array.getElem?_eq_some_iff.1 hh).1 (h2 g rfl)]
    exact hh

theorem RfAt.slice {w : World} {rb : Nat} {v : Value} {A : AR} (h : RfAt w rb v A) : ∃ a cap, v = .slice a A.taken cap := by
  have hl := AR.words_len h.le
  obtain ⟨_, r2⟩ := h.row
  rw [hl] at r2
  rcases r2 with ⟨rfl, h0⟩ | ⟨g, cap, cur, rfl, _⟩
  · exact ⟨none, 0, by rw [h0]⟩
  · exact ⟨_, cap, rfl⟩

theorem AR.words_get {A : AR} (i : Int) (hi : A.has i = true) : A.words[i.toNat - 1]? = A.ws[i.toNat - 1]? := by
  have h1 : 1 ≤ i ∧ i ≤ (A.taken : Int) := by unfold AR.has at hi; simpa using hi
  unfold AR.words
  rw [List.getElem?_take_of_lt (by omega)]

theorem RfAt.cells {w : World} {rb : Nat} {v : Value} {A : AR} (h : RfAt w rb v A) (i : Int) (hi : A.has i = true) :
    ∃ g cap cur, v = .slice (some ⟨g, 0, none⟩) A.taken cap ∧ rb + 1 ≤ g ∧ w.heap[g]? = some (.cells cur 3 (0, 0)) ∧ cur[i.toNat - 1]? = some (.int .i64 (A.get i)) := by
  have h1 : 1 ≤ i ∧ i ≤ (A.taken : Int) := by unfold AR.has at hi; simpa using hi
  have hl := AR.words_len h.le
  have hle := h.le
  obtain ⟨_, r2⟩ := h.row
  rw [hl] at r2
  rcases r2 with ⟨_, h0⟩ | ⟨g, cap, cur, rfl, hg, hh, hn, hc, hcur, ht⟩
  · omega
  · refine ⟨g, cap, cur, rfl, hg, hh, ?_⟩
    have hlt : i.toNat - 1 < A.ws.length := by omega
    have h3 : (cur.toList.take (A.taken * 1))[i.toNat - 1]? = (A.words.map (Value.int .i64))[i.toNat - 1]? := by rw [ht]
    rw [List.getElem?_take_of_lt (by omega), List.getElem?_map, AR.words_get i hi, List.getElem?_eq_getElem hlt] at h3
    rw [← Array.getElem?_toList, h3]
    unfold AR.get
    rw [hi, List.getElem?_eq_getElem hlt]
    rfl

theorem Own.put {w : World} {base g cap : Nat} {zs : List Int} {n : Nat} (h : Own w base (.slice (some ⟨g, 0, none⟩) n cap) zs) (j : Nat) (x : Int) : Own (w.setCell ⟨g, j, none⟩ (.int .i64 x)) base (.slice (some ⟨g, 0, none⟩) n cap) (zs.set j x) := by
  obtain ⟨h1, h2⟩ := h
  rcases h2 with ⟨h2, h3⟩ | ⟨g', cap', cur, hv, hg, hh, hn, hc, hcur, ht⟩
  · simp at h2
  · simp only [Value.slice.injEq, Option.some.injEq, Addr.mk.injEq] at hv
    obtain ⟨⟨rfl, -, -⟩, rfl, rfl⟩ := hv
    refine ⟨by simp, .inr ⟨g, cap, cur.setIfInBounds j (.int .i64 x), by simp, hg, ?_, by simpa using hn, hc, by simpa using hcur, ?_⟩⟩
    · unfold World.setCell
      rw [Array.getElem?_modify]
      simp only [if_true]
      rw [hh]
      simp
    · rw [List.length_set, Array.toList_setIfInBounds, List.map_set, ← ht, List.take_set]

theorem AR.put_words {A : AR} (i v : Int) : (A.put i v).words = A.words.set (i.toNat - 1) v := by
  unfold AR.put AR.words
  simp only [List.take_set]

/-- a word laid down in the reference's arena -/
theorem RfAt.put {w : World} {rb g cap n : Nat} {A : AR} (h : RfAt w rb (.slice (some ⟨g, 0, none⟩) n cap) A) (i x : Int) (hi : A.has i = true) (hg : rb + 1 ≤ g) : RfAt (w.setCell ⟨g, i.toNat - 1, none⟩ (.int .i64 x)) rb (.slice (some ⟨g, 0, none⟩) n cap) (A.put i x) := by
  have h1 : 1 ≤ i ∧ i ≤ (A.taken : Int) := by unfold AR.has at hi; simpa using hi
  have hl := AR.words_len h.le
  have hb := h.box.other ⟨g, i.toNat - 1, none⟩ (.int .i64 x) (by show rb ≠ g; omega)
  refine { box := ?_, row := ?_, room := ?_, le := ?_, clean := ?_ }
  · unfold AR.put; rw [List.length_set]; exact hb
  · rw [AR.put_words]; exact h.row.put _ x
  · unfold AR.put; rw [List.length_set]; exact h.room
  · unfold AR.put; rw [List.length_set]; exact h.le
  · intro j h2 h3
    unfold AR.put at h2 h3 ⊢
    simp only [List.length_set] at h3
    simp only at h2
    rw [List.getElem?_set_ne (by omega)]
    exact h.clean j h2 h3

/-- the reference's 'op' notes what the arena notes -/
theorem RfAt.note {w : World} {rb : Nat} {v : Value} {A : AR} (h : RfAt w rb v A) (k i : Int) (wr : Bool) (W : World) (hb : HAt W rb [.int .i64 A.ws.length, v, .int .i64 (wrap64 (A.ops + 1)), .int .i64 k, .int .i64 i, .bool wr] 55) (hr : Own W (rb + 1) v A.words) : RfAt W rb v (A.note k i wr) :=
  { box := hb, row := hr, room := h.room, le := h.le, clean := h.clean }

theorem op_no {w : World} {rb : Nat} {v : Value} {A : AR} (h : RfAt w rb v A) (k i x : Int) (wr : Bool) (hi : A.has i = false) :
    Calls Try.prog 58 #[.pointer (some ⟨rb, 0, none⟩), .int .i64 k, .int .i64 i, .int .i64 x, .bool wr] w fun e w' => e = .returned (.tuple #[.int .i64 0, .bool false]) ∧ w = w' := by
  have h1 : ¬ (1 ≤ i ∧ i ≤ (A.taken : Int)) := by unfold AR.has at hi; simpa using hi
  obtain ⟨a, cap, rfl⟩ := h.slice
  have c1 := h.box.cell (i := 1) rfl
  clear h hi
  by_cases hlt : i < 1
  · go_enter Try.func58, Try.ntmps58
    go_wp2
    go_ret2
    exact ⟨rfl, rfl⟩
  · have d1 : decide (i < 1) = false := by simp; omega
    have d2 : decide ((A.taken : Int) < i) = true := by simp; omega
    clear h1
    go_enter Try.func58, Try.ntmps58
    go_wp2
    go_ret2
    exact ⟨rfl, rfl⟩

/-- the state behind a noted op -/
def AR.noted (A : AR) (k i x : Int) (wr : Bool) : AR := if wr then (A.note k i true).put i x else A.note k i false

set_option maxHeartbeats 1000000 in
theorem op_yes {w : World} {rb : Nat} {v : Value} {A : AR} (h : RfAt w rb v A) (k i x : Int) (wr : Bool) (hi : A.has i = true) :
    Calls Try.prog 58 #[.pointer (some ⟨rb, 0, none⟩), .int .i64 k, .int .i64 i, .int .i64 x, .bool wr] w fun e w' => e = .returned (.tuple #[.int .i64 (A.get i), .bool true]) ∧ RfAt w' rb v (A.noted k i x wr) ∧ Frm (rb :: vb v) w w' := by
  have h1 : 1 ≤ i ∧ i ≤ (A.taken : Int) := by unfold AR.has at hi; simpa using hi
  obtain ⟨g, cap, cur, rfl, hg, hh, hcur⟩ := h.cells i hi
  have hle := h.le
  have hroom := h.room
  have c1 := h.box.cell (i := 1) rfl
  have c2 := h.box.cell (i := 2) rfl
  have c3 := h.box.cell (i := 3) rfl
  have c4 := h.box.cell (i := 4) rfl
  have c5 := h.box.cell (i := 5) rfl
  have z2 := h.box.frozen 2
  have z3 := h.box.frozen 3
  have z4 := h.box.frozen 4
  have z5 := h.box.frozen 5
  have cg : w.cell? ⟨g, i.toNat - 1, none⟩ = some (.int .i64 (A.get i)) := by unfold World.cell?; rw [hh]; simpa using hcur
  have zg : w.frozen? ⟨g, i.toNat - 1, none⟩ = false := by unfold World.frozen?; rw [hh]; simp
  have hne : (g = rb) = False := by simp; omega
  have hne' : (rb = g) = False := by simp; omega
  obtain ⟨n, rfl⟩ : ∃ n : Nat, i = (n : Int) + 1 := ⟨i.toNat - 1, by omega⟩
  have e1 : ((n : Int) + 1).toNat - 1 = n := by omega
  rw [e1] at cg zg
  have d1 : decide ((n : Int) + 1 < 1) = false := by simp; omega
  have d2 : decide ((A.taken : Int) < (n : Int) + 1) = false := by simp; omega
  have l1 : (n : Int) < A.taken := by omega
  have H := Lib.hid h
  have HI := Lib.hid hi
  have HE := Lib.hid e1
  have HG := Lib.hid hg
  clear h hi hh hcur e1
  cases wr with
  | false =>
    go_enter Try.func58, Try.ntmps58
    go_wp2
    go_ret2
    refine ⟨rfl, ?_, ?_⟩
    · exact H.out.note k _ false _ ((((H.out.box.set 2 _).set 3 _).set 4 _).set 5 _) (ownsRow_setCell_below (ownsRow_setCell_below (ownsRow_setCell_below (ownsRow_setCell_below H.out.row (by simp) _) (by simp) _) (by simp) _) (by simp) _)
    · exact ((((Frm.refl _ _).set _ _ (.inl (by simp))).set _ _ (.inl (by simp))).set _ _ (.inl (by simp))).set _ _ (.inl (by simp))
  | true =>
    go_enter Try.func58, Try.ntmps58
    go_wp2
    go_ret2
    refine ⟨rfl, ?_, ?_⟩
    · have hn := H.out.note k ((n : Int) + 1) true _ ((((H.out.box.set 2 _).set 3 _).set 4 _).set 5 _) (ownsRow_setCell_below (ownsRow_setCell_below (ownsRow_setCell_below (ownsRow_setCell_below H.out.row (by simp) _) (by simp) _) (by simp) _) (by simp) _)
      have hp := hn.put ((n : Int) + 1) x HI.out HG.out
      rw [HE.out] at hp
      exact hp
    · exact (((((Frm.refl _ _).set _ _ (.inl (by simp))).set _ _ (.inl (by simp))).set _ _ (.inl (by simp))).set _ _ (.inl (by simp))).set _ _ (.inl (by simp [vb, Value.ownBlock]))

end Go.Proofs.Ytacogelejffbhaa
