/- What a drain has seen, in plain Lean, and its world: for the law DrainSure. -/
import Derived.Test.YtakhhbemnodahaaDrainWorld
namespace Go.Proofs.Ytakhhbemnodahaa
open Go.RowKit

/-- the drain is under way: it has seen all nodes ahead of its place empty; and, between its two looks, this one, unless more came than its first look told -/
def Sure (s : Nat) (e : Nat → Nat) (seen : Nat → Bool) (D : DR) : Prop :=
  ∃ (a : Nat) (sec : Bool) (out : Int), D = ⟨a, s, false, true, sec, out, false⟩ ∧ a < s ∧ (∀ v, v < a → seen v = true) ∧ (sec = true → ∃ X : Nat, out = X ∧ (seen a = true ∨ X < e a))
/-- it is over, and has seen all nodes empty -/
def Over (s : Nat) (seen : Nat → Bool) (D : DR) : Prop := (∃ out, D = ⟨s, s, false, false, false, out, true⟩) ∧ ∀ v, v < s → seen v = true

section
variable {s : Nat} {e e' x : Nat → Nat} {seen seen' : Nat → Bool} {D : DR}
theorem Sure.start (hs : 1 ≤ s) (e : Nat → Nat) (seen : Nat → Bool) : Sure s e seen (DR.zero.begins 0 s false) := by
  refine ⟨0, false, 0, ?_, by omega, fun v hv => by omega, fun h => by simp at h⟩
  unfold DR.begins DR.zero
  rw [if_neg (by omega)]; rfl
theorem Sure.mono (h : Sure s e seen D) (h1 : ∀ v, v < s → seen v = true → seen' v = true) (h2 : ∀ v, e v ≤ e' v) : Sure s e' seen' D := by
  obtain ⟨a, sec, out, hD, ha, hv, hs⟩ := h
  refine ⟨a, sec, out, hD, ha, fun v hlt => h1 v (by omega) (hv v hlt), fun hsec => ?_⟩
  obtain ⟨X, hX, hor⟩ := hs hsec
  exact ⟨X, hX, hor.imp (h1 a ha) (fun h => Nat.lt_of_lt_of_le h (h2 a))⟩
theorem Sure.at (h : Sure s e seen D) : ∃ a : Nat, D.at_ = (a : Int) ∧ a < s := by
  obtain ⟨a, sec, out, rfl, ha, _⟩ := h
  exact ⟨a, rfl, ha⟩
theorem Sure.step (h : Sure s e seen D) (hle : ∀ v, v < s → x v ≤ e v) (hsn : ∀ v, v < s → e v = x v → seen v = true) (hs : s ≤ 32) {a : Nat} (ha : D.at_ = (a : Int)) :
    ∃ o, D.stepR (e a) = o ∧ ((o = false ∧ Sure s e seen (D.step (x a) (e a))) ∨ (o = true ∧ Over s seen (D.step (x a) (e a)))) := by
  obtain ⟨b, sec, out, rfl, hb, hv, hsec⟩ := h
  obtain rfl : b = a := by have : (b : Int) = (a : Int) := ha
                           omega
  cases sec with
  | false =>
    obtain ⟨h1, h2⟩ := DR.step_first b s false out false (x b) (e b)
    refine ⟨_, h2, .inl ⟨rfl, ?_⟩⟩
    rw [h1]
    refine ⟨b, true, x b, rfl, hb, hv, fun _ => ⟨x b, rfl, ?_⟩⟩
    have := hle b hb
    by_cases hx : e b = x b
    · exact .inl (hsn b hb hx)
    · exact .inr (by omega)
  | true =>
    obtain ⟨X, rfl, hor⟩ := hsec rfl
    by_cases hvx : ((e b : Nat) : Int) = X
    · have hsb : seen b = true := hor.elim id (fun h => by omega)
      have hall : ∀ v, v < b + 1 → seen v = true := fun v hlt => by
        by_cases hvb : v = b
        · rw [hvb]; exact hsb
        · exact hv v (by omega)
      rw [hvx]
      by_cases he : b + 1 = s
      · obtain ⟨h1, h2⟩ := DR.step_end (a := b) (s := s) (vo := (x b : Int)) (out := (X : Int)) (c := false) (by omega) he
        refine ⟨_, h2, .inr ⟨rfl, ?_⟩⟩
        rw [h1]
        exact ⟨⟨_, rfl⟩, fun v hlt => hall v (by omega)⟩
      · obtain ⟨h1, h2⟩ := DR.step_on (a := b) (s := s) (vo := (x b : Int)) (out := (X : Int)) (c := false) (by omega) he
        refine ⟨_, h2, .inl ⟨rfl, ?_⟩⟩
        rw [h1]
        exact ⟨b + 1, false, X, rfl, by omega, hall, fun h => by simp at h⟩
    · obtain ⟨h1, h2⟩ := DR.step_ne b s X false (vo := (x b : Int)) (vi := ((e b : Nat) : Int)) hvx
      refine ⟨_, h2, .inl ⟨rfl, ?_⟩⟩
      rw [h1]
      exact ⟨b, false, X, rfl, hb, hv, fun h => by simp at h⟩
end

/-- the counts that the law keeps, and what it has seen -/
def insN (s : Nat) (e x : Nat → Nat) : List Value := (List.range s).map fun j => Value.int .i64 ((e j : Int) - x j)
def seenC (s : Nat) (seen : Nat → Bool) : List Value := (List.range s).map fun j => Value.bool (seen j)
theorem insN_get (s : Nat) (e x : Nat → Nat) {j : Nat} (hj : j < s) : (insN s e x)[j]? = some (.int .i64 ((e j : Int) - x j)) := by simp [insN, hj]
theorem seenC_get (s : Nat) (seen : Nat → Bool) {j : Nat} (hj : j < s) : (seenC s seen)[j]? = some (.bool (seen j)) := by simp [seenC, hj]
theorem insN_up (s : Nat) (e x : Nat → Nat) (k : Nat) : (insN s e x).set k (.int .i64 ((e k : Int) - x k + 1)) = insN s (upN e k) x := by
  apply List.ext_getElem?
  intro j
  rw [List.getElem?_set]
  by_cases h : k = j
  · subst h
    by_cases h8 : k < s
    · simp [insN, upN, h8]; omega
    · simp [insN, h8]
  · rw [if_neg h]
    have hjk : ¬ j = k := fun e => h e.symm
    by_cases h8 : j < s
    · simp [insN, upN, h8, hjk]
    · simp [insN, h8]
theorem insN_down (s : Nat) (e x : Nat → Nat) (k : Nat) : (insN s e x).set k (.int .i64 ((e k : Int) - x k - 1)) = insN s e (upN x k) := by
  apply List.ext_getElem?
  intro j
  rw [List.getElem?_set]
  by_cases h : k = j
  · subst h
    by_cases h8 : k < s
    · simp [insN, upN, h8]; omega
    · simp [insN, h8]
  · rw [if_neg h]
    have hjk : ¬ j = k := fun e => h e.symm
    by_cases h8 : j < s
    · simp [insN, upN, h8, hjk]
    · simp [insN, h8]
/-- what is seen when the first j nodes are looked at -/
def seenJ (seen : Nat → Bool) (e x : Nat → Nat) (j : Nat) : Nat → Bool := fun v => if v < j then (seen v || decide (e v = x v)) else seen v
theorem seenJ_zero (seen : Nat → Bool) (e x : Nat → Nat) : seenJ seen e x 0 = seen := by funext v; unfold seenJ; rw [if_neg (by omega)]
theorem seenJ_at (seen : Nat → Bool) (e x : Nat → Nat) (j : Nat) : seenJ seen e x j j = seen j := by unfold seenJ; rw [if_neg (by omega)]
theorem seenC_next (s : Nat) (seen : Nat → Bool) (e x : Nat → Nat) (j : Nat) : (seenC s (seenJ seen e x j)).set j (.bool (seen j || decide (e j = x j))) = seenC s (seenJ seen e x (j + 1)) := by
  apply List.ext_getElem?
  intro i
  rw [List.getElem?_set]
  by_cases h : j = i
  · subst h
    by_cases h8 : j < s
    · simp [seenC, seenJ, h8]
    · simp [seenC, h8]
  · rw [if_neg h]
    by_cases h8 : i < s
    · simp only [seenC, List.getElem?_map, List.getElem?_range h8, Option.map_some]
      congr 2
      unfold seenJ
      by_cases h9 : i < j
      · rw [if_pos h9, if_pos (by omega)]
      · rw [if_neg h9, if_neg (by omega)]
    · simp [seenC, h8]
theorem seenJ_mono (seen : Nat → Bool) (e x : Nat → Nat) (j v : Nat) (h : seen v = true) : seenJ seen e x j v = true := by unfold seenJ; split <;> simp [h]
theorem seenJ_all {seen : Nat → Bool} {e x : Nat → Nat} {s v : Nat} (hv : v < s) (h : e v = x v) : seenJ seen e x s v = true := by unfold seenJ; rw [if_pos hv]; simp [h]

theorem boolInfo : (Try.prog.info? 4).map (fun i => (i.zero, i.size, i.bytes)) = some (some (.bool false), 1, 1) := by kernel_rfl
theorem intInfo' : (Try.prog.info? 3).map (fun i => (i.zero, i.size, i.bytes)) = some (some (.int .i64 0), 1, 8) := by kernel_rfl
theorem mkInts (n : Nat) (hn : n ≤ 1000000) (W : World) : (Instr.makeSlice 41 (.int .i64 n) (.int .i64 n)).run Try.prog W = .ok (.slice (some ⟨W.heap.size, 0, none⟩) n n) (W.alloc (.cells (insN n (fun _ => 0) (fun _ => 0)).toArray 3)) := by
  obtain ⟨i0, hi, hz0, hz1, hz2⟩ := info_parts intInfo'
  rw [run_make W 41 3 i0 (.int .i64 0) Try.underlying41 hi hz0 .i64 .i64 n n (by omega) (by omega) (by rw [hz2]; omega) (by omega)]
  have e : madeCells (Value.int .i64 0).cells (((n : Int).toNat) * i0.size) = (insN n (fun _ => 0) (fun _ => 0)).toArray := by
    apply Array.ext'
    rw [hz1]
    show (madeCells #[Value.int .i64 0] _).toList = _
    rw [toList_madeCells_one]
    simp only [insN]
    apply List.ext_getElem?
    intro i
    by_cases h : i < n
    · simp [h]
    · simp [h]
  rw [e]
  simp
theorem mkBools (n : Nat) (hn : n ≤ 1000000) (W : World) : (Instr.makeSlice 75 (.int .i64 n) (.int .i64 n)).run Try.prog W = .ok (.slice (some ⟨W.heap.size, 0, none⟩) n n) (W.alloc (.cells (seenC n (fun _ => false)).toArray 4)) := by
  obtain ⟨i0, hi, hz0, hz1, hz2⟩ := info_parts boolInfo
  rw [run_make W 75 4 i0 (.bool false) Try.underlying75 hi hz0 .i64 .i64 n n (by omega) (by omega) (by rw [hz2]; omega) (by omega)]
  have e : madeCells (Value.bool false).cells (((n : Int).toNat) * i0.size) = (seenC n (fun _ => false)).toArray := by
    apply Array.ext'
    rw [hz1]
    show (madeCells #[Value.bool false] _).toList = _
    rw [toList_madeCells_one]
    simp only [seenC]
    apply List.ext_getElem?
    intro i
    by_cases h : i < n
    · simp [h]
    · simp [h]
  rw [e]
  simp

structure DSI (w0 w : World) (wb ab gb db ib sb s : Nat) (A : AR) (e x : Nat → Nat) (n : Nat) (D : DR) (seen : Nat → Bool) : Prop where
  dw : DWI w0 w wb ab gb db s A e x n D
  hin : HAt w ib (insN s e x) 3
  hsn : HAt w sb (seenC s seen) 4
  le : ∀ v, v < s → x v ≤ e v
  q1 : db < ib
  q2 : db < sb
  q3 : ib ≠ sb

section
variable {w0 w w1 : World} {wb ab gb db ib sb s n m : Nat} {A B : AR} {e e' x x' : Nat → Nat} {D D' : DR} {seen seen' : Nat → Bool}
theorem DSI.moved (h : DSI w0 w wb ab gb db ib sb s A e x n D seen) (hf : Frm [db, ab, wb] w w1) : HAt w1 ib (insN s e x) 3 ∧ HAt w1 sb (seenC s seen) 4 := by
  have := h.q1; have := h.q2; have := h.dw.o0; have := h.dw.o1; have := h.dw.o2; have := h.dw.o3
  exact ⟨h.hin.frm hf (by simp; omega), h.hsn.frm hf (by simp; omega)⟩
theorem DSI.look (h : DSI w0 w wb ab gb db ib sb s A e x n D seen) {k : Nat} {v : Value} (hs : (seenC s seen).set k v = seenC s seen') : DSI w0 (w.setCell ⟨sb, k, none⟩ v) wb ab gb db ib sb s A e x n D seen' := by
  have hf : Frm [sb] w (w.setCell ⟨sb, k, none⟩ v) := (Frm.refl _ _).set ⟨sb, k, none⟩ _ (.inl (by simp))
  have := h.q1; have := h.q2; have := h.q3; have := h.dw.o0; have := h.dw.o1; have := h.dw.o2; have := h.dw.o3
  have hb := h.hsn.set k v
  rw [hs] at hb
  exact { h with hsn := hb, hin := h.hin.frm hf (by simp; omega), dw := { h.dw with ar := h.dw.ar.frm hf (by simp; omega) (by simp; omega), gg := h.dw.gg.frm hf (by simp; omega), dr := h.dw.dr.frm hf (by simp; omega), frm := h.dw.frm.widen hf (by simp; omega) } }
theorem DSI.put (hd : DWI w0 w wb ab gb db s A e' x' n D) (hin : HAt w ib (insN s e x) 3) (hsn : HAt w sb (seenC s seen) 4) (q1 : db < ib) (q2 : db < sb) (q3 : ib ≠ sb) (le : ∀ v, v < s → x' v ≤ e' v) {k : Nat} {v : Value}
    (hs : (insN s e x).set k v = insN s e' x') : DSI w0 (w.setCell ⟨ib, k, none⟩ v) wb ab gb db ib sb s A e' x' n D seen := by
  have hf : Frm [ib] w (w.setCell ⟨ib, k, none⟩ v) := (Frm.refl _ _).set ⟨ib, k, none⟩ _ (.inl (by simp))
  have := hd.o0; have := hd.o1; have := hd.o2; have := hd.o3
  have hb := hin.set k v
  rw [hs] at hb
  exact { hin := hb, hsn := hsn.frm hf (by simp; omega), le := le, q1 := q1, q2 := q2, q3 := q3, dw := { hd with ar := hd.ar.frm hf (by simp; omega) (by simp; omega), gg := hd.gg.frm hf (by simp; omega), dr := hd.dr.frm hf (by simp; omega), frm := hd.frm.widen hf (by simp; omega) } }

theorem DWI.enterF (h : DWI w0 w wb ab gb db s A e x n D) (hn : n ≤ 1000) {k : Nat} (hk : k < s) : Calls Try.prog 19 #[.pointer (some ⟨gb, 0, none⟩), .int .i64 k] w fun r w' => r = .returned (.tuple #[]) ∧ ∃ B, DWI w0 w' wb ab gb db s B (upN e k) x (n + 1) D ∧ Frm [db, ab, wb] w w' := by
  have := h.o0; have := h.o1; have := h.o2; have := h.o3
  refine (gEnter_any h.gg h.ar k).mono fun r w' ⟨h1, h2, h3⟩ => ⟨h1, _, { h with ar := h2, gg := h.gg.frm h3 (by simp; omega), dr := h.dr.frm h3 (by simp; omega), cnt := h.cnt.enter hn hk, frm := h.frm.widen h3 (by simp; omega) }, h3.mono (by simp)⟩
theorem DWI.exitF (h : DWI w0 w wb ab gb db s A e x n D) (hn : n ≤ 1000) {k : Nat} (hk : k < s) : Calls Try.prog 21 #[.pointer (some ⟨gb, 0, none⟩), .int .i64 k] w fun r w' => r = .returned (.tuple #[]) ∧ ∃ B, DWI w0 w' wb ab gb db s B e (upN x k) (n + 1) D ∧ Frm [db, ab, wb] w w' := by
  have := h.o0; have := h.o1; have := h.o2; have := h.o3
  refine (gExit_any h.gg h.ar k).mono fun r w' ⟨h1, h2, h3⟩ => ⟨h1, _, { h with ar := h2, gg := h.gg.frm h3 (by simp; omega), dr := h.dr.frm h3 (by simp; omega), cnt := h.cnt.exit hn hk, frm := h.frm.widen h3 (by simp; omega) }, h3.mono (by simp)⟩
theorem DWI.stepF (h : DWI w0 w wb ab gb db s A e x n D) {a : Nat} (ha : D.at_ = (a : Int)) (hlt : a < s) : Calls Try.prog 44 #[.pointer (some ⟨db, 0, none⟩)] w fun r w' => r = .returned (.bool (D.stepR (e a))) ∧ ∃ B, DWI w0 w' wb ab gb db s B e x n (D.step (x a) (e a)) ∧ Frm [db, ab, wb] w w' := by
  have := h.o0; have := h.o1; have := h.o2; have := h.o3
  obtain ⟨g1, g2⟩ := h.cnt.get hlt
  have hs := dStep_any h.dr h.gg h.ar (by omega)
  rw [ha, g1, g2] at hs
  refine hs.mono fun r w' ⟨h1, h2, h3, h4, h5⟩ => ⟨h1, _, { h with ar := h3, gg := h4, dr := h2, cnt := ?_, frm := h.frm.widen h5 (by simp; omega) }, h5⟩
  unfold AR.dStep
  split
  · exact h.cnt.load _ _ _ _
  · exact h.cnt
theorem DSI.kept (h : DSI w0 w wb ab gb db ib sb s A e x n D seen) (hf : Frm [] w w1) : DSI w0 w1 wb ab gb db ib sb s A e x n D seen :=
  { h with dw := h.dw.kept hf, hin := h.hin.frm hf (by simp), hsn := h.hsn.frm hf (by simp) }
theorem DSI.born (h : DWI w0 w wb ab gb db s A (fun _ => 0) (fun _ => 0) n D) (hlt : db < w.heap.size) :
    DSI w0 ((w.alloc (.cells (insN s (fun _ => 0) fun _ => 0).toArray 3)).alloc (.cells (seenC s fun _ => false).toArray 4)).drew wb ab gb db w.heap.size (w.heap.size + 1) s A (fun _ => 0) (fun _ => 0) n D (fun _ => false) := by
  have h1 := (HAt.new w (insN s (fun _ => 0) fun _ => 0).toArray 3).alloc (.cells (seenC s fun _ => false).toArray 4)
  have h2 := HAt.new (w.alloc (.cells (insN s (fun _ => 0) fun _ => 0).toArray 3)) (seenC s fun _ => false).toArray 4
  rw [World.size_alloc] at h2
  have hf : Frm [] w ((w.alloc (.cells (insN s (fun _ => 0) fun _ => 0).toArray 3)).alloc (.cells (seenC s fun _ => false).toArray 4)).drew := (((Frm.refl _ _).alloc _).alloc _).drew1
  exact { dw := h.kept hf, hin := by simpa using h1.drew1, hsn := by simpa using h2.drew1, le := fun _ _ => Nat.le_refl _, q1 := hlt, q2 := by omega, q3 := by omega }
theorem DSI.born' (h : DWI w0 w wb ab gb db s A (fun _ => 0) (fun _ => 0) n D) (hlt : db < w.heap.size) :
    DSI w0 ((w.alloc (.cells (seenC s fun _ => false).toArray 4)).alloc (.cells (insN s (fun _ => 0) fun _ => 0).toArray 3)).drew wb ab gb db (w.heap.size + 1) w.heap.size s A (fun _ => 0) (fun _ => 0) n D (fun _ => false) := by
  have h1 := (HAt.new w (seenC s fun _ => false).toArray 4).alloc (.cells (insN s (fun _ => 0) fun _ => 0).toArray 3)
  have h2 := HAt.new (w.alloc (.cells (seenC s fun _ => false).toArray 4)) (insN s (fun _ => 0) fun _ => 0).toArray 3
  rw [World.size_alloc] at h2
  have hf : Frm [] w ((w.alloc (.cells (seenC s fun _ => false).toArray 4)).alloc (.cells (insN s (fun _ => 0) fun _ => 0).toArray 3)).drew := (((Frm.refl _ _).alloc _).alloc _).drew1
  exact { dw := h.kept hf, hin := by simpa using h2.drew1, hsn := by simpa using h1.drew1, le := fun _ _ => Nat.le_refl _, q1 := by omega, q2 := hlt, q3 := by omega }
end

end Go.Proofs.Ytakhhbemnodahaa
