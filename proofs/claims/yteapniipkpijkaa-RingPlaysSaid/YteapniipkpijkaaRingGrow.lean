/- The contracts of ring's grow and of its Push where the list must grow. -/
import Derived.Test.YteapniipkpijkaaRingWalks
namespace Go.Proofs.Yteapniipkpijkaa
open Go.RowKit

/-- the new list after k rounds -/
def growRow (xs : List Int) (n k : Nat) : List Int := xs.take k ++ List.replicate (2 * n + 1 - k) 0
theorem growRow_step (xs : List Int) (n k : Nat) (hk : k < xs.length) (hn : xs.length = n) : (growRow xs n k).set k (xs[k]?.getD 0) = growRow xs n (k + 1) := by
  unfold growRow
  have e : 2 * n + 1 - k = (2 * n + 1 - (k + 1)) + 1 := by omega
  rw [e, List.replicate_succ, List.set_append_right _ _ (by simp; omega)]
  have e2 : k - (xs.take k).length = 0 := by simp; omega
  have e3 : xs[k]?.getD 0 = xs[k] := by simp [hk]
  rw [e2, List.set_cons_zero, List.take_succ_eq_append_getElem hk, e3]
  simp only [List.append_assoc, List.cons_append, List.nil_append]
theorem growRow_get (xs : List Int) (n k : Nat) (hk : k < xs.length) (hn : xs.length = n) : (growRow xs n k)[k]? = some 0 := by
  unfold growRow
  rw [List.getElem?_append_right (by simp; omega)]
  have e2 : k - (xs.take k).length = 0 := by simp; omega
  rw [e2]
  have e : 2 * n + 1 - k = (2 * n + 1 - (k + 1)) + 1 := by omega
  rw [e, List.replicate_succ]
  rfl

theorem growRow_len (xs : List Int) (n : Nat) (hn : xs.length = n) : (growRow xs n n).length = 2 * n + 1 := by
  unfold growRow; simp; omega
theorem growRow_at (xs : List Int) (n : Nat) (hn : xs.length = n) : ∀ i (h : i < xs.length), (growRow xs n n)[(0 + i) % (growRow xs n n).length]? = some xs[i] := by
  intro i hi
  rw [growRow_len xs n hn, Nat.zero_add, Nat.mod_eq_of_lt (by omega)]
  unfold growRow
  rw [List.take_of_length_le (by omega), List.getElem?_append_left hi, List.getElem?_eq_getElem hi]

set_option maxHeartbeats 1000000 in
theorem grow_some {w : World} {b lb f : Nat} {cs xs : List Int} (h : RingAt w b lb cs f xs) (hfull : xs.length = cs.length) (hpos : 0 < cs.length) (hsm : cs.length ≤ 100) :
    Calls Try.prog 39 #[.pointer (some ⟨b, 0, none⟩)] w fun e w' => e = .returned (.tuple #[]) ∧
      RingAt w' b w.heap.size (growRow xs cs.length cs.length) 0 xs ∧ Frm [b] w w' := by
  have hb := h.box
  rw [rlist_pos hpos] at hb
  have hr := h.row hpos
  have hblt := hb.lt
  have hlblt := hr.lt
  have hf := h.first
  have hat := h.at_
  have c0 := hb.cell (i := 0) rfl
  have c2 := hb.cell (i := 2) rfl
  have hmk := mkInts (2 * cs.length + 1) (by omega)
  have ek : (((2 * cs.length + 1 : Nat)) : Int) = 2 * (cs.length : Int) + 1 := by omega
  rw [ek] at hmk
  have HB := Lib.hid hb
  have HR := Lib.hid hr
  have HF := Lib.hid hfull
  have HA := Lib.hid hat
  rw [hfull] at c2
  clear hb hr ek hfull hat
  have hne := h.ne
  clear h
  go_enter Try.func39, Try.ntmps39
  go_wp2_with fail
  go_loopw [16] (fun i wr => ∃ k : Nat, i = .int .i64 k ∧ k ≤ cs.length ∧ HAt wr w.heap.size ((growRow xs cs.length k).map (Value.int .i64)) 3 ∧ HAt wr b [.slice (some ⟨lb, 0, none⟩) cs.length cs.length, .int .i64 f, .int .i64 xs.length] 36 ∧ HAt wr lb (cs.map (Value.int .i64)) 3 ∧ Frm [] w wr)
    (fun i _ => cs.length - (intOf i).toNat)
  case atStart =>
    refine ⟨0, rfl, Nat.zero_le _, ?_, HB.out.alloc _, HR.out.alloc _, (Frm.refl _ _).alloc _⟩
    have := HAt.new w (zeros (2 * cs.length + 1)) 3
    rw [toList_zeros] at this
    simpa [growRow] using this
  case round =>
    obtain ⟨k, rfl, hk, g0, g1, g2, g3⟩ := hrel
    have d0 := g1.cell (i := 0) rfl
    have d1 := g1.cell (i := 1) rfl
    have z1 := g1.frozen 0
    have z2 := g1.frozen 1
    have G0 := Lib.hid g0
    have G1 := Lib.hid g1
    have G2 := Lib.hid g2
    have G3 := Lib.hid g3
    clear g0 g1 g2 g3 c0 c2
    by_cases hlt : k < cs.length
    · have hq : (f + k) % cs.length < cs.length := Nat.mod_lt _ hpos
      have l1 : ((((f + k) % cs.length : Nat)) : Int) < cs.length := by omega
      have hx : k < xs.length := by rw [HF.out]; exact hlt
      have cx : wr.cell? ⟨lb, (f + k) % cs.length, none⟩ = some (.int .i64 (xs[k]?.getD 0)) := G2.out.cell (by rw [List.getElem?_map, HA.out k hx]; simp [hx])
      have cn : wr.cell? ⟨w.heap.size, k, none⟩ = some (.int .i64 0) := G0.out.cell (by rw [List.getElem?_map, growRow_get xs cs.length k hx HF.out]; rfl)
      have zn := G0.out.frozen k
      have l2 : (k : Int) < 2 * (cs.length : Int) + 1 := by omega
      have hc : ∀ W : World, HAt W b [.slice (some ⟨lb, 0, none⟩) cs.length cs.length, .int .i64 f, .int .i64 xs.length] 36 →
        Calls Try.prog 40 #[.pointer (some ⟨b, 0, none⟩), .int .i64 k] W fun e w' => e = .returned (.int .i64 ((f + k) % cs.length : Nat)) ∧ ∃ k, w' = W.drewN k :=
        fun W hW => place_any W b lb f cs.length xs.length k hW hpos (by omega) (by omega) (by omega)
      have HC := Lib.hid hc
      have HX := Lib.hid hx
      clear hc hx
      generalize (f + k) % cs.length = q at *
      generalize hy : xs[k]?.getD 0 = y at *
      have HY := Lib.hid hy
      clear hy
      go_wp2_with fail
      go_region_with (go_at_call 40; refine (HC.out _ (G1.out.drew _)).mono ?_; rintro e w' ⟨rfl, kk, rfl⟩)
      all_goals
        generalize hW : World.setCell _ _ _ = W
        have a0 : HAt W w.heap.size ((growRow xs cs.length (k + 1)).map (Value.int .i64)) 3 := by
          subst hW; rw [← growRow_step xs cs.length k HX.out HF.out, HY.out, List.map_set]; exact (G0.out.drew _).set _ _
        have a1 : HAt W b [.slice (some ⟨lb, 0, none⟩) cs.length cs.length, .int .i64 f, .int .i64 xs.length] 36 := by
          subst hW; exact (G1.out.drew _).other _ _ (by simp; omega)
        have a2 : HAt W lb (cs.map (Value.int .i64)) 3 := by
          subst hW; exact (G2.out.drew _).other _ _ (by simp; omega)
        have a3 : Frm [] w W := by subst hW; exact (G3.out.drew _).set _ _ (.inr (Nat.le_refl _))
        have A0 := Lib.hid a0
        have A1 := Lib.hid a1
        have A2 := Lib.hid a2
        have A3 := Lib.hid a3
        clear a0 a1 a2 a3 hW cx cn zn d0 d1 z1 z2
        go_wp2
        go_roundw
        case rel => exact ⟨k + 1, by go_num, by omega, A0.out, A1.out, A2.out, A3.out⟩
        case measure => simp [intOf]; omega
    · have hke : k = cs.length := by omega
      have HK := Lib.hid hke
      clear hke
      go_wp2
      go_end0
      refine ⟨rfl, ?_, ?_⟩
      · rw [HK.out] at G0
        have hl := growRow_len xs cs.length HF.out
        refine { box := ?_, row := fun _ => ?_, ne := by omega, big := by omega, first := .inl (by omega), many := by have := HF.out; omega, at_ := growRow_at xs cs.length HF.out }
        · rw [hl, rlist_pos (by omega)]
          exact (G1.out.set 0 _).set 1 _
        · exact (G0.out.other _ _ (by simp; omega)).other _ _ (by simp; omega)
      · exact ((G3.out.mono (by simp)).set _ _ (.inl (by simp))).set _ _ (.inl (by simp))

theorem grow_none {w : World} {b lb : Nat} (h : RingAt w b lb [] 0 []) :
    Calls Try.prog 39 #[.pointer (some ⟨b, 0, none⟩)] w fun e w' => e = .returned (.tuple #[]) ∧
      RingAt w' b w.heap.size [0] 0 [] ∧ Frm [b] w w' := by
  have hb := h.box
  have hblt := hb.lt
  have c0 := hb.cell (i := 0) rfl
  have c2 := hb.cell (i := 2) rfl
  have z0 := hb.frozen 0
  have z1 := hb.frozen 1
  have hmk : ∀ W : World, (Instr.makeSlice 34 (.int .i64 1) (.int .i64 1)).run Try.prog W = .ok (.slice (some ⟨W.heap.size, 0, none⟩) 1 1) (W.alloc (.cells (zeros 1) 3)) := fun W => mkInts 1 (by omega) W
  rw [show rlist lb ([] : List Int).length = .slice none 0 0 from rfl] at c0
  have HB := Lib.hid hb
  clear hb h
  go_enter Try.func39, Try.ntmps39
  go_wp2_with fail
  generalize hW : World.alloc _ _ = W
  have g1 : HAt W b [rlist lb 0, .int .i64 0, .int .i64 0] 36 := by subst hW; exact HB.out.alloc _
  have d1 := g1.cell (i := 0) rfl
  have d2 := g1.cell (i := 1) rfl
  have y1 := g1.frozen 0
  have y2 := g1.frozen 1
  have hnew : HAt W w.heap.size ([0].map (Value.int .i64)) 3 := by subst hW; exact HAt.new w (zeros 1) 3
  have hfr : Frm [b] w W := by subst hW; exact (Frm.refl [b] w).alloc _
  have G1 := Lib.hid g1
  have G2 := Lib.hid hnew
  have G3 := Lib.hid hfr
  clear g1 hnew hW hfr HB c0 c2 z0 z1 hmk
  refine wp_loop_once ?_
  go_wp2
  go_end0
  refine ⟨rfl, ?_, (G3.out.set _ _ (.inl (List.mem_singleton.2 rfl))).set _ _ (.inl (List.mem_singleton.2 rfl))⟩
  refine { box := (G1.out.set 0 _).set 1 _, row := fun _ => (G2.out.other _ _ ?_).other _ _ ?_, ne := by omega, big := by simp, first := .inl (by simp), many := by simp, at_ := fun i hi => absurd hi (by simp) }
  · show w.heap.size ≠ b; omega
  · show w.heap.size ≠ b; omega

end Go.Proofs.Yteapniipkpijkaa
