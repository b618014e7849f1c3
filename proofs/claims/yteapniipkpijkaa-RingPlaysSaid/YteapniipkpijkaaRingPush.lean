/- The contract of ring's Push, whatever the room. -/
import Derived.Test.YteapniipkpijkaaRingGrow
namespace Go.Proofs.Yteapniipkpijkaa
open Go.RowKit

theorem Push_nil (x : Int) (w : World) : Calls Try.prog 21 #[.pointer none, .int .i64 x] w fun e w' => e = .returned (.tuple #[]) ∧ w = w' := by
  go_enter Try.func21, Try.ntmps21
  go_wp2
  exact bodyPost_ret (results_none rfl _ _ _) rfl ⟨rfl, rfl⟩

set_option maxHeartbeats 1000000 in
theorem Push_grown {w : World} {b lb f : Nat} {cs xs : List Int} (x : Int) (h : RingAt w b lb cs f xs) (hm : xs.length = cs.length) (lb1 : Nat) (cs1 : List Int) (f1 : Nat) (hcs1 : xs.length < cs1.length)
    (hg : ∀ W, HAt W b [rlist lb cs.length, .int .i64 f, .int .i64 xs.length] 36 → W.heap = w.heap → Calls Try.prog 39 #[.pointer (some ⟨b, 0, none⟩)] W fun e w' => e = .returned (.tuple #[]) ∧ RingAt w' b lb1 cs1 f1 xs ∧ Frm [b] W w') (hlb1 : w.heap.size ≤ lb1) :
    Calls Try.prog 21 #[.pointer (some ⟨b, 0, none⟩), .int .i64 x] w fun e w' => e = .returned (.tuple #[]) ∧
      RingAt w' b lb1 (cs1.set ((f1 + xs.length) % cs1.length) x) f1 (xs ++ [x]) ∧ Frm [b] w w' := by
  have hb := h.box
  have c0 := hb.cell (i := 0) rfl
  have c2 := hb.cell (i := 2) rfl
  have hd : ((xs.length : Int) == (cs.length : Int)) = true := by simp; omega
  have hlen : ∃ a, rlist lb cs.length = .slice a cs.length cs.length := by
    unfold rlist; split
    · rename_i h0; exact ⟨none, by rw [h0]⟩
    · exact ⟨_, rfl⟩
  obtain ⟨a0, ha0⟩ := hlen
  rw [ha0] at c0
  have HB := Lib.hid hb
  have HG := Lib.hid hg
  clear hb h hg hm ha0
  go_enter Try.func21, Try.ntmps21
  go_wp2_with fail
  go_quiet (fail)
  go_wp2_with fail
  refine (HG.out _ (HB.out.drew _) rfl).mono ?_
  rintro e w1 ⟨rfl, h1, hf1⟩
  have hpos : 0 < cs1.length := by omega
  have h2 := h1.big
  have h3 := h1.first
  have hb := h1.box
  rw [rlist_pos hpos] at hb
  have e0 := hb.cell (i := 0) rfl
  have e2 := hb.cell (i := 2) rfl
  have hq : (f1 + xs.length) % cs1.length < cs1.length := Nat.mod_lt _ hpos
  have l1 : ((((f1 + xs.length) % cs1.length : Nat)) : Int) < cs1.length := by omega
  have hr := h1.row hpos
  obtain ⟨y, cx⟩ : ∃ y, w1.cell? ⟨lb1, (f1 + xs.length) % cs1.length, none⟩ = some y := by
    obtain ⟨y, hy⟩ : ∃ y, cs1[(f1 + xs.length) % cs1.length]? = some y := ⟨_, List.getElem?_eq_getElem hq⟩
    exact ⟨_, hr.cell (by rw [List.getElem?_map, hy]; rfl)⟩
  have z1 := hr.frozen ((f1 + xs.length) % cs1.length)
  have hc : ∀ W : World, HAt W b [.slice (some ⟨lb1, 0, none⟩) cs1.length cs1.length, .int .i64 f1, .int .i64 xs.length] 36 →
    Calls Try.prog 40 #[.pointer (some ⟨b, 0, none⟩), .int .i64 xs.length] W fun e w' => e = .returned (.int .i64 ((f1 + xs.length) % cs1.length : Nat)) ∧ ∃ k, w' = W.drewN k :=
    fun W hW => place_any W b lb1 f1 cs1.length xs.length xs.length hW hpos (by omega) (by omega) (by omega)
  have hfin : ∀ W : World, HAt W b [.slice (some ⟨lb1, 0, none⟩) cs1.length cs1.length, .int .i64 f1, .int .i64 (xs.length + 1 : Int)] 36 → HAt W lb1 ((cs1.set ((f1 + xs.length) % cs1.length) x).map (Value.int .i64)) 3 →
      RingAt W b lb1 (cs1.set ((f1 + xs.length) % cs1.length) x) f1 (xs ++ [x]) := fun W a1 a2 =>
    { box := by rw [rlist_pos (by simpa using hpos)]; simpa using a1
      row := fun _ => a2
      ne := h1.ne
      big := by simpa using h2
      first := .inl (by simpa using (by omega : f1 < cs1.length))
      many := by simp; omega
      at_ := push_at x (by omega) hcs1 h1.at_ }
  have hne := h1.ne
  have hx300 : xs.length ≤ 300 := by omega
  have hfw : Frm [b] w w1 := ⟨hf1.os, hf1.tape, hf1.output, hf1.size, hf1.block⟩
  have HC := Lib.hid hc
  have HB1 := Lib.hid hb
  have HR := Lib.hid hr
  have HF := Lib.hid hfin
  have HW := Lib.hid hfw
  clear hc hb h1 hr hfin h2 h3 hf1 HG HB c0 c2 hd hfw
  obtain ⟨q, hqq⟩ : ∃ q, (f1 + xs.length) % cs1.length = q := ⟨_, rfl⟩
  rw [hqq] at hq l1 cx z1 HC HF
  have HQ := Lib.hid hqq
  clear hqq
  go_wp2_with fail
  go_region_with (go_at_call 40; refine (HC.out _ (HB1.out.drew _)).mono ?_; rintro e w' ⟨rfl, kk, rfl⟩)
  all_goals
    generalize hW : World.setCell _ _ _ = W
    have g1 : HAt W b [.slice (some ⟨lb1, 0, none⟩) cs1.length cs1.length, .int .i64 f1, .int .i64 xs.length] 36 := by
      subst hW; exact (HB1.out.drew _).other _ _ (Ne.symm hne)
    have g2 : HAt W lb1 ((cs1.set q x).map (Value.int .i64)) 3 := by
      subst hW; rw [List.map_set]; exact (HR.out.drew _).set _ _
    have g3 : Frm [b] w W := by subst hW; exact (HW.out.drew _).set _ _ (.inr hlb1)
    have d2 := g1.cell (i := 2) rfl
    have z2 := g1.frozen 2
    have G1 := Lib.hid g1
    have G2 := Lib.hid g2
    clear hW g1 g2 HC HB1 HR e0 e2 cx z1
    go_wp2
    go_end0
    exact ⟨rfl, by rw [HQ.out]; exact HF.out _ (G1.out.set 2 _) (G2.out.other _ _ hne), g3.set _ _ (.inl (by simp))⟩

/-- Push puts a thing behind all others; the list lies where it lay, or in a new block -/
theorem Push_any {w : World} {b lb f : Nat} {cs xs : List Int} (x : Int) (h : RingAt w b lb cs f xs) (hs : xs.length ≤ 100) :
    Calls Try.prog 21 #[.pointer (some ⟨b, 0, none⟩), .int .i64 x] w fun e w' => e = .returned (.tuple #[]) ∧
      ∃ lb' cs' f', RingAt w' b lb' cs' f' (xs ++ [x]) ∧ Frm [b, lb] w w' ∧ (lb' = lb ∨ w.heap.size ≤ lb') := by
  by_cases hm : xs.length < cs.length
  · exact (Push_room x h hm).mono fun e w' ⟨h1, h2, h3⟩ => ⟨h1, _, _, _, h2, h3, .inl rfl⟩
  · have he : xs.length = cs.length := by have := h.many; omega
    by_cases h0 : cs.length = 0
    · have hc : cs = [] := List.length_eq_zero_iff.1 h0
      have hx : xs = [] := List.length_eq_zero_iff.1 (by omega)
      subst hc hx
      have hf : f = 0 := by have := h.first; simp at this; exact this
      subst hf
      refine (Push_grown x h he w.heap.size [0] 0 (by simp) (fun W hW hh => ?_) (Nat.le_refl _)).mono fun e w' ⟨h1, h2, h3⟩ => ⟨h1, _, _, _, h2, h3.mono (by simp), .inr (Nat.le_refl _)⟩
      have hR : RingAt W b lb [] 0 [] := { h with box := hW, row := fun hp => absurd hp (by simp) }
      have := grow_none hR
      rw [hh] at this
      exact this
    · refine (Push_grown x h he w.heap.size (growRow xs cs.length cs.length) 0 (by rw [growRow_len xs _ he]; omega) (fun W hW hh => ?_) (Nat.le_refl _)).mono fun e w' ⟨h1, h2, h3⟩ => ⟨h1, _, _, _, h2, h3.mono (by simp), .inr (Nat.le_refl _)⟩
      have hR : RingAt W b lb cs f xs := { h with box := hW, row := fun hp => by unfold HAt; rw [hh]; exact h.row hp }
      have := grow_some hR he (by omega) (by omega)
      rw [hh] at this
      exact this

end Go.Proofs.Yteapniipkpijkaa
