/- The contracts of ring's Pop and Cut. -/
import Derived.Test.YteapniipkpijkaaRingPush
import Derived.RegionTactic
namespace Go.Proofs.Yteapniipkpijkaa
open Go.RowKit

theorem Pop_nil (w : World) : Calls Try.prog 22 #[.pointer none] w fun e w' => e = .returned (.tuple #[.int .i64 0, .bool false]) ∧ w = w' := by
  go_enter Try.func22, Try.ntmps22
  go_wp2_with fail
  refine (At_nil _ _).mono ?_
  rintro e w' ⟨rfl, rfl⟩
  go_wp2
  go_ret2
  exact ⟨rfl, rfl⟩

theorem Pop_empty {w : World} {b lb f : Nat} {cs : List Int} (h : RingAt w b lb cs f []) :
    Calls Try.prog 22 #[.pointer (some ⟨b, 0, none⟩)] w fun e w' => e = .returned (.tuple #[.int .i64 0, .bool false]) ∧ w = w' := by
  have H := Lib.hid (At_no 0 h (.inr (by simp)))
  clear h
  go_enter Try.func22, Try.ntmps22
  go_wp2_with fail
  refine H.out.mono ?_
  rintro e w' ⟨rfl, rfl⟩
  go_wp2
  go_ret2
  exact ⟨rfl, rfl⟩

theorem pop_at {cs rest : List Int} {x : Int} {f : Nat} (hf : f < cs.length) (hm : rest.length + 1 ≤ cs.length) (h : ∀ i (h : i < (x :: rest).length), cs[(f + i) % cs.length]? = some (x :: rest)[i]) :
    ∀ i (_ : i < rest.length), (cs.set f 0)[((f + 1) % cs.length + i) % (cs.set f 0).length]? = some rest[i] := by
  intro i hi
  rw [List.length_set]
  have h1 := h (i + 1) (by simpa using hi)
  have e : ((f + 1) % cs.length + i) % cs.length = (f + (i + 1)) % cs.length := by
    rw [Nat.mod_add_mod]; congr 1; omega
  have hne : f ≠ (f + (i + 1)) % cs.length := by
    rw [mod2 (by omega)]; split <;> omega
  rw [e, List.getElem?_set_ne hne, h1]
  rfl

set_option maxHeartbeats 1000000 in
theorem Pop_cons {w : World} {b lb f : Nat} {cs rest : List Int} {x : Int} (h : RingAt w b lb cs f (x :: rest)) :
    Calls Try.prog 22 #[.pointer (some ⟨b, 0, none⟩)] w fun e w' => e = .returned (.tuple #[.int .i64 x, .bool true]) ∧
      RingAt w' b lb (cs.set f 0) ((f + 1) % cs.length) rest ∧ Frm [b, lb] w w' := by
  have h1 := h.big
  have h2 := h.many
  have h3 := h.first
  simp only [List.length_cons] at h2
  have hpos : 0 < cs.length := by omega
  have hfl : f < cs.length := by omega
  have hb := h.box
  rw [rlist_pos hpos] at hb
  simp only [List.length_cons] at hb
  have hr := h.row hpos
  have hne := h.ne
  have c0 := hb.cell (i := 0) rfl
  have c1 := hb.cell (i := 1) rfl
  obtain ⟨y, cx⟩ : ∃ y, w.cell? ⟨lb, f, none⟩ = some y := by
    obtain ⟨y, hy⟩ : ∃ y, cs[f]? = some y := ⟨_, List.getElem?_eq_getElem hfl⟩
    exact ⟨_, hr.cell (by rw [List.getElem?_map, hy]; rfl)⟩
  have z1 := hr.frozen f
  have l1 : (f : Int) < cs.length := by omega
  have hat := At_yes 0 h (by simp)
  simp only [List.getElem?_cons_zero, Option.getD_some] at hat
  have hfin : ∀ W : World, HAt W b [.slice (some ⟨lb, 0, none⟩) cs.length cs.length, .int .i64 (((f : Int) + 1) % (cs.length : Int)), .int .i64 (rest.length : Int)] 36 → HAt W lb ((cs.set f 0).map (Value.int .i64)) 3 →
      RingAt W b lb (cs.set f 0) ((f + 1) % cs.length) rest := fun W a1 a2 =>
    { box := by rw [rlist_pos (by simpa using hpos)]; simpa using a1
      row := fun _ => a2
      ne := hne
      big := by simpa using h1
      first := .inl (by rw [List.length_set]; exact Nat.mod_lt _ hpos)
      many := by rw [List.length_set]; omega
      at_ := pop_at hfl h2 h.at_ }
  have hrl : rest.length ≤ 300 := by omega
  have HB := Lib.hid hb
  have HR := Lib.hid hr
  have HF := Lib.hid hfin
  have HT := Lib.hid hat
  clear hb hr hfin hat h h3
  go_enter Try.func22, Try.ntmps22
  go_wp2_with fail
  refine HT.out.mono ?_
  rintro e w' ⟨rfl, k0, rfl⟩
  go_wp2_with fail
  go_region
  all_goals
    generalize hW : World.setCell _ _ _ = W
    have g1 : HAt W b [.slice (some ⟨lb, 0, none⟩) cs.length cs.length, .int .i64 f, .int .i64 (rest.length + 1 : Nat)] 36 := by
      subst hW; exact (HB.out.drew _).other _ _ (Ne.symm hne)
    have g2 : HAt W lb ((cs.set f 0).map (Value.int .i64)) 3 := by
      subst hW; rw [List.map_set]; exact (HR.out.drew _).set _ _
    have g3 : Frm [b, lb] w W := by subst hW; exact ((Frm.refl _ _).drew _).set _ _ (.inl (by simp))
    have hc := place_any W b lb f cs.length (rest.length + 1) 1 g1 hpos (by omega) (by omega) (by omega)
    have G1 := Lib.hid g1
    have G2 := Lib.hid g2
    have G3 := Lib.hid g3
    have HC := Lib.hid hc
    clear hW g1 g2 g3 hc HB HR c0 c1 cx z1
    go_wp2_with fail
    refine HC.out.mono ?_
    rintro e w' ⟨rfl, k1, rfl⟩
    have d1 := G1.out.cell (i := 1) rfl
    have d2 := G1.out.cell (i := 2) rfl
    have z1 := G1.out.frozen 1
    have z2 := G1.out.frozen 2
    go_wp2
    go_ret2
    refine ⟨rfl, ?_, ?_⟩
    · exact HF.out _ (((G1.out.drew k1).set 1 _).set 2 _) (((G2.out.drew k1).other _ _ hne).other _ _ hne)
    · exact ((G3.out.drew k1).set _ _ (.inl (by simp))).set _ _ (.inl (by simp))

/-- Pop takes the first thing, if there is one -/
theorem Pop_any {w : World} {b lb f : Nat} {cs xs : List Int} (h : RingAt w b lb cs f xs) :
    Calls Try.prog 22 #[.pointer (some ⟨b, 0, none⟩)] w fun e w' => e = .returned (.tuple #[.int .i64 (xs[0]?.getD 0), .bool (decide (0 < xs.length))]) ∧
      ∃ cs' f', RingAt w' b lb cs' f' xs.tail ∧ Frm [b, lb] w w' ∧ cs'.length = cs.length := by
  cases xs with
  | nil => exact (Pop_empty h).mono fun e w' ⟨h1, h2⟩ => ⟨h1, _, _, h2 ▸ h, h2 ▸ Frm.refl _ _, rfl⟩
  | cons x rest => exact (Pop_cons h).mono fun e w' ⟨h1, h2, h3⟩ => ⟨by rw [h1]; simp, _, _, h2, h3, by simp⟩

/-- one thing of the row is laid down -/
theorem put_at {cs ys : List Int} {f k : Nat} (y : Int) (hf : f < cs.length) (hm : ys.length ≤ cs.length) (hk : k < ys.length) (h : ∀ i (h : i < ys.length), cs[(f + i) % cs.length]? = some ys[i]) :
    ∀ i (_ : i < (ys.set k y).length), (cs.set ((f + k) % cs.length) y)[(f + i) % (cs.set ((f + k) % cs.length) y).length]? = some (ys.set k y)[i] := by
  intro i hi
  rw [List.length_set]
  have hi' : i < ys.length := by simpa using hi
  have hn : 0 < cs.length := by omega
  by_cases e : i = k
  · subst e
    have : (f + i) % cs.length < cs.length := Nat.mod_lt _ hn
    simp [this]
  · have hne : (f + k) % cs.length ≠ (f + i) % cs.length := by
      intro he
      rw [mod2 (by omega), mod2 (by omega)] at he
      split at he <;> split at he <;> omega
    rw [List.getElem?_set_ne hne, h i hi', List.getElem_set_ne (fun e' => e e'.symm)]

/-- the row while a thing is cut: what stood ahead of place i, from k on, has moved one place on -/
def shift (xs : List Int) (i k : Nat) : List Int := (List.range xs.length).map fun j => if k < j ∧ j ≤ i then xs[j - 1]?.getD 0 else xs[j]?.getD 0
theorem shift_len (xs : List Int) (i k : Nat) : (shift xs i k).length = xs.length := by simp [shift]
theorem shift_get (xs : List Int) (i k j : Nat) (h : j < xs.length) : (shift xs i k)[j]? = some (if k < j ∧ j ≤ i then xs[j - 1]?.getD 0 else xs[j]?.getD 0) := by simp [shift, h]
theorem shift_start (xs : List Int) (i : Nat) : shift xs i i = xs := by
  apply List.ext_getElem?
  intro j
  by_cases h : j < xs.length
  · rw [shift_get _ _ _ _ h, if_neg (by omega)]; simp [h]
  · rw [List.getElem?_eq_none (by rw [shift_len]; omega), List.getElem?_eq_none (by omega)]
theorem shift_step (xs : List Int) (i k : Nat) (hi : i < xs.length) (h0 : 0 < k) (hk : k ≤ i) : (shift xs i k).set k ((shift xs i k)[k - 1]?.getD 0) = shift xs i (k - 1) := by
  apply List.ext_getElem?
  intro j
  by_cases h : j < xs.length
  · rw [shift_get _ _ _ _ h, shift_get _ _ _ _ (by omega), if_neg (by omega), Option.getD_some, List.getElem?_set]
    by_cases e : k = j
    · subst e
      rw [if_pos rfl, if_pos (by rw [shift_len]; omega), if_pos (by omega)]
    · rw [if_neg e, shift_get _ _ _ _ h]
      by_cases h1 : k < j ∧ j ≤ i
      · rw [if_pos h1, if_pos (by omega)]
      · rw [if_neg h1, if_neg (by omega)]
  · rw [List.getElem?_eq_none (by rw [List.length_set, shift_len]; omega), List.getElem?_eq_none (by rw [shift_len]; omega)]
theorem shift_end (xs : List Int) (i : Nat) (hi : i < xs.length) : (shift xs i 0).tail = xs.eraseIdx i := by
  apply List.ext_getElem?
  intro j
  rw [List.getElem?_tail, List.getElem?_eraseIdx]
  by_cases h : j + 1 < xs.length
  · rw [shift_get _ _ _ _ h]
    by_cases h1 : j < i
    · rw [if_pos h1, if_pos (by omega)]
      have : j < xs.length := by omega
      simp [this]
    · rw [if_neg h1, if_neg (by omega)]; simp [h]
  · rw [List.getElem?_eq_none (by rw [shift_len]; omega)]
    split
    · omega
    · rw [List.getElem?_eq_none (by omega)]

end Go.Proofs.Yteapniipkpijkaa
