/- The contracts of package tas. -/
import Derived.Test.YtmfeaancnkadbaaArenaTake
import Derived.Test.YtmfeaancnkadbaaArenaCas
import Derived.Test.YtmfeaancnkadbaaArenaStore
import Derived.Test.YtmfeaancnkadbaaQuietTail
import Derived.Deep.RegionHeld3
import Derived.Deep.RegionWith
import Derived.Deep.DeepCutAuto
import Derived.Deep.CutBlock
namespace Go.Proofs.Ytmfeaancnkadbaa
open Go.RowKit

/-- slots' spots: field t of slot i -/
def spC (n : Nat) (S : Nat → Nat → Int) : List Value := (List.range (4 * n)).map fun j => Value.int .i64 (S (j / 4) (j % 4))
def spPut (S : Nat → Nat → Int) (i t : Nat) (v : Int) : Nat → Nat → Int := fun i' t' => if i' = i ∧ t' = t then v else S i' t'
theorem spC_get (n : Nat) (S : Nat → Nat → Int) {i t : Nat} (hi : i < n) (ht : t < 4) : (spC n S)[4 * i + t]? = some (.int .i64 (S i t)) := by
  unfold spC
  rw [List.getElem?_map, List.getElem?_range (by omega)]
  simp only [Option.map_some]
  rw [show (4 * i + t) / 4 = i from by omega, show (4 * i + t) % 4 = t from by omega]
theorem spC_put (n : Nat) (S : Nat → Nat → Int) {i t : Nat} (ht : t < 4) (v : Int) : (spC n S).set (4 * i + t) (.int .i64 v) = spC n (spPut S i t v) := by
  apply List.ext_getElem?
  intro j
  rw [List.getElem?_set]
  by_cases h : 4 * i + t = j
  · subst h
    by_cases h8 : 4 * i + t < 4 * n
    · rw [if_pos rfl, if_pos (by unfold spC; simpa using h8)]
      unfold spC
      rw [List.getElem?_map, List.getElem?_range h8]
      simp only [Option.map_some]
      rw [show (4 * i + t) / 4 = i from by omega, show (4 * i + t) % 4 = t from by omega]
      unfold spPut; simp
    · rw [if_pos rfl, if_neg (by unfold spC; simpa using h8), List.getElem?_eq_none (by unfold spC; simp; omega)]
  · rw [if_neg h]
    unfold spC
    by_cases h8 : j < 4 * n
    · rw [List.getElem?_map, List.getElem?_map, List.getElem?_range h8]
      simp only [Option.map_some]
      unfold spPut
      rw [if_neg (by omega)]
    · rw [List.getElem?_eq_none (by simp; omega), List.getElem?_eq_none (by simp; omega)]

structure LkAt (w : World) (lb ab sb word n : Nat) (most : Int) (S : Nat → Nat → Int) : Prop where
  box : HAt w lb [.pointer (some ⟨ab, 0, none⟩), .int .i64 word, .int .i64 most, .slice (some ⟨sb, 0, none⟩) n n] 70
  row : HAt w sb (spC n S) 30
  ne : lb ≠ sb
  n1 : 1 ≤ n
  n32 : n ≤ 32
  m1 : 1 ≤ most
  m2 : most ≤ 1024
theorem LkAt.frm {w w' : World} {lb ab sb word n : Nat} {most : Int} {S : Nat → Nat → Int} (h : LkAt w lb ab sb word n most S) {Z : List Nat} (hf : Frm Z w w') (h1 : lb ∉ Z) (h2 : sb ∉ Z) : LkAt w' lb ab sb word n most S :=
  { h with box := h.box.frm hf h1, row := h.row.frm hf h2 }
/-- is there a slot of that number? -/
def sHas (n : Nat) (i : Int) : Bool := decide (0 ≤ i ∧ i < (n : Int))
theorem LkAt.put {w : World} {lb ab sb word n : Nat} {most : Int} {S : Nat → Nat → Int} (h : LkAt w lb ab sb word n most S) (i : Nat) {t : Nat} (ht : t < 4) (v : Int) :
    LkAt (w.setCell ⟨sb, 4 * i + t, none⟩ (.int .i64 v)) lb ab sb word n most (spPut S i t v) := by
  have hr := h.row.set (4 * i + t) (.int .i64 v)
  rw [spC_put n S ht v] at hr
  exact { h with box := h.box.other _ _ h.ne, row := hr }

section
variable {w : World} {lb ab wb sb word n : Nat} {most : Int} {S : Nat → Nat → Int} {A : AR}

theorem lSlots_any (h : LkAt w lb ab sb word n most S) : Calls Try.prog 22 #[.pointer (some ⟨lb, 0, none⟩)] w fun e w' => e = .returned (.int .i64 n) ∧ w = w' := by
  have c3 := h.box.cell (i := 3) rfl
  clear h
  go_enter Try.func22, Try.ntmps22
  go_wp2
  go_ret
  exact ⟨rfl, rfl⟩

theorem lspot_no (h : LkAt w lb ab sb word n most S) {i : Int} (hi : sHas n i = false) : Calls Try.prog 29 #[.pointer (some ⟨lb, 0, none⟩), .int .i64 i] w fun e w' => e = .returned (.pointer none) ∧ w = w' := by
  have HS := Lib.hid (lSlots_any h)
  clear h
  by_cases hneg : i < 0
  · have d1 : decide (i < 0) = true := by simpa using hneg
    clear hi
    go_enter Try.func29, Try.ntmps29
    go_wp2
    go_ret
    exact ⟨rfl, rfl⟩
  · have d1 : decide (i < 0) = false := by simpa using hneg
    have d2 : decide ((n : Int) ≤ i) = true := by unfold sHas at hi; simp at hi; simp; omega
    clear hi
    go_enter Try.func29, Try.ntmps29
    go_wp2_with fail
    refine HS.out.mono ?_
    rintro e w' ⟨rfl, rfl⟩
    go_wp2
    go_ret
    exact ⟨rfl, rfl⟩
theorem lspot_yes (h : LkAt w lb ab sb word n most S) {i : Nat} (hi : i < n) : Calls Try.prog 29 #[.pointer (some ⟨lb, 0, none⟩), .int .i64 i] w fun e w' => e = .returned (.pointer (some ⟨sb, 4 * i, none⟩)) ∧ w = w' := by
  have HS := Lib.hid (lSlots_any h)
  have c3 := h.box.cell (i := 3) rfl
  have hn := h.n32
  clear h
  have d1 : decide ((i : Int) < 0) = false := by simp
  have d2 : decide ((n : Int) ≤ i) = false := by simp; omega
  have d3 : decide (n ≤ i) = false := by simp; omega
  have l1 : (i : Int) < n := by omega
  have e1 : i * 4 = 4 * i := by omega
  go_enter Try.func29, Try.ntmps29
  go_wp2_with fail
  refine HS.out.mono ?_
  rintro e w' ⟨rfl, rfl⟩
  go_wp2
  go_ret
  exact ⟨by simp [e1], rfl⟩

/-- what a slot's spot is, as a value -/
def spV (n : Nat) (S : Nat → Nat → Int) (i : Int) : Value := if sHas n i then .agg #[.int .i64 (S i.toNat 0), .int .i64 (S i.toNat 1), .int .i64 (S i.toNat 2), .int .i64 (S i.toNat 3)] else .agg #[.int .i64 0, .int .i64 0, .int .i64 0, .int .i64 0]

theorem lSpot_any (h : LkAt w lb ab sb word n most S) (i : Int) : Calls Try.prog 13 #[.pointer (some ⟨lb, 0, none⟩), .int .i64 i] w fun e w' => e = .returned (spV n S i) ∧ Frm [] w w' := by
  cases hi : sHas n i with
  | false =>
    have HS := Lib.hid (fun (W : World) (hf : Frm [] w W) => lspot_no (h.frm hf (by simp) (by simp)) hi)
    have hr : spV n S i = .agg #[.int .i64 0, .int .i64 0, .int .i64 0, .int .i64 0] := by unfold spV; rw [hi]; rfl
    rw [hr]
    clear h hr hi
    go_enter Try.func13, Try.ntmps13
    go_wp2_with fail
    refine (HS.out _ ((Frm.refl _ _).alloc _)).mono ?_
    rintro e w' ⟨rfl, rfl⟩
    go_wp2_with fail
    refine bodyPost_ret (v := .agg #[.int .i64 0, .int .i64 0, .int .i64 0, .int .i64 0]) (by simp [results, Try.results13, go_sem]) rfl ⟨rfl, (Frm.refl _ _).alloc _⟩
  | true =>
    have hi' : 0 ≤ i ∧ i < (n : Int) := by unfold sHas at hi; simpa using hi
    obtain ⟨j, rfl⟩ := Int.eq_ofNat_of_zero_le hi'.1
    have hj : j < n := by omega
    have HS := Lib.hid (fun (W : World) (hf : Frm [] w W) => lspot_yes (h.frm hf (by simp) (by simp)) hj)
    have hr : spV n S j = .agg #[.int .i64 (S j 0), .int .i64 (S j 1), .int .i64 (S j 2), .int .i64 (S j 3)] := by unfold spV; rw [hi]; rfl
    rw [hr]
    have hkk : ∀ wx, Frm [] w wx → wx.cell? ⟨sb, 4 * j, none⟩ = some (.int .i64 (S j 0)) ∧ wx.cell? ⟨sb, 4 * j + 1, none⟩ = some (.int .i64 (S j 1)) ∧ wx.cell? ⟨sb, 4 * j + 2, none⟩ = some (.int .i64 (S j 2)) ∧ wx.cell? ⟨sb, 4 * j + 3, none⟩ = some (.int .i64 (S j 3)) := fun wx hf =>
      ⟨(h.row.frm hf (by simp)).cell (spC_get n S (t := 0) hj (by omega)), (h.row.frm hf (by simp)).cell (spC_get n S (t := 1) hj (by omega)), (h.row.frm hf (by simp)).cell (spC_get n S (t := 2) hj (by omega)), (h.row.frm hf (by simp)).cell (spC_get n S (t := 3) hj (by omega))⟩
    have KK := Lib.hid hkk
    clear h hr hi hkk hi'
    go_enter Try.func13, Try.ntmps13
    go_wp2_with fail
    refine (HS.out _ ((Frm.refl _ _).alloc _)).mono ?_
    rintro e w' ⟨rfl, rfl⟩
    obtain ⟨c0, c1, c2, c3⟩ := KK.out _ ((Frm.refl [] w).alloc (.cells #[.int .i64 0, .int .i64 0, .int .i64 0, .int .i64 0] 30))
    go_wp2_with fail
    trace_state
    refine bodyPost_ret (v := .agg #[.int .i64 (S j 0), .int .i64 (S j 1), .int .i64 (S j 2), .int .i64 (S j 3)]) (by simp [results, Try.results13, go_sem]) rfl ⟨rfl, ?_⟩
    exact (Frm.refl _ _).alloc _
end

end Go.Proofs.Ytmfeaancnkadbaa
