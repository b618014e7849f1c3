/- The contracts of package ticket. -/
import Derived.Test.YteijjhahgabalaaGreatQ15
import Derived.Test.YteijjhahgabalaaGreatQ05
import Derived.Test.YteijjhahgabalaaGreatQ03
import Derived.Test.YteijjhahgabalaaGreatQ12
import Derived.Test.YteijjhahgabalaaGreatQ06
namespace Go.Proofs.YteijjhahgabalaaGreat
open Go.RowKit

structure KkAt (w : World) (lb ab sb next n : Nat) (S : Nat → Nat → Int) : Prop where
  box : HAt w lb [.slice (some ⟨sb, 0, none⟩) n n, .pointer (some ⟨ab, 0, none⟩), .int .i64 next] 148
  row : HAt w sb (spC n S) 138
  ne : lb ≠ sb
  n1 : 1 ≤ n
  n32 : n ≤ 32
  nx : next ≤ 4096
theorem KkAt.frm {w w' : World} {lb ab sb next n : Nat} {S : Nat → Nat → Int} (h : KkAt w lb ab sb next n S) {Z : List Nat} (hf : Frm Z w w') (h1 : lb ∉ Z) (h2 : sb ∉ Z) : KkAt w' lb ab sb next n S :=
  { h with box := h.box.frm hf h1, row := h.row.frm hf h2 }
theorem KkAt.put {w : World} {lb ab sb next n : Nat} {S : Nat → Nat → Int} (h : KkAt w lb ab sb next n S) (i : Nat) {t : Nat} (ht : t < 4) (v : Int) :
    KkAt (w.setCell ⟨sb, 4 * i + t, none⟩ (.int .i64 v)) lb ab sb next n (spPut S i t v) := by
  have hr := h.row.set (4 * i + t) (.int .i64 v)
  rw [spC_put n S ht v] at hr
  exact { h with box := h.box.other _ _ h.ne, row := hr }
theorem KkAt.put0 {w : World} {lb ab sb next n : Nat} {S : Nat → Nat → Int} (h : KkAt w lb ab sb next n S) (i : Nat) (v : Int) : KkAt (w.setCell ⟨sb, 4 * i, none⟩ (.int .i64 v)) lb ab sb next n (spPut S i 0 v) := h.put i (t := 0) (by omega) v
theorem KkAt.pc {w : World} {lb ab sb next n : Nat} {S : Nat → Nat → Int} (h : KkAt w lb ab sb next n S) {j : Nat} (hj : j < n) (t : Nat) (ht : t < 4) : w.cell? ⟨sb, 4 * j + t, none⟩ = some (.int .i64 (S j t)) := h.row.cell (spC_get n S hj ht)
theorem KkAt.pc0 {w : World} {lb ab sb next n : Nat} {S : Nat → Nat → Int} (h : KkAt w lb ab sb next n S) {j : Nat} (hj : j < n) : w.cell? ⟨sb, 4 * j, none⟩ = some (.int .i64 (S j 0)) := h.row.cell (spC_get n S (t := 0) hj (by omega))

def kTurnOk (n : Nat) (S : Nat → Nat → Int) (i pc : Int) : Bool := sHas n i && decide (S i.toNat 0 = pc)
def kTurn (n : Nat) (S : Nat → Nat → Int) (i pc nw : Int) : Nat → Nat → Int := if kTurnOk n S i pc then spPut S i.toNat 0 nw else S

theorem kOf_any (b : Nat) (w : World) : Calls Tryz.prog 175 #[.pointer (some ⟨b, 0, none⟩)] w fun e w' => e = .returned (.pointer (some ⟨b, 0, none⟩)) ∧ w = w' := by
  go_enter Tryz.func175, Tryz.ntmps175
  go_wp2
  go_ret
  exact ⟨rfl, rfl⟩

section
variable {w : World} {lb ab wb sb next n : Nat} {S : Nat → Nat → Int} {A : AR}
theorem krSlots_any (h : KkAt w lb ab sb next n S) : Calls Tryz.prog 181 #[.pointer (some ⟨lb, 0, none⟩)] w fun e w' => e = .returned (.int .i64 n) ∧ w = w' := by
  have c0 := h.box.cell (i := 0) rfl
  clear h
  go_enter Tryz.func181, Tryz.ntmps181
  go_wp2
  go_ret
  exact ⟨rfl, rfl⟩
theorem kspot_no (h : KkAt w lb ab sb next n S) {i : Int} (hi : sHas n i = false) : Calls Tryz.prog 178 #[.pointer (some ⟨lb, 0, none⟩), .int .i64 i] w fun e w' => e = .returned (.pointer none) ∧ w = w' := by
  have HS := Lib.hid (krSlots_any h)
  clear h
  by_cases hneg : i < 0
  · have d1 : decide (i < 0) = true := by simpa using hneg
    clear hi
    go_enter Tryz.func178, Tryz.ntmps178
    go_wp2
    go_ret
    exact ⟨rfl, rfl⟩
  · have d1 : decide (i < 0) = false := by simpa using hneg
    have d2 : decide ((n : Int) ≤ i) = true := by unfold sHas at hi; simp at hi; simp; omega
    clear hi
    go_enter Tryz.func178, Tryz.ntmps178
    go_wp2_with fail
    refine HS.out.mono ?_
    rintro e w' ⟨rfl, rfl⟩
    go_wp2
    go_ret
    exact ⟨rfl, rfl⟩
theorem kspot_yes (h : KkAt w lb ab sb next n S) {i : Nat} (hi : i < n) : Calls Tryz.prog 178 #[.pointer (some ⟨lb, 0, none⟩), .int .i64 i] w fun e w' => e = .returned (.pointer (some ⟨sb, 4 * i, none⟩)) ∧ w = w' := by
  have HS := Lib.hid (krSlots_any h)
  have c0 := h.box.cell (i := 0) rfl
  have hn := h.n32
  clear h
  have d1 : decide ((i : Int) < 0) = false := by simp
  have d2 : decide ((n : Int) ≤ i) = false := by simp; omega
  have d3 : decide (n ≤ i) = false := by simp; omega
  have l1 : (i : Int) < n := by omega
  go_enter Tryz.func178, Tryz.ntmps178
  go_wp2_with fail
  refine HS.out.mono ?_
  rintro e w' ⟨rfl, rfl⟩
  go_wp2
  go_ret
  exact ⟨by simp, rfl⟩
theorem krSpot_any (h : KkAt w lb ab sb next n S) (i : Int) : Calls Tryz.prog 177 #[.pointer (some ⟨lb, 0, none⟩), .int .i64 i] w fun e w' => e = .returned (spV n S i) ∧ Frm [] w w' := by
  cases hi : sHas n i with
  | false =>
    have HS := Lib.hid (fun (W : World) (hf : Frm [] w W) => kspot_no (h.frm hf (by simp) (by simp)) hi)
    have hr : spV n S i = .agg #[.int .i64 0, .int .i64 0, .int .i64 0, .int .i64 0] := by unfold spV; rw [hi]; rfl
    rw [hr]
    clear h hr hi
    go_enter Tryz.func177, Tryz.ntmps177
    go_wp2_with fail
    refine (HS.out _ ((Frm.refl _ _).alloc _)).mono ?_
    rintro e w' ⟨rfl, rfl⟩
    go_wp2_with fail
    exact bodyPost_ret (v := .agg #[.int .i64 0, .int .i64 0, .int .i64 0, .int .i64 0]) (by simp [results, Tryz.results177, go_sem]) rfl ⟨rfl, (Frm.refl _ _).alloc _⟩
  | true =>
    have hi' : 0 ≤ i ∧ i < (n : Int) := by unfold sHas at hi; simpa using hi
    obtain ⟨j, rfl⟩ := Int.eq_ofNat_of_zero_le hi'.1
    have hj : j < n := by omega
    have HS := Lib.hid (fun (W : World) (hf : Frm [] w W) => kspot_yes (h.frm hf (by simp) (by simp)) hj)
    have hr : spV n S j = .agg #[.int .i64 (S j 0), .int .i64 (S j 1), .int .i64 (S j 2), .int .i64 (S j 3)] := by unfold spV; rw [hi]; rfl
    rw [hr]
    have hkk : ∀ wx, Frm [] w wx → wx.cell? ⟨sb, 4 * j, none⟩ = some (.int .i64 (S j 0)) ∧ wx.cell? ⟨sb, 4 * j + 1, none⟩ = some (.int .i64 (S j 1)) ∧ wx.cell? ⟨sb, 4 * j + 2, none⟩ = some (.int .i64 (S j 2)) ∧ wx.cell? ⟨sb, 4 * j + 3, none⟩ = some (.int .i64 (S j 3)) := fun wx hf =>
      ⟨(h.row.frm hf (by simp)).cell (spC_get n S (t := 0) hj (by omega)), (h.row.frm hf (by simp)).cell (spC_get n S (t := 1) hj (by omega)), (h.row.frm hf (by simp)).cell (spC_get n S (t := 2) hj (by omega)), (h.row.frm hf (by simp)).cell (spC_get n S (t := 3) hj (by omega))⟩
    have KK := Lib.hid hkk
    clear h hr hi hkk hi'
    go_enter Tryz.func177, Tryz.ntmps177
    go_wp2_with fail
    refine (HS.out _ ((Frm.refl _ _).alloc _)).mono ?_
    rintro e w' ⟨rfl, rfl⟩
    obtain ⟨c0, c1, c2, c3⟩ := KK.out _ ((Frm.refl [] w).alloc (.cells #[.int .i64 0, .int .i64 0, .int .i64 0, .int .i64 0] 138))
    go_wp2_with fail
    refine bodyPost_ret (v := .agg #[.int .i64 (S j 0), .int .i64 (S j 1), .int .i64 (S j 2), .int .i64 (S j 3)]) (by simp [results, Tryz.results177, go_sem]) rfl ⟨rfl, ?_⟩
    exact (Frm.refl _ _).alloc _
theorem spV_form (n : Nat) (S : Nat → Nat → Int) (i : Int) : ∃ a b c d : Int, spV n S i = .agg #[.int .i64 a, .int .i64 b, .int .i64 c, .int .i64 d] := by
  unfold spV
  split
  · exact ⟨_, _, _, _, rfl⟩
  · exact ⟨_, _, _, _, rfl⟩
theorem kSpot_any (h : KkAt w lb ab sb next n S) (i : Int) : Calls Tryz.prog 173 #[.pointer (some ⟨lb, 0, none⟩), .int .i64 i] w fun e w' => e = .returned (spV n S i) ∧ Frm [] w w' := by
  have hS := fun (W : World) (hf : Frm [] w W) => krSpot_any (h.frm hf (by simp) (by simp)) i
  obtain ⟨a, b, c, d, hv⟩ := spV_form n S i
  rw [hv] at hS ⊢
  have HS := Lib.hid hS
  clear h hS hv
  go_enter Tryz.func173, Tryz.ntmps173
  go_wp2_with fail
  refine (kOf_any _ _).mono ?_
  rintro e w' ⟨rfl, rfl⟩
  go_wp2_with fail
  have hz := World.size_alloc w (.cells #[.int .i64 0, .int .i64 0, .int .i64 0, .int .i64 0] 138)
  have hB : HAt (w.alloc (.cells #[.int .i64 0, .int .i64 0, .int .i64 0, .int .i64 0] 138)) w.heap.size [.int .i64 0, .int .i64 0, .int .i64 0, .int .i64 0] 138 := HAt.new w _ _
  refine (HS.out _ ((Frm.refl _ _).alloc _)).mono ?_
  rintro e w1 ⟨rfl, hF⟩
  have hB1 := hB.frm hF (by simp)
  have hG : Frm [] w w1 := ((Frm.refl [] w).alloc _).trans hF
  have b0 := hB1.cell (i := 0) rfl
  have b1 := hB1.cell (i := 1) rfl
  have b2 := hB1.cell (i := 2) rfl
  have b3 := hB1.cell (i := 3) rfl
  have bz := hB1.frozen
  have HG := Lib.hid hG
  have hlt := hB1.lt
  have hB2 := (((hB1.set 0 (.int .i64 a)).set 1 (.int .i64 b)).set 2 (.int .i64 c)).set 3 (.int .i64 d)
  have HB2 := Lib.hid hB2
  clear hF hB hB1 hG hz hB2
  have hG4 := (((HG.out.set ⟨w.heap.size, 0, none⟩ (.int .i64 a) (.inr (Nat.le_refl _))).set ⟨w.heap.size, 1, none⟩ (.int .i64 b) (.inr (Nat.le_refl _))).set ⟨w.heap.size, 2, none⟩ (.int .i64 c) (.inr (Nat.le_refl _))).set ⟨w.heap.size, 3, none⟩ (.int .i64 d) (.inr (Nat.le_refl _))
  have HG4 := Lib.hid hG4
  clear hG4
  go_wp2_with fail
  generalize (((w1.setCell ⟨w.heap.size, 0, none⟩ (.int .i64 a)).setCell ⟨w.heap.size, 1, none⟩ (.int .i64 b)).setCell ⟨w.heap.size, 2, none⟩ (.int .i64 c)).setCell ⟨w.heap.size, 3, none⟩ (.int .i64 d) = W2 at *
  have k0 := HB2.out.cell (i := 0) rfl
  have k1 := HB2.out.cell (i := 1) rfl
  have k2 := HB2.out.cell (i := 2) rfl
  have k3 := HB2.out.cell (i := 3) rfl
  exact bodyPost_ret (v := .agg #[.int .i64 a, .int .i64 b, .int .i64 c, .int .i64 d]) (by simp [results, Tryz.results173, go_sem, k0, k1, k2, k3]) rfl ⟨rfl, HG4.out⟩
theorem put_field' (S : Nat → Nat → Int) (i : Nat) {t u : Nat} (h : u ≠ t) {a : Int} : spPut S i t a i u = S i u := by unfold spPut; simp [h]
theorem kat_no (h : KkAt w lb ab sb next n S) {i pc : Int} (hq : kTurnOk n S i pc = false) : Calls Tryz.prog 180 #[.pointer (some ⟨lb, 0, none⟩), .int .i64 i, .int .i64 pc] w fun e w' => e = .returned (.pointer none) ∧ w = w' := by
  cases hi : sHas n i with
  | false =>
    have HS := Lib.hid (kspot_no h hi)
    clear h hq hi
    go_enter Tryz.func180, Tryz.ntmps180
    go_wp2_with fail
    refine HS.out.mono ?_
    rintro e w' ⟨rfl, rfl⟩
    go_wp2
    go_ret
    exact ⟨rfl, rfl⟩
  | true =>
    have hi' : 0 ≤ i ∧ i < (n : Int) := by unfold sHas at hi; simpa using hi
    obtain ⟨j, rfl⟩ := Int.eq_ofNat_of_zero_le hi'.1
    have hj : j < n := by omega
    have HS := Lib.hid (kspot_yes h hj)
    have c0 := h.pc0 hj
    have e1 : (S j 0 != pc) = true := by unfold kTurnOk at hq; rw [hi] at hq; simpa using hq
    generalize S j 0 = q at *
    clear h hq hi hi'
    go_enter Tryz.func180, Tryz.ntmps180
    go_wp2_with fail
    refine HS.out.mono ?_
    rintro e w' ⟨rfl, rfl⟩
    go_wp2
    go_ret
    exact ⟨rfl, rfl⟩
theorem kat_yes (h : KkAt w lb ab sb next n S) {j : Nat} (hj : j < n) {pc : Int} (hq : S j 0 = pc) : Calls Tryz.prog 180 #[.pointer (some ⟨lb, 0, none⟩), .int .i64 j, .int .i64 pc] w fun e w' => e = .returned (.pointer (some ⟨sb, 4 * j, none⟩)) ∧ w = w' := by
  have HS := Lib.hid (kspot_yes h hj)
  have c0 := h.pc0 hj
  rw [hq] at c0
  have e1 : (pc != pc) = false := by simp
  clear h hq
  go_enter Tryz.func180, Tryz.ntmps180
  go_wp2_with fail
  refine HS.out.mono ?_
  rintro e w' ⟨rfl, rfl⟩
  go_wp2
  go_ret
  exact ⟨rfl, rfl⟩
theorem kturn_any (h : KkAt w lb ab sb next n S) (i pc nw : Int) : Calls Tryz.prog 176 #[.pointer (some ⟨lb, 0, none⟩), .int .i64 i, .int .i64 pc, .int .i64 nw] w fun e w' => e = .returned (.bool (kTurnOk n S i pc)) ∧ KkAt w' lb ab sb next n (kTurn n S i pc nw) ∧ Frm [sb] w w' := by
  have H := Lib.hid h
  cases hq : kTurnOk n S i pc with
  | false =>
    have HA := Lib.hid (kat_no h hq)
    have hr : kTurn n S i pc nw = S := by unfold kTurn; rw [hq]; rfl
    rw [hr]
    clear h hq hr
    go_enter Tryz.func176, Tryz.ntmps176
    go_wp2_with fail
    refine HA.out.mono ?_
    rintro e w' ⟨rfl, rfl⟩
    go_wp2
    go_ret
    exact ⟨rfl, H.out, Frm.refl _ _⟩
  | true =>
    have hq' : sHas n i = true ∧ S i.toNat 0 = pc := by unfold kTurnOk at hq; simpa using hq
    have hi' : 0 ≤ i ∧ i < (n : Int) := by have := hq'.1; unfold sHas at this; simpa using this
    obtain ⟨j, rfl⟩ := Int.eq_ofNat_of_zero_le hi'.1
    have hj : j < n := by omega
    have ej : ((j : Int)).toNat = j := by omega
    have hpc : S j 0 = pc := by have := hq'.2; rwa [ej] at this
    have HA := Lib.hid (kat_yes h hj hpc)
    have hr : kTurn n S j pc nw = spPut S j 0 nw := by unfold kTurn; rw [hq, if_pos rfl, ej]
    rw [hr]
    have c0 := h.pc0 hj
    have hfz := h.row.frozen
    have HP := Lib.hid (h.put0 j nw)
    clear h hq hr hq' hi' hpc ej
    generalize S j 0 = q at *
    go_enter Tryz.func176, Tryz.ntmps176
    go_wp2_with fail
    refine HA.out.mono ?_
    rintro e w' ⟨rfl, rfl⟩
    go_wp2
    go_ret
    exact ⟨rfl, HP.out, (Frm.refl [sb] w).set ⟨sb, 4 * j, none⟩ _ (.inl (by simp))⟩
theorem kAsk_any (h : KkAt w lb ab sb next n S) (i : Int) : Calls Tryz.prog 170 #[.pointer (some ⟨lb, 0, none⟩), .int .i64 i] w fun e w' => e = .returned (.bool (kTurnOk n S i 0)) ∧ KkAt w' lb ab sb next n (kTurn n S i 0 1) ∧ Frm [sb] w w' := by
  have HT := Lib.hid (kturn_any h i 0 1)
  clear h
  go_enter Tryz.func170, Tryz.ntmps170
  go_wp2_with fail
  refine (kOf_any _ _).mono ?_
  rintro e w' ⟨rfl, rfl⟩
  go_wp2_with fail
  refine HT.out.mono ?_
  rintro e w' ⟨rfl, hK, hF⟩
  have HK := Lib.hid hK
  have HF := Lib.hid hF
  clear hK hF
  go_wp2
  go_ret
  exact ⟨rfl, HK.out, HF.out⟩
theorem kLeave_any (h : KkAt w lb ab sb next n S) (i : Int) : Calls Tryz.prog 171 #[.pointer (some ⟨lb, 0, none⟩), .int .i64 i] w fun e w' => e = .returned (.bool (kTurnOk n S i 10)) ∧ KkAt w' lb ab sb next n (kTurn n S i 10 11) ∧ Frm [sb] w w' := by
  have HT := Lib.hid (kturn_any h i 10 11)
  clear h
  go_enter Tryz.func171, Tryz.ntmps171
  go_wp2_with fail
  refine (kOf_any _ _).mono ?_
  rintro e w' ⟨rfl, rfl⟩
  go_wp2_with fail
  refine HT.out.mono ?_
  rintro e w' ⟨rfl, hK, hF⟩
  have HK := Lib.hid hK
  have HF := Lib.hid hF
  clear hK hF
  go_wp2
  go_ret
  exact ⟨rfl, HK.out, HF.out⟩
/-- is nobody seen to wait? -/
def kAlR (n next : Nat) (S : Nat → Nat → Int) (A : AR) (i : Int) : Bool := kTurnOk n S i 10 && decide (A.get next = wrap64 (S i.toNat 1 + 1))
def kAlA (n next : Nat) (S : Nat → Nat → Int) (A : AR) (i : Int) : AR := if kTurnOk n S i 10 then A.load next else A
theorem kAlone_no (h : KkAt w lb ab sb next n S) (i : Int) (hq : kTurnOk n S i 10 = false) : Calls Tryz.prog 169 #[.pointer (some ⟨lb, 0, none⟩), .int .i64 i] w fun e w' => e = .returned (.bool false) ∧ Frm [] w w' := by
  have HA := Lib.hid (kat_no h hq)
  have hne : Nonempty (HW (fun wx => Frm [] w wx)) := ⟨⟨w, Frm.refl _ _⟩⟩
  clear h hq
  go_enter Tryz.func169, Tryz.ntmps169
  go_wp2_with fail
  refine (kOf_any _ _).mono ?_
  rintro e w' ⟨rfl, rfl⟩
  go_wp2_with fail
  refine HA.out.mono ?_
  rintro e w' ⟨rfl, rfl⟩
  go_wp2_with fail
  refine held_begin (S := fun wx => Frm [] w wx) (by kernel_rfl) ?_
  refine held_row_at (fuel := 4) (is := [0, 1, 2, 3, 4, 5, 6, 7, 8, 9, 10, 12, 13, 14, 15, 16]) (.cons rfl (.cons rfl (.cons rfl (.cons rfl (.cons rfl (.cons rfl (.cons rfl (.cons rfl (.cons rfl (.cons rfl (.cons rfl (.cons rfl (.cons rfl (.cons rfl (.cons rfl (.cons rfl .nil)))))))))))))))) (by kernel_rfl) (fun _ _ _ _ _ h => h) rfl (by kernel_rfl) (Frm.refl _ _).drew1 ?_
  intro K hK
  repeat (go_big_quiet_step (fail))
  refine wpQuiet_nil (hK _ ?_)
  clear hK K
  refine held_call (fuel := 3) (i := 11) rfl (by kernel_rfl) ?_
  go_wp2_with fail
  refine onNormal_mk ⟨(Frm.refl _ _).drew1, ?_⟩
  refine held_row_at (fuel := 0) (is := [17, 18, 19]) (.cons rfl (.cons rfl (.cons rfl .nil))) (by kernel_rfl) (fun _ _ _ _ _ h => h) rfl (by kernel_rfl) (Frm.refl _ _).drew1 ?_
  intro K hK
  repeat (go_big_quiet_step (fail))
  refine wpQuiet_nil (hK _ ?_)
  clear hK K
  refine held_end (by kernel_rfl) ?_
  go_wp2
  go_ret
  exact ⟨rfl, (Frm.refl _ _).drew1⟩
theorem kAlone_yes (h : KkAt w lb ab sb next n S) (hA : ArAt w ab wb A) (hne : lb ≠ ab ∧ lb ≠ wb ∧ sb ≠ ab ∧ sb ≠ wb) {j : Nat} (hj : j < n) (hq : S j 0 = 10) : Calls Tryz.prog 169 #[.pointer (some ⟨lb, 0, none⟩), .int .i64 j] w fun e w' => e = .returned (.bool (A.get next == wrap64 (S j 1 + 1))) ∧ KkAt w' lb ab sb next n S ∧ ArAt w' ab wb (A.load next) ∧ Frm [ab, wb] w w' := by
  obtain ⟨n1, n2, n3, n4⟩ := hne
  have HAT := Lib.hid (kat_yes h hj hq)
  have hnx := h.nx
  have hne : Nonempty (HW (fun wx => Frm [ab, wb] w wx)) := ⟨⟨w, Frm.refl _ _⟩⟩
  have hz0 : ∀ q : HW (fun wx => Frm [ab, wb] w wx), q.w.cell? ⟨lb, 1, none⟩ = some (.pointer (some ⟨ab, 0, none⟩)) := fun q => (h.box.frm q.h (by simp; omega)).cell (i := 1) rfl
  have hz1 : ∀ q : HW (fun wx => Frm [ab, wb] w wx), q.w.cell? ⟨lb, 2, none⟩ = some (.int .i64 next) := fun q => (h.box.frm q.h (by simp; omega)).cell (i := 2) rfl
  have hz2 : ∀ q : HW (fun wx => Frm [ab, wb] w wx), q.w.cell? ⟨sb, 4 * j + 1, none⟩ = some (.int .i64 (S j 1)) := fun q => (h.frm q.h (by simp; omega) (by simp; omega)).pc hj 1 (by omega)
  have HL := Lib.hid (Load_any (hA.frm (S := []) ((Frm.refl _ w).drew1) (by simp) (by simp)) next)
  have HK := Lib.hid h
  have HN := Lib.hid (And.intro n1 (And.intro n2 (And.intro n3 n4)))
  clear h hA hq n1 n2 n3 n4
  generalize S j 1 = a at *
  generalize A.get next = x at *
  go_enter Tryz.func169, Tryz.ntmps169
  go_wp2_with fail
  refine (kOf_any _ _).mono ?_
  rintro e w' ⟨rfl, rfl⟩
  go_wp2_with fail
  refine HAT.out.mono ?_
  rintro e w' ⟨rfl, rfl⟩
  go_wp2_with fail
  refine held_begin (S := fun wx => Frm [ab, wb] w wx) (by kernel_rfl) ?_
  refine held_row_at (fuel := 4) (is := [0, 1, 2, 3, 4, 5, 6, 7, 8, 9, 10, 12, 13, 14, 15, 16]) (.cons rfl (.cons rfl (.cons rfl (.cons rfl (.cons rfl (.cons rfl (.cons rfl (.cons rfl (.cons rfl (.cons rfl (.cons rfl (.cons rfl (.cons rfl (.cons rfl (.cons rfl (.cons rfl .nil)))))))))))))))) (by kernel_rfl) (fun _ _ _ _ _ h => h) rfl (by kernel_rfl) (Frm.refl _ _).drew1 ?_
  intro K hK
  repeat (go_big_quiet_step (fail))
  refine wpQuiet_nil (hK _ ?_)
  clear hK K
  refine held_call (fuel := 3) (i := 11) rfl (by kernel_rfl) ?_
  go_wp2_with fail
  refine HL.out.mono ?_; rintro e w1 ⟨rfl, hA, hF⟩; have HA1 := Lib.hid hA; have HF1 := Lib.hid (((Frm.refl [ab, wb] w).drew1).trans hF); clear hA hF
  go_wp2_with fail
  refine onNormal_mk ⟨HF1.out, ?_⟩
  refine held_row_at (fuel := 0) (is := [17, 18, 19]) (.cons rfl (.cons rfl (.cons rfl .nil))) (by kernel_rfl) (fun _ _ _ _ _ h => h) rfl (by kernel_rfl) HF1.out ?_
  intro K hK
  repeat (go_big_quiet_step (fail))
  refine wpQuiet_nil (hK _ ?_)
  clear hK K
  refine held_end (by kernel_rfl) ?_
  go_wp2
  go_ret
  exact ⟨rfl, HK.out.frm HF1.out (by simp; have := HN.out; omega) (by simp; have := HN.out; omega), HA1.out, HF1.out⟩
theorem kAlone_any (h : KkAt w lb ab sb next n S) (hA : ArAt w ab wb A) (hne : lb ≠ ab ∧ lb ≠ wb ∧ sb ≠ ab ∧ sb ≠ wb) (i : Int) : Calls Tryz.prog 169 #[.pointer (some ⟨lb, 0, none⟩), .int .i64 i] w fun e w' => e = .returned (.bool (kAlR n next S A i)) ∧ KkAt w' lb ab sb next n S ∧ ArAt w' ab wb (kAlA n next S A i) ∧ Frm [sb, ab, wb] w w' := by
  unfold kAlR kAlA
  cases hq : kTurnOk n S i 10 with
  | false => exact (kAlone_no h i hq).mono fun e w' ⟨h1, h2⟩ => ⟨h1, h.frm h2 (by simp) (by simp), hA.frm h2 (by simp) (by simp), h2.mono (by simp)⟩
  | true =>
    have hq' : sHas n i = true ∧ S i.toNat 0 = 10 := by unfold kTurnOk at hq; simpa using hq
    have hi' : 0 ≤ i ∧ i < (n : Int) := by have := hq'.1; unfold sHas at this; simpa using this
    obtain ⟨j, rfl⟩ := Int.eq_ofNat_of_zero_le hi'.1
    have ej : ((j : Int)).toNat = j := by omega
    refine (kAlone_yes h hA hne (by omega : j < n) (by have := hq'.2; rwa [ej] at this)).mono fun e w' ⟨h1, h2, h3, h4⟩ => ⟨?_, h2, h3, h4.mono (by simp)⟩
    rw [h1, ej]
    exact ret_bool (by simp [BEq.beq])

def kStepR (n next : Nat) (S : Nat → Nat → Int) (A : AR) (i : Int) : Bool := sHas n i && (if S i.toNat 0 = 2 then decide (A.get (next + 1) = S i.toNat 1) else decide (S i.toNat 0 = 11))
def kStepS (n next : Nat) (S : Nat → Nat → Int) (A : AR) (i : Int) : Nat → Nat → Int :=
  if sHas n i then
    (if S i.toNat 0 = 1 then spPut (spPut S i.toNat 1 (wrap64 (A.addRes next 1 - 1))) i.toNat 0 2
     else if S i.toNat 0 = 2 then (if A.get (next + 1) = S i.toNat 1 then spPut S i.toNat 0 10 else S)
     else if S i.toNat 0 = 11 then spPut S i.toNat 0 0 else S)
  else S
def kStepA (n next : Nat) (S : Nat → Nat → Int) (A : AR) (i : Int) : AR :=
  if sHas n i then (if S i.toNat 0 = 1 then A.add next 1 else if S i.toNat 0 = 2 then A.load (next + 1) else if S i.toNat 0 = 11 then A.store (next + 1) (wrap64 (S i.toNat 1 + 1)) else A) else A

theorem kStep_idle (h : KkAt w lb ab sb next n S) (i : Int) (hq : sHas n i = false ∨ (S i.toNat 0 ≠ 1 ∧ S i.toNat 0 ≠ 2 ∧ S i.toNat 0 ≠ 11)) : Calls Tryz.prog 174 #[.pointer (some ⟨lb, 0, none⟩), .int .i64 i] w fun e w' => e = .returned (.bool false) ∧ w = w' := by
  cases hi : sHas n i with
  | false =>
    have HS := Lib.hid (kspot_no h hi)
    clear h hq hi
    go_enter Tryz.func174, Tryz.ntmps174
    go_wp2_with fail
    refine (kOf_any _ _).mono ?_
    rintro e w' ⟨rfl, rfl⟩
    go_wp2_with fail
    refine HS.out.mono ?_
    rintro e w' ⟨rfl, rfl⟩
    go_wp2
    go_ret
    exact ⟨rfl, rfl⟩
  | true =>
    have hi' : 0 ≤ i ∧ i < (n : Int) := by unfold sHas at hi; simpa using hi
    obtain ⟨j, rfl⟩ := Int.eq_ofNat_of_zero_le hi'.1
    have hj : j < n := by omega
    have HS := Lib.hid (kspot_yes h hj)
    have c0 := h.pc0 hj
    rw [hi] at hq
    rw [show ((j : Int).toNat) = j from by omega] at hq
    obtain ⟨q1, q2, q3⟩ := hq.resolve_left (by simp)
    generalize S j 0 = pc at *
    have d1 : (pc == 1) = false := by simpa using q1
    have d2 : (pc == 2) = false := by simpa using q2
    have d3 : (pc == 11) = false := by simpa using q3
    clear h hq hi q1 q2 q3 hi'
    go_enter Tryz.func174, Tryz.ntmps174
    go_wp2_with fail
    refine (kOf_any _ _).mono ?_
    rintro e w' ⟨rfl, rfl⟩
    go_wp2_with fail
    refine HS.out.mono ?_
    rintro e w' ⟨rfl, rfl⟩
    go_wp2
    go_ret
    exact ⟨rfl, rfl⟩
theorem kStep_ask (h : KkAt w lb ab sb next n S) (hA : ArAt w ab wb A) (hne : lb ≠ ab ∧ lb ≠ wb ∧ sb ≠ ab ∧ sb ≠ wb) {j : Nat} (hj : j < n) (hq : S j 0 = 1) : Calls Tryz.prog 174 #[.pointer (some ⟨lb, 0, none⟩), .int .i64 j] w fun e w' => e = .returned (.bool false) ∧
    KkAt w' lb ab sb next n (spPut (spPut S j 1 (wrap64 (A.addRes next 1 - 1))) j 0 2) ∧ ArAt w' ab wb (A.add next 1) ∧ Frm [sb, ab, wb] w w' := by
  obtain ⟨n1, n2, n3, n4⟩ := hne
  have HS := Lib.hid (kspot_yes h hj)
  have hnx := h.nx
  have HN := Lib.hid (And.intro n1 (And.intro n2 (And.intro n3 n4)))
  have c0 := h.pc0 hj
  rw [hq] at c0
  have hne : Nonempty (HW (fun wx => Frm [sb, ab, wb] w wx)) := ⟨⟨w, Frm.refl _ _⟩⟩
  have hz0 : ∀ q : HW (fun wx => Frm [sb, ab, wb] w wx), q.w.cell? ⟨lb, 1, none⟩ = some (.pointer (some ⟨ab, 0, none⟩)) := fun q => (h.box.frm q.h (by simp; have := h.ne; omega)).cell (i := 1) rfl
  have hz1 : ∀ q : HW (fun wx => Frm [sb, ab, wb] w wx), q.w.cell? ⟨lb, 2, none⟩ = some (.int .i64 next) := fun q => (h.box.frm q.h (by simp; have := h.ne; omega)).cell (i := 2) rfl
  have HAD := Lib.hid (Add_any (hA.frm (S := []) ((Frm.refl _ w).drew1) (by simp) (by simp)) next 1)
  have HK := Lib.hid h
  have HQ := Lib.hid hq
  clear h hA hq n1 n2 n3 n4
  generalize A.addRes next 1 = x at *
  go_enter Tryz.func174, Tryz.ntmps174
  go_wp2_with fail
  refine (kOf_any _ _).mono ?_
  rintro e w' ⟨rfl, rfl⟩
  go_wp2_with fail
  refine HS.out.mono ?_
  rintro e w' ⟨rfl, rfl⟩
  go_wp2_with fail
  refine held_begin (S := fun wx => Frm [sb, ab, wb] w wx) (by kernel_rfl) ?_
  refine held_row_at (fuel := 5) (is := [0, 1, 2, 3, 4, 5, 6, 7, 8]) (.cons rfl (.cons rfl (.cons rfl (.cons rfl (.cons rfl (.cons rfl (.cons rfl (.cons rfl (.cons rfl .nil))))))))) (by kernel_rfl) (fun _ _ _ _ _ h => h) rfl (by kernel_rfl) (Frm.refl _ _).drew1 ?_
  intro K hK
  repeat (go_big_quiet_step (fail))
  refine wpQuiet_nil (hK _ ?_)
  clear hK K
  refine held_call (fuel := 4) (i := 9) rfl (by kernel_rfl) ?_
  go_wp2_with fail
  refine HAD.out.mono ?_; rintro e w1 ⟨rfl, hA, hF⟩; have HA1 := Lib.hid hA; have HF1 := Lib.hid (((Frm.refl [ab, wb] w).drew1).trans hF); have hK1 := HK.out.frm HF1.out (by simp; have := HN.out; omega) (by simp; have := HN.out; omega); have k1 := hK1.pc hj 1 (by omega); have kz := hK1.row.frozen; have HK1 := Lib.hid hK1; clear hA hF hK1
  go_wp2_with fail
  refine onNormal_mk ⟨HF1.out.mono (by simp), ?_⟩
  refine held_row_at (fuel := 1) (is := [10, 11, 12]) (.cons rfl (.cons rfl (.cons rfl .nil))) (by kernel_rfl) (fun _ _ _ _ _ h => h) rfl (by kernel_rfl) (HF1.out.mono (by simp)) ?_
  intro K hK
  repeat (go_big_quiet_step (fail))
  refine wpQuiet_nil (hK _ ?_)
  clear hK K
  refine held_call (fuel := 0) (i := 13) rfl (by kernel_rfl) ?_
  go_wp2_with fail
  refine onNormal_mk ⟨(HF1.out.mono (S' := [sb, ab, wb]) (by simp)).set _ _ (.inl (by simp)), ?_⟩
  refine held_end (by kernel_rfl) ?_
  have hK2 := HK1.out.put j (t := 1) (by omega) (wrap64 (x - 1))
  have HF2 := Lib.hid ((HF1.out.mono (S' := [sb, ab, wb]) (by simp)).set ⟨sb, 4 * j + 1, none⟩ (.int .i64 (wrap64 (x - 1))) (.inl (by simp)))
  have HA2 := Lib.hid (HA1.out.frm ((Frm.refl [sb] w1).set ⟨sb, 4 * j + 1, none⟩ (.int .i64 (wrap64 (x - 1))) (.inl (by simp))) (by simp; have := HN.out; omega) (by simp; have := HN.out; omega))
  clear k1 kz HK1 hz0 hz1 hne
  generalize w1.setCell ⟨sb, 4 * j + 1, none⟩ (.int .i64 (wrap64 (x - 1))) = W2 at *
  have hpc : spPut S j 1 (wrap64 (x - 1)) j 0 = 1 := by unfold spPut; simp [HQ.out]
  have hok : kTurnOk n (spPut S j 1 (wrap64 (x - 1))) j 1 = true := by unfold kTurnOk sHas; rw [show ((j : Int)).toNat = j from by omega, hpc]; simp; omega
  have hT := kturn_any hK2 j 1 2
  unfold kTurn at hT
  rw [hok, if_pos rfl, show ((j : Int)).toNat = j from by omega] at hT
  have HT := Lib.hid hT
  clear hT hok hpc hK2
  go_wp2_with fail
  refine HT.out.mono ?_
  rintro e w3 ⟨rfl, hK, hF⟩
  have HK3 := Lib.hid hK
  have HA3 := Lib.hid (HA2.out.frm hF (by simp; have := HN.out; omega) (by simp; have := HN.out; omega))
  have HF3 := Lib.hid (HF2.out.trans (hF.mono (by simp)))
  clear hK hF
  go_wp2
  go_ret
  exact ⟨rfl, HK3.out, HA3.out, HF3.out⟩
theorem kStep_hit (h : KkAt w lb ab sb next n S) (hA : ArAt w ab wb A) (hne : lb ≠ ab ∧ lb ≠ wb ∧ sb ≠ ab ∧ sb ≠ wb) {j : Nat} (hj : j < n) (hq : S j 0 = 2) (hg : A.get (next + 1) = S j 1) : Calls Tryz.prog 174 #[.pointer (some ⟨lb, 0, none⟩), .int .i64 j] w fun e w' => e = .returned (.bool true) ∧
    KkAt w' lb ab sb next n (spPut S j 0 10) ∧ ArAt w' ab wb (A.load (next + 1)) ∧ Frm [sb, ab, wb] w w' := by
  obtain ⟨n1, n2, n3, n4⟩ := hne
  have HS := Lib.hid (kspot_yes h hj)
  have hnx := h.nx
  have HN := Lib.hid (And.intro n1 (And.intro n2 (And.intro n3 n4)))
  have c0 := h.pc0 hj
  rw [hq] at c0
  have e1 : (A.get (next + 1) == S j 1) = true := by simpa using hg
  have z1 := h.pc hj 1 (by omega)
  have hga : A.get (next + 1) = S j 1 := hg
  have HL := Lib.hid (Load_any (hA.frm (S := []) ((Frm.refl _ w).drew1) (by simp) (by simp)) (next + 1))
  have HK := Lib.hid h
  have HQ := Lib.hid hq
  have b1 := h.box
  have HB := Lib.hid b1
  have hlne := h.ne
  clear h hA hq hg b1
  generalize haa : S j 1 = a at *
  have HAA := Lib.hid haa
  generalize A.get (next + 1) = x at *
  clear haa
  have HGA := Lib.hid hga
  clear hga
  have hne : Nonempty (HW (fun wx => Frm [sb, ab, wb] w wx ∧ wx.cell? ⟨sb, 4 * j + 1, none⟩ = some (.int .i64 a))) := ⟨⟨w, Frm.refl _ _, z1⟩⟩
  have hz0 : ∀ q : HW (fun wx => Frm [sb, ab, wb] w wx ∧ wx.cell? ⟨sb, 4 * j + 1, none⟩ = some (.int .i64 a)), q.w.cell? ⟨lb, 1, none⟩ = some (.pointer (some ⟨ab, 0, none⟩)) := fun q => (HB.out.frm q.h.1 (by simp; omega)).cell (i := 1) rfl
  have hz1 : ∀ q : HW (fun wx => Frm [sb, ab, wb] w wx ∧ wx.cell? ⟨sb, 4 * j + 1, none⟩ = some (.int .i64 a)), q.w.cell? ⟨lb, 2, none⟩ = some (.int .i64 next) := fun q => (HB.out.frm q.h.1 (by simp; omega)).cell (i := 2) rfl
  have hz2 : ∀ q : HW (fun wx => Frm [sb, ab, wb] w wx ∧ wx.cell? ⟨sb, 4 * j + 1, none⟩ = some (.int .i64 a)), q.w.cell? ⟨sb, 4 * j + 1, none⟩ = some (.int .i64 a) := fun q => q.h.2
  have Z1 := Lib.hid z1
  clear z1 n1 n2 n3 n4 hlne
  go_enter Tryz.func174, Tryz.ntmps174
  go_wp2_with fail
  refine (kOf_any _ _).mono ?_
  rintro e w' ⟨rfl, rfl⟩
  go_wp2_with fail
  refine HS.out.mono ?_
  rintro e w' ⟨rfl, rfl⟩
  go_wp2_with fail
  refine held_begin (S := fun wx => Frm [sb, ab, wb] w wx ∧ wx.cell? ⟨sb, 4 * j + 1, none⟩ = some (.int .i64 a)) (by kernel_rfl) ?_
  refine held_row_at (fuel := 10) (is := [0, 1, 2, 3, 4, 5, 6, 7, 8, 10, 11, 12, 13]) (.cons rfl (.cons rfl (.cons rfl (.cons rfl (.cons rfl (.cons rfl (.cons rfl (.cons rfl (.cons rfl (.cons rfl (.cons rfl (.cons rfl (.cons rfl .nil))))))))))))) (by kernel_rfl) (fun _ _ _ _ _ h => h) rfl (by kernel_rfl) ⟨(Frm.refl _ _).drew1, Z1.out⟩ ?_
  intro K hK
  repeat (go_big_quiet_step (fail))
  refine wpQuiet_nil (hK _ ?_)
  clear hK K
  refine held_call (fuel := 9) (i := 9) rfl (by kernel_rfl) ?_
  go_wp2_with fail
  refine HL.out.mono ?_; rintro e w1 ⟨rfl, hA, hF⟩; have HA1 := Lib.hid hA; have HF1 := Lib.hid (((Frm.refl [ab, wb] w).drew1).trans hF); have HK1 := Lib.hid (HK.out.frm HF1.out (by simp; have := HN.out; omega) (by simp; have := HN.out; omega)); clear hA hF
  go_wp2_with fail
  refine onNormal_mk ⟨⟨HF1.out.mono (by simp), by have := HK1.out.pc hj 1 (by omega); rwa [HAA.out] at this⟩, ?_⟩
  refine held_row_at (fuel := 3) (is := [14, 15, 16, 17, 18, 19]) (.cons rfl (.cons rfl (.cons rfl (.cons rfl (.cons rfl (.cons rfl .nil)))))) (by kernel_rfl) (fun _ _ _ _ _ h => h) rfl (by kernel_rfl) ⟨HF1.out.mono (by simp), by have := HK1.out.pc hj 1 (by omega); rwa [HAA.out] at this⟩ ?_
  intro K hK
  repeat (go_big_quiet_step (fail))
  refine wpQuiet_nil (hK _ ?_)
  clear hK K
  refine held_call (fuel := 2) (i := 20) rfl (by kernel_rfl) ?_
  go_wp2_with fail
  have hok : kTurnOk n S j 2 = true := by (unfold kTurnOk sHas; rw [show ((j : Int)).toNat = j from by omega, HQ.out]; simp; omega)
  have hT := kturn_any HK1.out j 2 10
  unfold kTurn at hT
  rw [hok, if_pos rfl, show ((j : Int)).toNat = j from by omega] at hT
  refine hT.mono ?_; rintro e w3 ⟨rfl, hK, hF⟩; have HK3 := Lib.hid hK; have HA3 := Lib.hid (HA1.out.frm hF (by simp; have := HN.out; omega) (by simp; have := HN.out; omega)); have HF3 := Lib.hid ((HF1.out.mono (S' := [sb, ab, wb]) (by simp)).trans (hF.mono (by simp))); clear hK hF hT hok
  go_wp2_with fail
  refine onNormal_mk ⟨⟨HF3.out, by have := HK3.out.pc hj 1 (by omega); rwa [put_field' S j (by omega), HAA.out] at this⟩, ?_⟩
  refine held_row_at (fuel := 0) (is := [21, 22]) (.cons rfl (.cons rfl .nil)) (by kernel_rfl) (fun _ _ _ _ _ h => h) rfl (by kernel_rfl) ⟨HF3.out, by have := HK3.out.pc hj 1 (by omega); rwa [put_field' S j (by omega), HAA.out] at this⟩ ?_
  intro K hK
  repeat (go_big_quiet_step (fail))
  refine wpQuiet_nil (hK _ ?_)
  clear hK K
  refine held_end (by kernel_rfl) ?_
  go_wp2
  go_ret
  exact ⟨rfl, HK3.out, HA3.out, HF3.out⟩
theorem kStep_miss (h : KkAt w lb ab sb next n S) (hA : ArAt w ab wb A) (hne : lb ≠ ab ∧ lb ≠ wb ∧ sb ≠ ab ∧ sb ≠ wb) {j : Nat} (hj : j < n) (hq : S j 0 = 2) (hg : ¬ A.get (next + 1) = S j 1) : Calls Tryz.prog 174 #[.pointer (some ⟨lb, 0, none⟩), .int .i64 j] w fun e w' => e = .returned (.bool false) ∧
    KkAt w' lb ab sb next n S ∧ ArAt w' ab wb (A.load (next + 1)) ∧ Frm [sb, ab, wb] w w' := by
  obtain ⟨n1, n2, n3, n4⟩ := hne
  have HS := Lib.hid (kspot_yes h hj)
  have hnx := h.nx
  have HN := Lib.hid (And.intro n1 (And.intro n2 (And.intro n3 n4)))
  have c0 := h.pc0 hj
  rw [hq] at c0
  have e1 : (A.get (next + 1) == S j 1) = false := by simpa using hg
  have z1 := h.pc hj 1 (by omega)
  have HL := Lib.hid (Load_any (hA.frm (S := []) ((Frm.refl _ w).drew1) (by simp) (by simp)) (next + 1))
  have HK := Lib.hid h
  have HQ := Lib.hid hq
  have b1 := h.box
  have HB := Lib.hid b1
  have hlne := h.ne
  clear h hA hq hg b1
  generalize haa : S j 1 = a at *
  have HAA := Lib.hid haa
  generalize A.get (next + 1) = x at *
  clear haa
  have hne : Nonempty (HW (fun wx => Frm [ab, wb] w wx)) := ⟨⟨w, Frm.refl _ _⟩⟩
  have hz0 : ∀ q : HW (fun wx => Frm [ab, wb] w wx), q.w.cell? ⟨lb, 1, none⟩ = some (.pointer (some ⟨ab, 0, none⟩)) := fun q => (HB.out.frm q.h (by simp; omega)).cell (i := 1) rfl
  have hz1 : ∀ q : HW (fun wx => Frm [ab, wb] w wx), q.w.cell? ⟨lb, 2, none⟩ = some (.int .i64 next) := fun q => (HB.out.frm q.h (by simp; omega)).cell (i := 2) rfl
  have hz2 : ∀ q : HW (fun wx => Frm [ab, wb] w wx), q.w.cell? ⟨sb, 4 * j + 1, none⟩ = some (.int .i64 a) := fun q => by have := (HK.out.frm q.h (by simp; omega) (by simp; omega)).pc hj 1 (by omega); rwa [HAA.out] at this
  have Z1 := Lib.hid z1
  clear z1 n1 n2 n3 n4 hlne
  go_enter Tryz.func174, Tryz.ntmps174
  go_wp2_with fail
  refine (kOf_any _ _).mono ?_
  rintro e w' ⟨rfl, rfl⟩
  go_wp2_with fail
  refine HS.out.mono ?_
  rintro e w' ⟨rfl, rfl⟩
  go_wp2_with fail
  refine held_begin (S := fun wx => Frm [ab, wb] w wx) (by kernel_rfl) ?_
  refine held_row_at (fuel := 10) (is := [0, 1, 2, 3, 4, 5, 6, 7, 8, 10, 11, 12, 13]) (.cons rfl (.cons rfl (.cons rfl (.cons rfl (.cons rfl (.cons rfl (.cons rfl (.cons rfl (.cons rfl (.cons rfl (.cons rfl (.cons rfl (.cons rfl .nil))))))))))))) (by kernel_rfl) (fun _ _ _ _ _ h => h) rfl (by kernel_rfl) (Frm.refl _ _).drew1 ?_
  intro K hK
  repeat (go_big_quiet_step (fail))
  refine wpQuiet_nil (hK _ ?_)
  clear hK K
  refine held_call (fuel := 9) (i := 9) rfl (by kernel_rfl) ?_
  go_wp2_with fail
  refine HL.out.mono ?_; rintro e w1 ⟨rfl, hA, hF⟩; have HA1 := Lib.hid hA; have HF1 := Lib.hid (((Frm.refl [ab, wb] w).drew1).trans hF); have HK1 := Lib.hid (HK.out.frm HF1.out (by simp; have := HN.out; omega) (by simp; have := HN.out; omega)); clear hA hF
  go_wp2_with fail
  refine onNormal_mk ⟨HF1.out, ?_⟩
  refine held_row_at (fuel := 3) (is := [14, 15, 16, 17, 18, 19]) (.cons rfl (.cons rfl (.cons rfl (.cons rfl (.cons rfl (.cons rfl .nil)))))) (by kernel_rfl) (fun _ _ _ _ _ h => h) rfl (by kernel_rfl) HF1.out ?_
  intro K hK
  repeat (go_big_quiet_step (fail))
  refine wpQuiet_nil (hK _ ?_)
  clear hK K
  refine held_call (fuel := 2) (i := 20) rfl (by kernel_rfl) ?_
  go_wp2_with fail
  refine onNormal_mk ⟨HF1.out, ?_⟩
  refine held_row_at (fuel := 0) (is := [21, 22]) (.cons rfl (.cons rfl .nil)) (by kernel_rfl) (fun _ _ _ _ _ h => h) rfl (by kernel_rfl) HF1.out ?_
  intro K hK
  repeat (go_big_quiet_step (fail))
  refine wpQuiet_nil (hK _ ?_)
  clear hK K
  refine held_end (by kernel_rfl) ?_
  go_wp2
  go_ret
  exact ⟨rfl, HK1.out, HA1.out, HF1.out.mono (by simp)⟩
theorem kStep_free (h : KkAt w lb ab sb next n S) (hA : ArAt w ab wb A) (hne : lb ≠ ab ∧ lb ≠ wb ∧ sb ≠ ab ∧ sb ≠ wb) {j : Nat} (hj : j < n) (hq : S j 0 = 11) : Calls Tryz.prog 174 #[.pointer (some ⟨lb, 0, none⟩), .int .i64 j] w fun e w' => e = .returned (.bool true) ∧
    KkAt w' lb ab sb next n (spPut S j 0 0) ∧ ArAt w' ab wb (A.store (next + 1) (wrap64 (S j 1 + 1))) ∧ Frm [sb, ab, wb] w w' := by
  obtain ⟨n1, n2, n3, n4⟩ := hne
  have HS := Lib.hid (kspot_yes h hj)
  have hnx := h.nx
  have HN := Lib.hid (And.intro n1 (And.intro n2 (And.intro n3 n4)))
  have c0 := h.pc0 hj
  rw [hq] at c0
  have hne : Nonempty (HW (fun wx => Frm [ab, wb] w wx)) := ⟨⟨w, Frm.refl _ _⟩⟩
  have hz0 : ∀ q : HW (fun wx => Frm [ab, wb] w wx), q.w.cell? ⟨lb, 1, none⟩ = some (.pointer (some ⟨ab, 0, none⟩)) := fun q => (h.box.frm q.h (by simp; omega)).cell (i := 1) rfl
  have hz1 : ∀ q : HW (fun wx => Frm [ab, wb] w wx), q.w.cell? ⟨lb, 2, none⟩ = some (.int .i64 next) := fun q => (h.box.frm q.h (by simp; omega)).cell (i := 2) rfl
  have hz2 : ∀ q : HW (fun wx => Frm [ab, wb] w wx), q.w.cell? ⟨sb, 4 * j + 1, none⟩ = some (.int .i64 (S j 1)) := fun q => (h.frm q.h (by simp; omega) (by simp; omega)).pc hj 1 (by omega)
  have HL := Lib.hid (Store_any (hA.frm (S := []) ((Frm.refl _ w).drew1) (by simp) (by simp)) (next + 1) (wrap64 (S j 1 + 1)))
  have HK := Lib.hid h
  have HQ := Lib.hid hq
  clear h hA hq n1 n2 n3 n4
  generalize S j 1 = a at *
  go_enter Tryz.func174, Tryz.ntmps174
  go_wp2_with fail
  refine (kOf_any _ _).mono ?_
  rintro e w' ⟨rfl, rfl⟩
  go_wp2_with fail
  refine HS.out.mono ?_
  rintro e w' ⟨rfl, rfl⟩
  go_wp2_with fail
  refine held_begin (S := fun wx => Frm [ab, wb] w wx) (by kernel_rfl) ?_
  refine held_row_at (fuel := 1) (is := [0, 1, 2, 3, 4, 5, 6, 7, 8, 9, 10, 11, 12, 13]) (.cons rfl (.cons rfl (.cons rfl (.cons rfl (.cons rfl (.cons rfl (.cons rfl (.cons rfl (.cons rfl (.cons rfl (.cons rfl (.cons rfl (.cons rfl (.cons rfl .nil)))))))))))))) (by kernel_rfl) (fun _ _ _ _ _ h => h) rfl (by kernel_rfl) (Frm.refl _ _).drew1 ?_
  intro K hK
  repeat (go_big_quiet_step (fail))
  refine wpQuiet_nil (hK _ ?_)
  clear hK K
  refine held_call (fuel := 0) (i := 14) rfl (by kernel_rfl) ?_
  go_wp2_with fail
  refine HL.out.mono ?_; rintro e w1 ⟨rfl, hA, hF⟩; have HA1 := Lib.hid hA; have HF1 := Lib.hid (((Frm.refl [ab, wb] w).drew1).trans hF); have HK1 := Lib.hid (HK.out.frm HF1.out (by simp; have := HN.out; omega) (by simp; have := HN.out; omega)); clear hA hF
  go_wp2_with fail
  refine onNormal_mk ⟨HF1.out, ?_⟩
  refine held_end (by kernel_rfl) ?_
  have hok : kTurnOk n S j 11 = true := by unfold kTurnOk sHas; rw [show ((j : Int)).toNat = j from by omega, HQ.out]; simp; omega
  have hT := kturn_any HK1.out j 11 0
  unfold kTurn at hT
  rw [hok, if_pos rfl, show ((j : Int)).toNat = j from by omega] at hT
  have HT := Lib.hid hT
  clear hT hok hz0 hz1 hz2 hne
  go_wp2_with fail
  refine HT.out.mono ?_
  rintro e w3 ⟨rfl, hK, hF⟩
  have HK3 := Lib.hid hK
  have HA3 := Lib.hid (HA1.out.frm hF (by simp; have := HN.out; omega) (by simp; have := HN.out; omega))
  have HF3 := Lib.hid ((HF1.out.mono (S' := [sb, ab, wb]) (by simp)).trans (hF.mono (by simp)))
  clear hK hF
  go_wp2
  go_ret
  exact ⟨rfl, HK3.out, HA3.out, HF3.out⟩

theorem kStep_any (h : KkAt w lb ab sb next n S) (hA : ArAt w ab wb A) (hne : lb ≠ ab ∧ lb ≠ wb ∧ sb ≠ ab ∧ sb ≠ wb) (i : Int) : Calls Tryz.prog 174 #[.pointer (some ⟨lb, 0, none⟩), .int .i64 i] w fun e w' => e = .returned (.bool (kStepR n next S A i)) ∧
    KkAt w' lb ab sb next n (kStepS n next S A i) ∧ ArAt w' ab wb (kStepA n next S A i) ∧ Frm [sb, ab, wb] w w' := by
  have hne' := hne
  obtain ⟨n1, n2, n3, n4⟩ := hne
  cases hi : sHas n i with
  | false =>
    refine (kStep_idle h i (.inl hi)).mono fun e w' ⟨g1, g2⟩ => ?_
    subst g1 g2
    exact ⟨by unfold kStepR; rw [hi]; rfl, by unfold kStepS; rw [hi]; exact h, by unfold kStepA; rw [hi]; exact hA, Frm.refl _ _⟩
  | true =>
    have hi' : 0 ≤ i ∧ i < (n : Int) := by unfold sHas at hi; simpa using hi
    obtain ⟨j, rfl⟩ := Int.eq_ofNat_of_zero_le hi'.1
    have hj : j < n := by omega
    have ej : ((j : Int)).toNat = j := by omega
    unfold kStepR kStepS kStepA
    rw [hi, ej]
    simp only [Bool.true_and, if_true]
    by_cases q1 : S j 0 = 1
    · have q2 : ¬ S j 0 = 2 := by omega
      have q3 : ¬ S j 0 = 11 := by omega
      simp only [if_pos q1, if_neg q2, decide_eq_false q3]
      exact kStep_ask h hA hne' hj q1
    · simp only [if_neg q1]
      by_cases q2 : S j 0 = 2
      · simp only [if_pos q2]
        by_cases hg : A.get (next + 1) = S j 1
        · simp only [if_pos hg, decide_eq_true hg]
          exact kStep_hit h hA hne' hj q2 hg
        · simp only [if_neg hg, decide_eq_false hg]
          exact kStep_miss h hA hne' hj q2 hg
      · simp only [if_neg q2]
        by_cases q3 : S j 0 = 11
        · simp only [if_pos q3, decide_eq_true q3]
          exact kStep_free h hA hne' hj q3
        · simp only [if_neg q3, decide_eq_false q3]
          refine (kStep_idle h j (.inr ?_)).mono fun e w' ⟨g1, g2⟩ => ?_
          · rw [ej]; exact ⟨q1, q2, q3⟩
          · subst g1 g2
            exact ⟨rfl, h, hA, Frm.refl _ _⟩
end
end Go.Proofs.YteijjhahgabalaaGreat

/- What the steps of parted and clh do, as functions of the spots and the words: definitions. -/
namespace Go.Proofs.YteijjhahgabalaaGreat
open Go.RowKit

/-- where a ticket is served -/
def pPlace (next parts : Nat) (t : Int) : Int := wrap64 (wrap64 ((next : Int) + 1) + t.tmod parts)
def pStepR (n next parts : Nat) (S : Nat → Nat → Int) (A : AR) (i : Int) : Bool := sHas n i && (if S i.toNat 0 = 2 then decide (A.get (pPlace next parts (S i.toNat 1)) = wrap64 (S i.toNat 1 + 1)) else decide (S i.toNat 0 = 11))
def pStepS (n next parts : Nat) (S : Nat → Nat → Int) (A : AR) (i : Int) : Nat → Nat → Int :=
  if sHas n i then
    (if S i.toNat 0 = 1 then spPut (spPut S i.toNat 1 (wrap64 (A.addRes next 1 - 1))) i.toNat 0 2
     else if S i.toNat 0 = 2 then (if A.get (pPlace next parts (S i.toNat 1)) = wrap64 (S i.toNat 1 + 1) then spPut S i.toNat 0 10 else S)
     else if S i.toNat 0 = 11 then spPut S i.toNat 0 0 else S)
  else S
def pStepA (n next parts : Nat) (S : Nat → Nat → Int) (A : AR) (i : Int) : AR :=
  if sHas n i then (if S i.toNat 0 = 1 then A.add next 1 else if S i.toNat 0 = 2 then A.load (pPlace next parts (S i.toNat 1)) else if S i.toNat 0 = 11 then A.store (pPlace next parts (wrap64 (S i.toNat 1 + 1))) (wrap64 (S i.toNat 1 + 2)) else A) else A

/-- a box of clh -/
def hBox (tail : Nat) (x : Int) : Int := wrap64 ((tail : Int) + x)
def hStepR (n tail : Nat) (S : Nat → Nat → Int) (A : AR) (i : Int) : Bool := sHas n i && (if S i.toNat 0 = 3 then decide (A.get (hBox tail (S i.toNat 2)) = 0) else decide (S i.toNat 0 = 11))
def hStepS (n tail : Nat) (S : Nat → Nat → Int) (A : AR) (i : Int) : Nat → Nat → Int :=
  if sHas n i then
    (if S i.toNat 0 = 1 then spPut S i.toNat 0 2
     else if S i.toNat 0 = 2 then spPut (spPut S i.toNat 2 (A.get tail)) i.toNat 0 3
     else if S i.toNat 0 = 3 then (if A.get (hBox tail (S i.toNat 2)) = 0 then spPut S i.toNat 0 10 else S)
     else if S i.toNat 0 = 11 then spPut (spPut S i.toNat 1 (S i.toNat 2)) i.toNat 0 0 else S)
  else S
def hStepA (n tail : Nat) (S : Nat → Nat → Int) (A : AR) (i : Int) : AR :=
  if sHas n i then (if S i.toNat 0 = 1 then A.store (hBox tail (S i.toNat 1)) 1 else if S i.toNat 0 = 2 then A.swap tail (S i.toNat 1) else if S i.toNat 0 = 3 then A.load (hBox tail (S i.toNat 2)) else if S i.toNat 0 = 11 then A.store (hBox tail (S i.toNat 1)) 0 else A) else A
def hAlR (n tail : Nat) (S : Nat → Nat → Int) (A : AR) (i : Int) : Bool := kTurnOk n S i 10 && decide (A.get tail = S i.toNat 1)
def hAlA (n tail : Nat) (S : Nat → Nat → Int) (A : AR) (i : Int) : AR := if kTurnOk n S i 10 then A.load tail else A
/-- whether nobody is seen behind a slot of mcs that holds -/
def cNextW (tail : Nat) (y : Int) : Int := wrap64 (wrap64 ((tail : Int) + wrap64 (2 * y)) - 1)

/-- how a step of slot j turns what the slots are at, and what it tells -/
structure StepOk (S S' : Nat → Nat → Int) (j : Nat) (R : Bool) : Prop where
  others : ∀ k, k ≠ j → S' k 0 = S k 0
  coming : 1 ≤ S j 0 → S j 0 < 10 → 1 ≤ S' j 0 ∧ S' j 0 ≤ 10 ∧ (R = true ↔ S' j 0 = 10)
  going : 10 < S j 0 → (S' j 0 = 0 ∨ 10 < S' j 0) ∧ (R = true ↔ S' j 0 = 0)
  idle : S j 0 = 0 ∨ S j 0 = 10 → S' j 0 = S j 0 ∧ R = false
theorem spat (S : Nat → Nat → Int) (j t : Nat) (v : Int) (i u : Nat) : spPut S j t v i u = if i = j ∧ u = t then v else S i u := rfl
theorem sHas_nat {n j : Nat} (hj : j < n) : sHas n (j : Int) = true := by unfold sHas; simp; omega

/-! ### tickets -/
/-- tickets from V on are out, up to N; the one of number V is let in -/
structure TK (n : Nat) (S : Nat → Nat → Int) (V N : Int) : Prop where
  v0 : 0 ≤ V
  vn : V ≤ N
  pcs : ∀ j, j < n → S j 0 = 0 ∨ S j 0 = 1 ∨ S j 0 = 2 ∨ S j 0 = 10 ∨ S j 0 = 11
  rng : ∀ j, j < n → 2 ≤ S j 0 → V ≤ S j 1 ∧ S j 1 < N
  top : ∀ j, j < n → 10 ≤ S j 0 → S j 1 = V
  inj : ∀ j k, j < n → k < n → 2 ≤ S j 0 → 2 ≤ S k 0 → S j 1 = S k 1 → j = k
section
variable {n : Nat} {S : Nat → Nat → Int} {V N : Int}
theorem TK.zero (n : Nat) : TK n (fun _ _ => 0) 0 0 := ⟨by omega, by omega, fun _ _ => .inl rfl, fun _ _ h => by simp at h, fun _ _ h => by simp at h, fun _ _ _ _ h => by simp at h⟩
theorem TK.one (h : TK n S V N) {j k : Nat} (hj : j < n) (hk : k < n) (h1 : 10 ≤ S j 0) (h2 : 10 ≤ S k 0) : j = k :=
  h.inj j k hj hk (by omega) (by omega) (by rw [h.top j hj h1, h.top k hk h2])
theorem TK.draw (h : TK n S V N) {j : Nat} (hj : j < n) (h0 : S j 0 = 1) : TK n (spPut (spPut S j 1 N) j 0 2) V (N + 1) := by
  have hs : ∀ k, k ≠ j → ∀ t, spPut (spPut S j 1 N) j 0 2 k t = S k t := fun k hk t => by rw [spat, spat, if_neg (by simp [hk]), if_neg (by simp [hk])]
  have e0 : spPut (spPut S j 1 N) j 0 2 j 0 = 2 := by rw [spat, if_pos (by simp)]
  have e1 : spPut (spPut S j 1 N) j 0 2 j 1 = N := by rw [spat, if_neg (by simp), spat, if_pos (by simp)]
  generalize spPut (spPut S j 1 N) j 0 2 = T at *
  have hv := h.vn
  refine { v0 := h.v0, vn := by omega, pcs := fun k hk => ?_, rng := fun k hk hc => ?_, top := fun k hk hc => ?_, inj := fun a b ha hb h1 h2 he => ?_ }
  · by_cases e : k = j
    · subst e; omega
    · rw [hs k e]; exact h.pcs k hk
  · by_cases e : k = j
    · subst e; omega
    · rw [hs k e] at hc; rw [hs k e]; have := h.rng k hk hc; omega
  · by_cases e : k = j
    · subst e; omega
    · rw [hs k e] at hc; rw [hs k e]; exact h.top k hk hc
  · by_cases ea : a = j
    · by_cases eb : b = j
      · omega
      · subst ea; rw [hs b eb] at h2 he; have := h.rng b hb h2; omega
    · by_cases eb : b = j
      · subst eb; rw [hs a ea] at h1 he; have := h.rng a ha h1; omega
      · rw [hs a ea] at h1 he; rw [hs b eb] at h2 he; exact h.inj a b ha hb h1 h2 he
/-- only what a slot is at turns, and it has its ticket both ahead and behind -/
theorem TK.turn (h : TK n S V N) {j : Nat} (_hj : j < n) {pc : Int} (hp : pc = 0 ∨ pc = 1 ∨ pc = 2 ∨ pc = 10 ∨ pc = 11) (h2 : 2 ≤ pc → 2 ≤ S j 0) (h3 : 10 ≤ pc → S j 1 = V) : TK n (spPut S j 0 pc) V N := by
  have hs : ∀ k, k ≠ j → ∀ t, spPut S j 0 pc k t = S k t := fun k hk t => by rw [spat, if_neg (by simp [hk])]
  have e0 : spPut S j 0 pc j 0 = pc := by rw [spat, if_pos (by simp)]
  have e1 : ∀ k, spPut S j 0 pc k 1 = S k 1 := fun k => by rw [spat, if_neg (by simp)]
  generalize spPut S j 0 pc = T at *
  have hup : ∀ k, 2 ≤ T k 0 → 2 ≤ S k 0 := fun k hc => by
    by_cases e : k = j
    · subst e; exact h2 (by omega)
    · rw [hs k e] at hc; exact hc
  refine { v0 := h.v0, vn := h.vn, pcs := fun k hk => ?_, rng := fun k hk hc => ?_, top := fun k hk hc => ?_, inj := fun a b ha hb g1 g2 he => ?_ }
  · by_cases e : k = j
    · subst e; omega
    · rw [hs k e]; exact h.pcs k hk
  · rw [e1]; exact h.rng k hk (hup k hc)
  · rw [e1]
    by_cases e : k = j
    · subst e; exact h3 (by omega)
    · rw [hs k e] at hc; exact h.top k hk hc
  · rw [e1, e1] at he; exact h.inj a b ha hb (hup a g1) (hup b g2) he
theorem TK.free (h : TK n S V N) {j : Nat} (hj : j < n) (h0 : 10 ≤ S j 0) : TK n (spPut S j 0 0) (V + 1) N ∧ V < N := by
  have hs : ∀ k, k ≠ j → ∀ t, spPut S j 0 0 k t = S k t := fun k hk t => by rw [spat, if_neg (by simp [hk])]
  have e0 : spPut S j 0 0 j 0 = 0 := by rw [spat, if_pos (by simp)]
  have hr := h.rng j hj (by omega)
  have ht := h.top j hj h0
  have h0' := h.v0
  generalize spPut S j 0 0 = T at *
  refine ⟨{ v0 := by omega, vn := by omega, pcs := fun k hk => ?_, rng := fun k hk hc => ?_, top := fun k hk hc => ?_, inj := fun a b ha hb g1 g2 he => ?_ }, by omega⟩
  · by_cases e : k = j
    · subst e; omega
    · rw [hs k e]; exact h.pcs k hk
  · have e : k ≠ j := fun e => by subst e; omega
    rw [hs k e] at hc; rw [hs k e]
    have h1 := h.rng k hk hc
    have : S k 1 ≠ V := fun e' => e (h.inj k j hk hj hc (by omega) (by omega))
    omega
  · have e : k ≠ j := fun e => by subst e; omega
    rw [hs k e] at hc
    exact absurd (h.one hk hj hc h0) e
  · have ea : a ≠ j := fun e => by subst e; omega
    have eb : b ≠ j := fun e => by subst e; omega
    rw [hs a ea] at g1 he; rw [hs b eb] at g2 he
    exact h.inj a b ha hb g1 g2 he
end
/-- a ticket lock from word b on -/
structure KI (b n : Nat) (S : Nat → Nat → Int) (A : AR) : Prop where
  tk : TK n S (A.get ((b : Int) + 1)) (A.get b)
  no : A.get b ≤ A.ops
section
variable {b n : Nat} {S : Nat → Nat → Int} {A B : AR}
theorem KI.frame (h : KI b n S A) (hg : ∀ i : Int, (b : Int) ≤ i → i < (b : Int) + 2 → B.get i = A.get i) (ho : A.ops ≤ B.ops) : KI b n S B :=
  ⟨by rw [hg _ (by omega) (by omega), hg _ (by omega) (by omega)]; exact h.tk, by rw [hg _ (by omega) (by omega)]; have := h.no; omega⟩
theorem KI.step (h : KI b n S A) (hf : A.Fit) (hl : A.ops < 1000000000) (hb : 1 ≤ b) (hr : b + 2 ≤ A.taken + 1) {j : Nat} (hj : j < n) :
    KI b n (kStepS n b S A j) (kStepA n b S A j) ∧ Op1 b 2 A (kStepA n b S A j) ∧ (S j 0 = 1 → (kStepA n b S A j).ops = A.ops + 1) ∧ StepOk S (kStepS n b S A j) j (kStepR n b S A j) := by
  have i0 : A.has b = true := has_iff.2 (by omega)
  have i1 : A.has ((b : Int) + 1) = true := has_iff.2 (by omega)
  have hv := h.tk.v0; have hvn := h.tk.vn; have hno := h.no; have ht := hf.2.1
  have hrm : A.addRes b 1 = A.get b + 1 := by unfold AR.addRes; rw [if_pos i0]; exact wr_id (by omega)
  unfold kStepS kStepA kStepR
  rw [sHas_nat hj]
  simp only [if_true, Bool.true_and, Int.toNat_natCast]
  rcases h.tk.pcs j hj with q | q | q | q | q
  · simp only [q, Int.reduceEq, if_true, if_false, decide_true, decide_false]
    exact ⟨h, Op1.refl _ _ _, by simp, ⟨fun _ _ => rfl, by simp [q], by simp [q], by simp [q]⟩⟩
  · simp only [q, Int.reduceEq, if_true, if_false, decide_true, decide_false]
    obtain ⟨o1, o2⟩ := op_add (b := b) (m := 2) (d := 1) hf i0 (by omega) (by omega)
    have g := fun k => get_add (A := A) (i := b) (d := 1) (j := k) hf.1 i0
    have e : wrap64 (A.addRes b 1 - 1) = A.get b := by rw [hrm]; exact (wr_id (by omega)).trans (by omega)
    rw [e]
    refine ⟨⟨?_, ?_⟩, o1, fun _ => o2, ⟨fun k hk => ?_, ?_, ?_, ?_⟩⟩
    · rw [g, g, if_neg (by omega), if_pos rfl, wr_id (by omega)]; exact h.tk.draw hj q
    · rw [g, if_pos rfl, wr_id (by omega), o2]; omega
    · rw [spat, if_neg (by simp [hk]), spat, if_neg (by simp [hk])]
    · intro _ _; rw [spat, if_pos (by simp)]; simp
    · omega
    · omega
  · obtain ⟨o1, o2⟩ := op_load (b := b) (m := 2) hf i1 (by omega) (by omega)
    have hk : ∀ T : Nat → Nat → Int, TK n T (A.get ((b : Int) + 1)) (A.get b) → KI b n T (A.load ((b : Int) + 1)) := fun T hT => ⟨by rw [get_load, get_load]; exact hT, by rw [get_load, o2]; omega⟩
    simp only [q, Int.reduceEq, if_true, if_false, decide_true, decide_false]
    by_cases c : A.get ((b : Int) + 1) = S j 1
    · simp only [c, if_true, decide_true]
      refine ⟨hk _ (h.tk.turn hj (by omega) (by omega) (by omega)), o1, by omega, ⟨fun k hk => ?_, ?_, ?_, ?_⟩⟩
      · rw [spat, if_neg (by simp [hk])]
      · intro _ _; rw [spat, if_pos (by simp)]; simp
      · omega
      · omega
    · simp only [c, if_true, if_false, decide_false]
      exact ⟨hk _ h.tk, o1, by simp, ⟨fun _ _ => rfl, by simp [q], by simp [q], by simp [q]⟩⟩
  · simp only [q, Int.reduceEq, if_true, if_false, decide_true, decide_false]
    exact ⟨h, Op1.refl _ _ _, by simp, ⟨fun _ _ => rfl, by simp [q], by simp [q], by simp [q]⟩⟩
  · have hj1 : S j 1 = A.get ((b : Int) + 1) := h.tk.top j hj (by omega)
    obtain ⟨hfr, hlt⟩ := h.tk.free hj (by omega)
    obtain ⟨o1, o2⟩ := op_store (b := b) (m := 2) (v := wrap64 (S j 1 + 1)) hf i1 (by omega) (by omega)
    have g := fun k => get_store (A := A) (i := (b : Int) + 1) (v := wrap64 (S j 1 + 1)) (j := k) hf.1 i1
    simp only [q, Int.reduceEq, if_true, if_false, decide_true, decide_false]
    refine ⟨⟨?_, ?_⟩, o1, by simp, ⟨fun k hk => ?_, ?_, ?_, ?_⟩⟩
    · rw [g, g, if_pos rfl, if_neg (by omega), hj1, wr_id (by omega)]; exact hfr
    · rw [g, if_neg (by omega), o2]; omega
    · rw [spat, if_neg (by simp [hk])]
    · omega
    · intro _; rw [spat, if_pos (by simp)]; simp
    · omega
end
end Go.Proofs.YteijjhahgabalaaGreat

/- The contracts of package mcs: Slots, spot, Spot, turn, Ask, Leave. (Printed by gen_row.py.) -/
namespace Go.Proofs.YteijjhahgabalaaGreat
open Go.RowKit

section
variable {w w' : World} {lb sb ab wb tail n : Nat} {A A' : AR} {S : Nat → Nat → Int}
theorem cSlots_any (h : McAt w lb sb ab wb tail n A S) : Calls Tryz.prog 197 #[.pointer (some ⟨lb, 0, none⟩)] w fun e w' => e = .returned (.int .i64 n) ∧ w = w' := by
  have c2 := h.box.cell (i := 2) rfl
  clear h
  go_enter Tryz.func197, Tryz.ntmps197
  go_wp2
  go_ret
  exact ⟨rfl, rfl⟩
theorem cspot_no (h : McAt w lb sb ab wb tail n A S) {i : Int} (hi : sHas n i = false) : Calls Tryz.prog 201 #[.pointer (some ⟨lb, 0, none⟩), .int .i64 i] w fun e w' => e = .returned (.pointer none) ∧ w = w' := by
  have HS := Lib.hid (cSlots_any h)
  clear h
  by_cases hneg : i < 0
  · have d1 : decide (i < 0) = true := by simpa using hneg
    clear hi
    go_enter Tryz.func201, Tryz.ntmps201
    go_wp2
    go_ret
    exact ⟨rfl, rfl⟩
  · have d1 : decide (i < 0) = false := by simpa using hneg
    have d2 : decide ((n : Int) ≤ i) = true := by unfold sHas at hi; simp at hi; simp; omega
    clear hi
    go_enter Tryz.func201, Tryz.ntmps201
    go_wp2_with fail
    refine HS.out.mono ?_
    rintro e w' ⟨rfl, rfl⟩
    go_wp2
    go_ret
    exact ⟨rfl, rfl⟩
theorem cspot_yes (h : McAt w lb sb ab wb tail n A S) {i : Nat} (hi : i < n) : Calls Tryz.prog 201 #[.pointer (some ⟨lb, 0, none⟩), .int .i64 i] w fun e w' => e = .returned (.pointer (some ⟨sb, i * 4, none⟩)) ∧ w = w' := by
  have HS := Lib.hid (cSlots_any h)
  have c2 := h.box.cell (i := 2) rfl
  have hn := h.n32
  clear h
  have d1 : decide ((i : Int) < 0) = false := by simp
  have d2 : decide ((n : Int) ≤ i) = false := by simp; omega
  have d3 : decide (n ≤ i) = false := by simp; omega
  have l1 : (i : Int) < n := by omega
  go_enter Tryz.func201, Tryz.ntmps201
  go_wp2_with fail
  refine HS.out.mono ?_
  rintro e w' ⟨rfl, rfl⟩
  go_wp2
  go_ret
  exact ⟨rfl, rfl⟩
theorem cSpot_any (h : McAt w lb sb ab wb tail n A S) (i : Int) : Calls Tryz.prog 198 #[.pointer (some ⟨lb, 0, none⟩), .int .i64 i] w fun e w' => e = .returned (spV n S i) ∧ Frm [] w w' := by
  cases hi : sHas n i with
  | false =>
    have HS := Lib.hid (fun (W : World) (hf : Frm [] w W) => cspot_no (h.frm hf (by simp)) hi)
    have hr : spV n S i = .agg #[.int .i64 0, .int .i64 0, .int .i64 0, .int .i64 0] := by unfold spV; rw [hi]; rfl
    rw [hr]
    clear h hr hi
    go_enter Tryz.func198, Tryz.ntmps198
    go_wp2_with fail
    refine (HS.out _ ((Frm.refl _ _).alloc _)).mono ?_
    rintro e w' ⟨rfl, rfl⟩
    go_wp2_with fail
    exact bodyPost_ret (v := .agg #[.int .i64 0, .int .i64 0, .int .i64 0, .int .i64 0]) (by simp [results, Tryz.results198, go_sem]) rfl ⟨rfl, (Frm.refl _ _).alloc _⟩
  | true =>
    have hi' : 0 ≤ i ∧ i < (n : Int) := by unfold sHas at hi; simpa using hi
    obtain ⟨j, rfl⟩ := Int.eq_ofNat_of_zero_le hi'.1
    have hj : j < n := by omega
    have HS := Lib.hid (fun (W : World) (hf : Frm [] w W) => cspot_yes (h.frm hf (by simp)) hj)
    have hr : spV n S j = .agg #[.int .i64 (S j 0), .int .i64 (S j 1), .int .i64 (S j 2), .int .i64 (S j 3)] := by unfold spV; rw [hi]; rfl
    rw [hr]
    have hkk : ∀ wx, Frm [] w wx → wx.cell? ⟨sb, j * 4, none⟩ = some (.int .i64 (S j 0)) ∧ wx.cell? ⟨sb, j * 4 + 1, none⟩ = some (.int .i64 (S j 1)) ∧ wx.cell? ⟨sb, j * 4 + 2, none⟩ = some (.int .i64 (S j 2)) ∧ wx.cell? ⟨sb, j * 4 + 3, none⟩ = some (.int .i64 (S j 3)) := fun wx hf =>
      ⟨(h.frm hf (by simp)).p0 hj, (h.frm hf (by simp)).p hj (by omega), (h.frm hf (by simp)).p hj (by omega), (h.frm hf (by simp)).p hj (by omega)⟩
    have KK := Lib.hid hkk
    clear h hr hi hkk hi'
    go_enter Tryz.func198, Tryz.ntmps198
    go_wp2_with fail
    refine (HS.out _ ((Frm.refl _ _).alloc _)).mono ?_
    rintro e w' ⟨rfl, rfl⟩
    obtain ⟨c0, c1, c2, c3⟩ := KK.out _ ((Frm.refl [] w).alloc (.cells #[.int .i64 0, .int .i64 0, .int .i64 0, .int .i64 0] 138))
    go_wp2_with fail
    refine bodyPost_ret (v := .agg #[.int .i64 (S j 0), .int .i64 (S j 1), .int .i64 (S j 2), .int .i64 (S j 3)]) (by simp [results, Tryz.results198, go_sem]) rfl ⟨rfl, ?_⟩
    exact (Frm.refl _ _).alloc _
theorem cturn_any (h : McAt w lb sb ab wb tail n A S) (i pc nw : Int) : Calls Tryz.prog 200 #[.pointer (some ⟨lb, 0, none⟩), .int .i64 i, .int .i64 pc, .int .i64 nw] w fun e w' => e = .returned (.bool (kTurnOk n S i pc)) ∧ McAt w' lb sb ab wb tail n A (kTurn n S i pc nw) ∧ Frm [sb] w w' := by
  have H := Lib.hid h
  cases hi : sHas n i with
  | false =>
    have hq : kTurnOk n S i pc = false := by unfold kTurnOk; rw [hi]; rfl
    have hr : kTurn n S i pc nw = S := by unfold kTurn; rw [hq]; rfl
    have HS := Lib.hid (cspot_no h hi)
    rw [hr, hq]
    clear h hq hr hi
    go_enter Tryz.func200, Tryz.ntmps200
    go_wp2_with fail
    refine HS.out.mono ?_
    rintro e w' ⟨rfl, rfl⟩
    go_wp2
    go_ret
    exact ⟨rfl, H.out, Frm.refl _ _⟩
  | true =>
    have hi' : 0 ≤ i ∧ i < (n : Int) := by unfold sHas at hi; simpa using hi
    obtain ⟨j, rfl⟩ := Int.eq_ofNat_of_zero_le hi'.1
    have hj : j < n := by omega
    have ej : ((j : Int)).toNat = j := by omega
    have HS := Lib.hid (cspot_yes h hj)
    have c0 := h.p0 hj
    cases hq : decide (S j 0 = pc) with
    | false =>
      have hr2 : kTurnOk n S j pc = false := by unfold kTurnOk; rw [hi]; simpa using hq
      have hr : kTurn n S j pc nw = S := by unfold kTurn; rw [hr2]; rfl
      rw [hr, hr2]
      have e1 : (S j 0 != pc) = true := by simpa using hq
      generalize S j 0 = q at *
      clear h hq hr hr2 hi hi' ej
      go_enter Tryz.func200, Tryz.ntmps200
      go_wp2_with fail
      refine HS.out.mono ?_
      rintro e w' ⟨rfl, rfl⟩
      go_wp2
      go_ret
      exact ⟨rfl, H.out, Frm.refl _ _⟩
    | true =>
      have hpc : S j 0 = pc := by simpa using hq
      have hr2 : kTurnOk n S j pc = true := by unfold kTurnOk; rw [hi]; simpa using hq
      have hr : kTurn n S j pc nw = spPut S j 0 nw := by unfold kTurn; rw [hr2, if_pos rfl, ej]
      rw [hr, hr2]
      rw [hpc] at c0
      have e1 : (pc != pc) = false := by simp
      have hfz := h.row.frozen
      have HP := Lib.hid (h.put j (t := 0) (by omega) nw)
      clear h hq hr hr2 hi hi' hpc ej
      go_enter Tryz.func200, Tryz.ntmps200
      go_wp2_with fail
      refine HS.out.mono ?_
      rintro e w' ⟨rfl, rfl⟩
      go_wp2
      go_ret
      exact ⟨rfl, HP.out, (Frm.refl [sb] w).set ⟨sb, j * 4, none⟩ _ (.inl (by simp))⟩
theorem cAsk_any (h : McAt w lb sb ab wb tail n A S) (i : Int) : Calls Tryz.prog 195 #[.pointer (some ⟨lb, 0, none⟩), .int .i64 i] w fun e w' => e = .returned (.bool (kTurnOk n S i 0)) ∧ McAt w' lb sb ab wb tail n A (kTurn n S i 0 1) ∧ Frm [sb] w w' := by
  have HT := Lib.hid (cturn_any h i 0 1)
  clear h
  go_enter Tryz.func195, Tryz.ntmps195
  go_wp2_with fail
  refine HT.out.mono ?_
  rintro e w' ⟨rfl, hK, hF⟩
  have HK := Lib.hid hK
  have HF := Lib.hid hF
  clear hK hF
  go_wp2
  go_ret
  exact ⟨rfl, HK.out, HF.out⟩
theorem cLeave_any (h : McAt w lb sb ab wb tail n A S) (i : Int) : Calls Tryz.prog 196 #[.pointer (some ⟨lb, 0, none⟩), .int .i64 i] w fun e w' => e = .returned (.bool (kTurnOk n S i 10)) ∧ McAt w' lb sb ab wb tail n A (kTurn n S i 10 11) ∧ Frm [sb] w w' := by
  have HT := Lib.hid (cturn_any h i 10 11)
  clear h
  go_enter Tryz.func196, Tryz.ntmps196
  go_wp2_with fail
  refine HT.out.mono ?_
  rintro e w' ⟨rfl, hK, hF⟩
  have HK := Lib.hid hK
  have HF := Lib.hid hF
  clear hK hF
  go_wp2
  go_ret
  exact ⟨rfl, HK.out, HF.out⟩
end
end Go.Proofs.YteijjhahgabalaaGreat

/- The contracts of package clh: Slots, spot, Spot, turn, Ask, Leave. (Printed by gen_row.py.) -/
namespace Go.Proofs.YteijjhahgabalaaGreat
open Go.RowKit

theorem spX_get {n : Nat} {S : Nat → Nat → Int} {Y : List Value} {i t : Nat} (hi : i < n) (ht : t < 4) : (spC n S ++ Y)[i * 4 + t]? = some (.int .i64 (S i t)) := by
  have := spC_getT n S hi ht
  have hl : i * 4 + t < (spC n S).length := (List.getElem?_eq_some_iff.1 this).1
  rw [List.getElem?_append_left hl]; exact this
theorem spX_put {n : Nat} {S : Nat → Nat → Int} {Y : List Value} {i t : Nat} (hi : i < n) (ht : t < 4) {v : Int} : (spC n S ++ Y).set (i * 4 + t) (.int .i64 v) = spC n (spPut S i t v) ++ Y := by
  have := spC_getT n S hi ht
  have hl : i * 4 + t < (spC n S).length := (List.getElem?_eq_some_iff.1 this).1
  rw [List.set_append_left _ _ hl, spC_putT n S ht v]
/-- a row of slots that wait for the word of the one ahead: the lock in block lb, its spots in sb, its arena in ab and wb -/
structure ClAt (w : World) (lb sb ab wb tail n : Nat) (X : Nat × List Value) (A : AR) (S : Nat → Nat → Int) : Prop where
  box : HAt w lb [.pointer (some ⟨ab, 0, none⟩), .int .i64 tail, .slice (some ⟨sb, 0, none⟩) n X.1] 155
  row : HAt w sb (spC n S ++ X.2) 138
  ar : ArAt w ab wb A
  ne : lb ≠ sb ∧ lb ≠ ab ∧ lb ≠ wb ∧ sb ≠ ab ∧ sb ≠ wb
  n1 : 1 ≤ n
  n32 : n ≤ 32
  tb : tail ≤ 4096
section
variable {w w' : World} {lb sb ab wb tail n : Nat} {X : Nat × List Value} {A A' : AR} {S : Nat → Nat → Int}
theorem ClAt.frm (h : ClAt w lb sb ab wb tail n X A S) {Z : List Nat} (hf : Frm Z w w') (hz : ∀ k ∈ [lb, sb, ab, wb], k ∉ Z) : ClAt w' lb sb ab wb tail n X A S :=
  { h with box := h.box.frm hf (hz _ (by simp)), row := h.row.frm hf (hz _ (by simp)), ar := h.ar.frm hf (hz _ (by simp)) (hz _ (by simp)) }
theorem ClAt.ar_ (h : ClAt w lb sb ab wb tail n X A S) (hf : Frm [ab, wb] w w') (hA : ArAt w' ab wb A') : ClAt w' lb sb ab wb tail n X A' S :=
  { h with box := h.box.frm hf (by simp; have := h.ne; omega), row := h.row.frm hf (by simp; have := h.ne; omega), ar := hA }
theorem ClAt.put (h : ClAt w lb sb ab wb tail n X A S) {j : Nat} (hj : j < n) {t : Nat} (ht : t < 4) (v : Int) :
    ClAt (w.setCell ⟨sb, j * 4 + t, none⟩ (.int .i64 v)) lb sb ab wb tail n X A (spPut S j t v) := by
  have hr := h.row.set (j * 4 + t) (.int .i64 v)
  rw [spX_put hj ht] at hr
  have hf : Frm [sb] w (w.setCell ⟨sb, j * 4 + t, none⟩ (.int .i64 v)) := (Frm.refl _ _).set _ _ (.inl (by simp))
  have hn := h.ne
  exact { h with box := h.box.frm hf (by simp; omega), row := hr, ar := h.ar.frm hf (by simp; omega) (by simp; omega) }
theorem ClAt.p (h : ClAt w lb sb ab wb tail n X A S) {j : Nat} (hj : j < n) {t : Nat} (ht : t < 4) : w.cell? ⟨sb, j * 4 + t, none⟩ = some (.int .i64 (S j t)) := h.row.cell (spX_get hj ht)
theorem ClAt.p0 (h : ClAt w lb sb ab wb tail n X A S) {j : Nat} (hj : j < n) : w.cell? ⟨sb, j * 4, none⟩ = some (.int .i64 (S j 0)) := h.row.cell (spX_get (t := 0) hj (by omega))
end
section
variable {w w' : World} {lb sb ab wb tail n : Nat} {X : Nat × List Value} {A A' : AR} {S : Nat → Nat → Int}
theorem hSlots_any (h : ClAt w lb sb ab wb tail n X A S) : Calls Tryz.prog 213 #[.pointer (some ⟨lb, 0, none⟩)] w fun e w' => e = .returned (.int .i64 n) ∧ w = w' := by
  have c2 := h.box.cell (i := 2) rfl
  clear h
  go_enter Tryz.func213, Tryz.ntmps213
  go_wp2
  go_ret
  exact ⟨rfl, rfl⟩
theorem hspot_no (h : ClAt w lb sb ab wb tail n X A S) {i : Int} (hi : sHas n i = false) : Calls Tryz.prog 217 #[.pointer (some ⟨lb, 0, none⟩), .int .i64 i] w fun e w' => e = .returned (.pointer none) ∧ w = w' := by
  have HS := Lib.hid (hSlots_any h)
  clear h
  by_cases hneg : i < 0
  · have d1 : decide (i < 0) = true := by simpa using hneg
    clear hi
    go_enter Tryz.func217, Tryz.ntmps217
    go_wp2
    go_ret
    exact ⟨rfl, rfl⟩
  · have d1 : decide (i < 0) = false := by simpa using hneg
    have d2 : decide ((n : Int) ≤ i) = true := by unfold sHas at hi; simp at hi; simp; omega
    clear hi
    go_enter Tryz.func217, Tryz.ntmps217
    go_wp2_with fail
    refine HS.out.mono ?_
    rintro e w' ⟨rfl, rfl⟩
    go_wp2
    go_ret
    exact ⟨rfl, rfl⟩
theorem hspot_yes (h : ClAt w lb sb ab wb tail n X A S) {i : Nat} (hi : i < n) : Calls Tryz.prog 217 #[.pointer (some ⟨lb, 0, none⟩), .int .i64 i] w fun e w' => e = .returned (.pointer (some ⟨sb, i * 4, none⟩)) ∧ w = w' := by
  have HS := Lib.hid (hSlots_any h)
  have c2 := h.box.cell (i := 2) rfl
  have hn := h.n32
  clear h
  have d1 : decide ((i : Int) < 0) = false := by simp
  have d2 : decide ((n : Int) ≤ i) = false := by simp; omega
  have d3 : decide (n ≤ i) = false := by simp; omega
  have l1 : (i : Int) < n := by omega
  go_enter Tryz.func217, Tryz.ntmps217
  go_wp2_with fail
  refine HS.out.mono ?_
  rintro e w' ⟨rfl, rfl⟩
  go_wp2
  go_ret
  exact ⟨rfl, rfl⟩
theorem hSpot_any (h : ClAt w lb sb ab wb tail n X A S) (i : Int) : Calls Tryz.prog 214 #[.pointer (some ⟨lb, 0, none⟩), .int .i64 i] w fun e w' => e = .returned (spV n S i) ∧ Frm [] w w' := by
  cases hi : sHas n i with
  | false =>
    have HS := Lib.hid (fun (W : World) (hf : Frm [] w W) => hspot_no (h.frm hf (by simp)) hi)
    have hr : spV n S i = .agg #[.int .i64 0, .int .i64 0, .int .i64 0, .int .i64 0] := by unfold spV; rw [hi]; rfl
    rw [hr]
    clear h hr hi
    go_enter Tryz.func214, Tryz.ntmps214
    go_wp2_with fail
    refine (HS.out _ ((Frm.refl _ _).alloc _)).mono ?_
    rintro e w' ⟨rfl, rfl⟩
    go_wp2_with fail
    exact bodyPost_ret (v := .agg #[.int .i64 0, .int .i64 0, .int .i64 0, .int .i64 0]) (by simp [results, Tryz.results214, go_sem]) rfl ⟨rfl, (Frm.refl _ _).alloc _⟩
  | true =>
    have hi' : 0 ≤ i ∧ i < (n : Int) := by unfold sHas at hi; simpa using hi
    obtain ⟨j, rfl⟩ := Int.eq_ofNat_of_zero_le hi'.1
    have hj : j < n := by omega
    have HS := Lib.hid (fun (W : World) (hf : Frm [] w W) => hspot_yes (h.frm hf (by simp)) hj)
    have hr : spV n S j = .agg #[.int .i64 (S j 0), .int .i64 (S j 1), .int .i64 (S j 2), .int .i64 (S j 3)] := by unfold spV; rw [hi]; rfl
    rw [hr]
    have hkk : ∀ wx, Frm [] w wx → wx.cell? ⟨sb, j * 4, none⟩ = some (.int .i64 (S j 0)) ∧ wx.cell? ⟨sb, j * 4 + 1, none⟩ = some (.int .i64 (S j 1)) ∧ wx.cell? ⟨sb, j * 4 + 2, none⟩ = some (.int .i64 (S j 2)) ∧ wx.cell? ⟨sb, j * 4 + 3, none⟩ = some (.int .i64 (S j 3)) := fun wx hf =>
      ⟨(h.frm hf (by simp)).p0 hj, (h.frm hf (by simp)).p hj (by omega), (h.frm hf (by simp)).p hj (by omega), (h.frm hf (by simp)).p hj (by omega)⟩
    have KK := Lib.hid hkk
    clear h hr hi hkk hi'
    go_enter Tryz.func214, Tryz.ntmps214
    go_wp2_with fail
    refine (HS.out _ ((Frm.refl _ _).alloc _)).mono ?_
    rintro e w' ⟨rfl, rfl⟩
    obtain ⟨c0, c1, c2, c3⟩ := KK.out _ ((Frm.refl [] w).alloc (.cells #[.int .i64 0, .int .i64 0, .int .i64 0, .int .i64 0] 138))
    go_wp2_with fail
    refine bodyPost_ret (v := .agg #[.int .i64 (S j 0), .int .i64 (S j 1), .int .i64 (S j 2), .int .i64 (S j 3)]) (by simp [results, Tryz.results214, go_sem]) rfl ⟨rfl, ?_⟩
    exact (Frm.refl _ _).alloc _
theorem hturn_any (h : ClAt w lb sb ab wb tail n X A S) (i pc nw : Int) : Calls Tryz.prog 216 #[.pointer (some ⟨lb, 0, none⟩), .int .i64 i, .int .i64 pc, .int .i64 nw] w fun e w' => e = .returned (.bool (kTurnOk n S i pc)) ∧ ClAt w' lb sb ab wb tail n X A (kTurn n S i pc nw) ∧ Frm [sb] w w' := by
  have H := Lib.hid h
  cases hi : sHas n i with
  | false =>
    have hq : kTurnOk n S i pc = false := by unfold kTurnOk; rw [hi]; rfl
    have hr : kTurn n S i pc nw = S := by unfold kTurn; rw [hq]; rfl
    have HS := Lib.hid (hspot_no h hi)
    rw [hr, hq]
    clear h hq hr hi
    go_enter Tryz.func216, Tryz.ntmps216
    go_wp2_with fail
    refine HS.out.mono ?_
    rintro e w' ⟨rfl, rfl⟩
    go_wp2
    go_ret
    exact ⟨rfl, H.out, Frm.refl _ _⟩
  | true =>
    have hi' : 0 ≤ i ∧ i < (n : Int) := by unfold sHas at hi; simpa using hi
    obtain ⟨j, rfl⟩ := Int.eq_ofNat_of_zero_le hi'.1
    have hj : j < n := by omega
    have ej : ((j : Int)).toNat = j := by omega
    have HS := Lib.hid (hspot_yes h hj)
    have c0 := h.p0 hj
    cases hq : decide (S j 0 = pc) with
    | false =>
      have hr2 : kTurnOk n S j pc = false := by unfold kTurnOk; rw [hi]; simpa using hq
      have hr : kTurn n S j pc nw = S := by unfold kTurn; rw [hr2]; rfl
      rw [hr, hr2]
      have e1 : (S j 0 != pc) = true := by simpa using hq
      generalize S j 0 = q at *
      clear h hq hr hr2 hi hi' ej
      go_enter Tryz.func216, Tryz.ntmps216
      go_wp2_with fail
      refine HS.out.mono ?_
      rintro e w' ⟨rfl, rfl⟩
      go_wp2
      go_ret
      exact ⟨rfl, H.out, Frm.refl _ _⟩
    | true =>
      have hpc : S j 0 = pc := by simpa using hq
      have hr2 : kTurnOk n S j pc = true := by unfold kTurnOk; rw [hi]; simpa using hq
      have hr : kTurn n S j pc nw = spPut S j 0 nw := by unfold kTurn; rw [hr2, if_pos rfl, ej]
      rw [hr, hr2]
      rw [hpc] at c0
      have e1 : (pc != pc) = false := by simp
      have hfz := h.row.frozen
      have HP := Lib.hid (h.put hj (t := 0) (by omega) nw)
      clear h hq hr hr2 hi hi' hpc ej
      go_enter Tryz.func216, Tryz.ntmps216
      go_wp2_with fail
      refine HS.out.mono ?_
      rintro e w' ⟨rfl, rfl⟩
      go_wp2
      go_ret
      exact ⟨rfl, HP.out, (Frm.refl [sb] w).set ⟨sb, j * 4, none⟩ _ (.inl (by simp))⟩
theorem hAsk_any (h : ClAt w lb sb ab wb tail n X A S) (i : Int) : Calls Tryz.prog 211 #[.pointer (some ⟨lb, 0, none⟩), .int .i64 i] w fun e w' => e = .returned (.bool (kTurnOk n S i 0)) ∧ ClAt w' lb sb ab wb tail n X A (kTurn n S i 0 1) ∧ Frm [sb] w w' := by
  have HT := Lib.hid (hturn_any h i 0 1)
  clear h
  go_enter Tryz.func211, Tryz.ntmps211
  go_wp2_with fail
  refine HT.out.mono ?_
  rintro e w' ⟨rfl, hK, hF⟩
  have HK := Lib.hid hK
  have HF := Lib.hid hF
  clear hK hF
  go_wp2
  go_ret
  exact ⟨rfl, HK.out, HF.out⟩
theorem hLeave_any (h : ClAt w lb sb ab wb tail n X A S) (i : Int) : Calls Tryz.prog 212 #[.pointer (some ⟨lb, 0, none⟩), .int .i64 i] w fun e w' => e = .returned (.bool (kTurnOk n S i 10)) ∧ ClAt w' lb sb ab wb tail n X A (kTurn n S i 10 11) ∧ Frm [sb] w w' := by
  have HT := Lib.hid (hturn_any h i 10 11)
  clear h
  go_enter Tryz.func212, Tryz.ntmps212
  go_wp2_with fail
  refine HT.out.mono ?_
  rintro e w' ⟨rfl, hK, hF⟩
  have HK := Lib.hid hK
  have HF := Lib.hid hF
  clear hK hF
  go_wp2
  go_ret
  exact ⟨rfl, HK.out, HF.out⟩
end
end Go.Proofs.YteijjhahgabalaaGreat

/- What keeps two slots from holding at once in parted and tas, whatever else is done in the arena: plain lemmas. -/
namespace Go.Proofs.YteijjhahgabalaaGreat
open Go.RowKit
/-- tickets that are served at several places, from word b on -/
structure PI (b parts n : Nat) (S : Nat → Nat → Int) (A : AR) (V : Int) : Prop where
  tk : TK n S V (A.get b)
  no : A.get b ≤ A.ops
  le : ∀ p : Int, 0 ≤ p → p < (parts : Int) → A.get ((b : Int) + 1 + p) ≤ V + 1
  at_ : A.get ((b : Int) + 1 + V.tmod parts) = V + 1
section
variable {b parts n : Nat} {S : Nat → Nat → Int} {A B : AR} {V : Int}
theorem PI.frame (h : PI b parts n S A V) (hp : 1 ≤ parts) (hg : ∀ i : Int, (b : Int) ≤ i → i < (b : Int) + ((1 + parts : Nat) : Int) → B.get i = A.get i) (ho : A.ops ≤ B.ops) : PI b parts n S B V := by
  have hm := Int.tmod_lt_of_pos V (show (0 : Int) < parts by omega)
  have hm2 := Int.tmod_nonneg (parts : Int) h.tk.v0
  refine ⟨by rw [hg _ (by omega) (by omega)]; exact h.tk, by rw [hg _ (by omega) (by omega)]; have := h.no; omega, fun p h1 h2 => by rw [hg _ (by omega) (by omega)]; exact h.le p h1 h2, by rw [hg _ (by omega) (by omega)]; exact h.at_⟩
theorem pplace (hb : b ≤ 4096) (hp : 1 ≤ parts ∧ parts ≤ 32) {t : Int} (ht : 0 ≤ t) : pPlace b parts t = (b : Int) + 1 + t.tmod parts ∧ 0 ≤ t.tmod parts ∧ t.tmod parts < parts := by
  have hm := Int.tmod_lt_of_pos t (show (0 : Int) < parts by omega)
  have hm2 := Int.tmod_nonneg (parts : Int) ht
  refine ⟨?_, hm2, hm⟩
  unfold pPlace
  rw [wr_id (x := (b : Int) + 1) (by omega), wr_id (by omega)]
theorem PI.step (h : PI b parts n S A V) (hf : A.Fit) (hl : A.ops < 1000000000) (hb : 1 ≤ b) (hp : 1 ≤ parts ∧ parts ≤ 32) (hr : b + (1 + parts) ≤ A.taken + 1) {j : Nat} (hj : j < n) :
    (∃ V', PI b parts n (pStepS n b parts S A j) (pStepA n b parts S A j) V') ∧ Op1 b (1 + parts) A (pStepA n b parts S A j) ∧ (S j 0 = 1 → (pStepA n b parts S A j).ops = A.ops + 1) ∧ StepOk S (pStepS n b parts S A j) j (pStepR n b parts S A j) := by
  have i0 : A.has b = true := has_iff.2 (by omega)
  have hv := h.tk.v0; have hvn := h.tk.vn; have hno := h.no; have ht := hf.2.1
  have hl2 := hf.1
  have hof := hf.2.2
  have hrm : A.addRes b 1 = A.get b + 1 := by unfold AR.addRes; rw [if_pos i0]; exact wr_id (by omega)
  unfold pStepS pStepA pStepR
  rw [sHas_nat hj]
  simp only [if_true, Bool.true_and, Int.toNat_natCast]
  have hpl : ∀ t : Int, 0 ≤ t → ∃ m : Int, (t.tmod parts = m ∧ pPlace b parts t = (b : Int) + 1 + m) ∧ 0 ≤ m ∧ m < parts := fun t h0 => by
    obtain ⟨a1, a2, a3⟩ := pplace (b := b) (parts := parts) (by omega) hp h0
    exact ⟨_, ⟨rfl, a1⟩, a2, a3⟩
  rcases h.tk.pcs j hj with q | q | q | q | q
  · simp only [q, Int.reduceEq, if_true, if_false, decide_true, decide_false]
    exact ⟨⟨V, h⟩, Op1.refl _ _ _, by simp, ⟨fun _ _ => rfl, by simp [q], by simp [q], by simp [q]⟩⟩
  · simp only [q, Int.reduceEq, if_true, if_false, decide_true, decide_false]
    obtain ⟨o1, o2⟩ := op_add (b := b) (m := 1 + parts) (d := 1) hf i0 (by omega) (by omega)
    have g := fun k => get_add (A := A) (i := b) (d := 1) (j := k) hf.1 i0
    have e : wrap64 (A.addRes b 1 - 1) = A.get b := by rw [hrm]; exact (wr_id (by omega)).trans (by omega)
    have hfar : ∀ p : Int, 0 ≤ p → (A.add b 1).get ((b : Int) + 1 + p) = A.get ((b : Int) + 1 + p) := fun p h0 => by rw [g, if_neg (by omega)]
    rw [e]
    have hm2 := Int.tmod_nonneg (parts : Int) hv
    refine ⟨⟨V, ⟨?_, ?_, fun p h1 h2 => by rw [hfar p h1]; exact h.le p h1 h2, by rw [hfar _ hm2]; exact h.at_⟩⟩, o1, fun _ => o2, ⟨fun k hk => ?_, ?_, by omega, by omega⟩⟩
    · rw [g, if_pos rfl, wr_id (by omega)]; exact h.tk.draw hj q
    · rw [g, if_pos rfl, wr_id (by omega), o2]; omega
    · rw [spat, if_neg (by simp [hk]), spat, if_neg (by simp [hk])]
    · intro _ _; rw [spat, if_pos (by simp)]; simp
  · have hrg := h.tk.rng j hj (by omega)
    obtain ⟨m, ⟨_, ep⟩, e1, e2⟩ := hpl (S j 1) (by omega)
    simp only [ep]
    clear ep
    have i1 : A.has ((b : Int) + 1 + m) = true := has_iff.2 (by omega)
    obtain ⟨o1, o2⟩ := op_load (b := b) (m := 1 + parts) hf i1 (by omega) (by omega)
    have hk : ∀ T : Nat → Nat → Int, TK n T V (A.get b) → PI b parts n T (A.load ((b : Int) + 1 + m)) V := fun T hT => ⟨by rw [get_load]; exact hT, by rw [get_load, o2]; omega, fun p h1 h2 => by rw [get_load]; exact h.le p h1 h2, by rw [get_load]; exact h.at_⟩
    have hw : wrap64 (S j 1 + 1) = S j 1 + 1 := wr_id (by omega)
    simp only [q, Int.reduceEq, if_true, if_false, decide_true, decide_false]
    by_cases c : A.get ((b : Int) + 1 + m) = wrap64 (S j 1 + 1)
    · have hle := h.le _ e1 e2
      rw [c, hw] at hle
      simp only [c, if_true, decide_true]
      refine ⟨⟨V, hk _ (h.tk.turn hj (by omega) (by omega) (by omega))⟩, o1, by omega, ⟨fun k hk => ?_, ?_, by omega, by omega⟩⟩
      · rw [spat, if_neg (by simp [hk])]
      · intro _ _; rw [spat, if_pos (by simp)]; simp
    · simp only [c, if_false, decide_false]
      exact ⟨⟨V, hk _ h.tk⟩, o1, by simp, ⟨fun _ _ => rfl, by simp [q], by simp [q], by simp [q]⟩⟩
  · simp only [q, Int.reduceEq, if_true, if_false, decide_true, decide_false]
    exact ⟨⟨V, h⟩, Op1.refl _ _ _, by simp, ⟨fun _ _ => rfl, by simp [q], by simp [q], by simp [q]⟩⟩
  · have hj1 : S j 1 = V := h.tk.top j hj (by omega)
    obtain ⟨hfr, hlt⟩ := h.tk.free hj (by omega)
    have hw1 : wrap64 (S j 1 + 1) = V + 1 := by rw [hj1]; exact wr_id (by omega)
    have hw2 : wrap64 (S j 1 + 2) = V + 2 := by rw [hj1]; exact wr_id (by omega)
    obtain ⟨m, ⟨em, ep⟩, e1, e2⟩ := hpl (V + 1) (by omega)
    simp only [q, Int.reduceEq, if_true, if_false, decide_true]
    rw [hw1, hw2, ep]
    clear ep
    have i1 : A.has ((b : Int) + 1 + m) = true := has_iff.2 (by omega)
    obtain ⟨o1, o2⟩ := op_store (b := b) (m := 1 + parts) (v := V + 2) hf i1 (by omega) (by omega)
    have g := fun k => get_store (A := A) (i := (b : Int) + 1 + m) (v := V + 2) (j := k) hf.1 i1
    refine ⟨⟨V + 1, ⟨?_, ?_, fun p h1 h2 => ?_, ?_⟩⟩, o1, by simp, ⟨fun k hk => ?_, by omega, ?_, by omega⟩⟩
    · rw [g, if_neg (by omega)]; exact hfr
    · rw [g, if_neg (by omega), o2]; omega
    · rw [g]
      have := h.le p h1 h2
      split <;> omega
    · rw [em, g, if_pos rfl]; omega
    · rw [spat, if_neg (by simp [hk])]
    · intro _; rw [spat, if_pos (by simp)]; simp
end
/-- a word that is taken, word b -/
structure TI (b n : Nat) (S : Nat → Nat → Int) (A : AR) : Prop where
  pcs : ∀ j, j < n → S j 0 = 0 ∨ S j 0 = 1 ∨ S j 0 = 2 ∨ S j 0 = 10 ∨ S j 0 = 11
  own : ∀ j, j < n → 10 ≤ S j 0 → A.get b = (j : Int) + 1
section
variable {b n : Nat} {S : Nat → Nat → Int} {A B : AR} {most : Int}
theorem TI.frame (h : TI b n S A) (hg : ∀ i : Int, (b : Int) ≤ i → i < (b : Int) + 1 → B.get i = A.get i) : TI b n S B :=
  ⟨h.pcs, fun j hj hc => by rw [hg _ (by omega) (by omega)]; exact h.own j hj hc⟩
theorem TI.one (h : TI b n S A) {j k : Nat} (hj : j < n) (hk : k < n) (h1 : 10 ≤ S j 0) (h2 : 10 ≤ S k 0) : j = k := by
  have := h.own j hj h1; have := h.own k hk h2; omega
/-- slot j alone turns -/
theorem TI.turn {T : Nat → Nat → Int} (h : TI b n S A) (j : Nat) (hT : ∀ k, k ≠ j → T k 0 = S k 0) (hp : T j 0 = 0 ∨ T j 0 = 1 ∨ T j 0 = 2 ∨ T j 0 = 10 ∨ T j 0 = 11) (hw : ∀ k, k < n → k ≠ j → 10 ≤ S k 0 → B.get b = A.get b) (ho : 10 ≤ T j 0 → B.get b = (j : Int) + 1) : TI b n T B :=
  ⟨fun k hk => by
    by_cases e : k = j
    · rw [e]; exact hp
    · rw [hT k e]; exact h.pcs k hk, fun k hk hc => by
    by_cases e : k = j
    · subst e; exact ho hc
    · rw [hT k e] at hc; rw [hw k hk e hc]; exact h.own k hk hc⟩
theorem TI.step (h : TI b n S A) (hf : A.Fit) (hl : A.ops < 1000000000) (hb : 1 ≤ b) (hr : b + 1 ≤ A.taken + 1) {j : Nat} (hj : j < n) :
    TI b n (tStepS n b most S A j) (tStepA n b S A j) ∧ Op1 b 1 A (tStepA n b S A j) ∧ (S j 0 = 1 → (tStepA n b S A j).ops = A.ops + 1) ∧ StepOk S (tStepS n b most S A j) j (tStepR n b S A j) := by
  have i0 : A.has b = true := has_iff.2 (by omega)
  unfold tStepS tStepA tStepR
  rw [sHas_nat hj]
  simp only [if_true, Bool.true_and, Int.toNat_natCast]
  rcases h.pcs j hj with q | q | q | q | q
  · simp only [q, Int.reduceEq, if_true, if_false, decide_true, decide_false]
    exact ⟨h, Op1.refl _ _ _, by simp, ⟨fun _ _ => rfl, by simp [q], by simp [q], by simp [q]⟩⟩
  · simp only [q, Int.reduceEq, if_true, if_false, decide_true, decide_false]
    obtain ⟨o1, o2⟩ := op_cas (b := b) (m := 1) (o := 0) (v := (j : Int) + 1) hf i0 (by omega) (by omega)
    have g := fun k => get_cas (A := A) (i := b) (o := 0) (v := (j : Int) + 1) (j := k) hf.1 i0
    cases c : A.casOk b 0 with
    | true =>
      have c' := (cas_ok i0).1 c
      simp only [if_true]
      have hs : ∀ k, k ≠ j → spPut S j 0 10 k 0 = S k 0 := fun k hk => by rw [spat, if_neg (by simp [hk])]
      have e0 : spPut S j 0 10 j 0 = 10 := by rw [spat, if_pos (by simp)]
      refine ⟨h.turn j hs (by omega) (fun k hk _ hc => by have := h.own k hk hc; omega) (fun _ => by rw [g, if_pos ⟨rfl, c'⟩]), o1, fun _ => o2, ⟨hs, fun _ _ => by rw [e0]; simp, by omega, by omega⟩⟩
    | false =>
      have c' : A.get b ≠ 0 := fun e => by rw [(cas_ok i0).2 e] at c; simp at c
      simp only [Bool.false_eq_true, if_false]
      have hs : ∀ k, k ≠ j → spPut (spPut (spPut S j 0 2) j 2 (S j 1)) j 1 (tLonger most (S j 1)) k 0 = S k 0 := fun k hk => by rw [spat, if_neg (by simp [hk]), spat, if_neg (by simp [hk]), spat, if_neg (by simp [hk])]
      have e0 : spPut (spPut (spPut S j 0 2) j 2 (S j 1)) j 1 (tLonger most (S j 1)) j 0 = 2 := by rw [spat, if_neg (by simp), spat, if_neg (by simp), spat, if_pos (by simp)]
      refine ⟨h.turn j hs (by omega) (fun k hk _ hc => by rw [g, if_neg (fun e => c' e.2)]) (fun hc => by omega), o1, fun _ => o2, ⟨hs, fun _ _ => by rw [e0]; simp, by omega, by omega⟩⟩
  · simp only [q, Int.reduceEq, if_true, if_false, decide_true, decide_false]
    by_cases c : wrap64 (S j 2 - 1) = 0
    · simp only [c, if_true]
      have hs : ∀ k, k ≠ j → spPut (spPut S j 2 0) j 0 1 k 0 = S k 0 := fun k hk => by rw [spat, if_neg (by simp [hk]), spat, if_neg (by simp [hk])]
      have e0 : spPut (spPut S j 2 0) j 0 1 j 0 = 1 := by rw [spat, if_pos (by simp)]
      refine ⟨h.turn j hs (by omega) (fun _ _ _ _ => rfl) (fun hc => by omega), Op1.refl _ _ _, by simp, ⟨hs, fun _ _ => by rw [e0]; simp, by omega, by omega⟩⟩
    · simp only [c, if_false]
      have hs : ∀ k, spPut S j 2 (wrap64 (S j 2 - 1)) k 0 = S k 0 := fun k => by rw [spat, if_neg (by simp)]
      have e0 := hs j
      refine ⟨h.turn j (fun k _ => hs k) (by omega) (fun _ _ _ _ => rfl) (fun hc => by omega), Op1.refl _ _ _, by simp, ⟨fun k _ => hs k, fun _ _ => by rw [e0, q]; simp, by omega, by omega⟩⟩
  · simp only [q, Int.reduceEq, if_true, if_false, decide_true, decide_false]
    exact ⟨h, Op1.refl _ _ _, by simp, ⟨fun _ _ => rfl, by simp [q], by simp [q], by simp [q]⟩⟩
  · obtain ⟨o1, o2⟩ := op_store (b := b) (m := 1) (v := 0) hf i0 (by omega) (by omega)
    simp only [q, Int.reduceEq, if_true, if_false, decide_true, decide_false]
    have hs : ∀ k, k ≠ j → spPut S j 0 0 k 0 = S k 0 := fun k hk => by rw [spat, if_neg (by simp [hk])]
    have e0 : spPut S j 0 0 j 0 = 0 := by rw [spat, if_pos (by simp)]
    refine ⟨h.turn j hs (by omega) (fun k hk hkj hc => absurd (h.one hk hj hc (by omega)) hkj) (fun hc => by omega), o1, by simp, ⟨hs, by omega, fun _ => by rw [e0]; simp, by omega⟩⟩
end
end Go.Proofs.YteijjhahgabalaaGreat

/- What keeps two slots from holding at once in a row where each waits for the word of the one ahead (clh): plain lemmas. -/
namespace Go.Proofs.YteijjhahgabalaaGreat
open Go.RowKit
/-- a row: each has the box of the one ahead; the last one's box is the tail's -/
def Ch (S : Nat → Nat → Int) (tl : Int) : Int → List Nat → Prop
  | f, [] => tl = f
  | f, q :: r => S q 2 = f ∧ Ch S tl (S q 1) r
section
variable {S T : Nat → Nat → Int} {tl tl' : Int}
theorem Ch.congr : ∀ {Q : List Nat} {f : Int}, Ch S tl f Q → (∀ q ∈ Q, T q 1 = S q 1 ∧ T q 2 = S q 2) → Ch T tl f Q
  | [], _, h, _ => h
  | q :: r, f, h, hq => by
    have e := hq q (by simp)
    refine ⟨by rw [e.2]; exact h.1, ?_⟩
    rw [e.1]
    exact Ch.congr h.2 fun k hk => hq k (List.mem_cons_of_mem _ hk)
theorem Ch.append {j : Nat} (h2 : S j 2 = tl) (h1 : S j 1 = tl') : ∀ {Q : List Nat} {f : Int}, Ch S tl f Q → Ch S tl' f (Q ++ [j])
  | [], f, h => ⟨h2.trans h, h1.symm⟩
  | q :: r, f, h => ⟨h.1, Ch.append h2 h1 h.2⟩
theorem Ch.pred {q : Nat} : ∀ {Q : List Nat} {f : Int}, Ch S tl f Q → q ∈ Q → (S q 2 = f ∧ ∃ r, Q = q :: r) ∨ ∃ p ∈ Q, S q 2 = S p 1
  | [], _, _, hq => by simp at hq
  | a :: r, f, h, hq => by
    rcases List.mem_cons.1 hq with e | hq
    · subst e; exact .inl ⟨h.1, r, rfl⟩
    · rcases Ch.pred h.2 hq with ⟨h1, _⟩ | ⟨p, hp, e⟩
      · exact .inr ⟨a, by simp, h1⟩
      · exact .inr ⟨p, List.mem_cons_of_mem _ hp, e⟩
end
/-- a row of slots, its words from b on: the row Q, the free box f -/
structure HI (b n : Nat) (S : Nat → Nat → Int) (A : AR) (Q : List Nat) (f : Int) : Prop where
  nd : Q.Nodup
  lt : ∀ j ∈ Q, j < n
  mem : ∀ j, j < n → (j ∈ Q ↔ 3 ≤ S j 0)
  pcs : ∀ j, j < n → S j 0 = 0 ∨ S j 0 = 1 ∨ S j 0 = 2 ∨ S j 0 = 3 ∨ S j 0 = 10 ∨ S j 0 = 11
  box : ∀ j, j < n → 1 ≤ S j 1 ∧ S j 1 ≤ (n : Int) + 1
  fb : 1 ≤ f ∧ f ≤ (n : Int) + 1
  inj : ∀ j k, j < n → k < n → S j 1 = S k 1 → j = k
  fne : ∀ j, j < n → S j 1 ≠ f
  chain : Ch S (A.get b) f Q
  free : A.get ((b : Int) + f) = 0
  set : ∀ j, j < n → 2 ≤ S j 0 → A.get ((b : Int) + S j 1) = 1
  hold : ∀ j, j < n → 10 ≤ S j 0 → S j 2 = f
section
variable {b n : Nat} {S T : Nat → Nat → Int} {A B : AR} {Q : List Nat} {f : Int}
theorem HI.frame (h : HI b n S A Q f) (hg : ∀ i : Int, (b : Int) ≤ i → i < (b : Int) + ((n + 2 : Nat) : Int) → B.get i = A.get i) : HI b n S B Q f := by
  have := h.fb
  exact { h with chain := by rw [hg _ (by omega) (by omega)]; exact h.chain, free := by rw [hg _ (by omega) (by omega)]; exact h.free, set := fun j hj hc => by have := h.box j hj; rw [hg _ (by omega) (by omega)]; exact h.set j hj hc }
theorem HI.first (h : HI b n S A Q f) {j : Nat} (hj : j < n) (h1 : 3 ≤ S j 0) (h2 : S j 2 = f) : ∃ r, Q = j :: r := by
  rcases h.chain.pred ((h.mem j hj).2 h1) with ⟨_, e⟩ | ⟨p, hp, e⟩
  · exact e
  · exact absurd (e.symm.trans h2) (h.fne p (h.lt p hp))
theorem HI.one (h : HI b n S A Q f) {j k : Nat} (hj : j < n) (hk : k < n) (h1 : 10 ≤ S j 0) (h2 : 10 ≤ S k 0) : j = k := by
  obtain ⟨r, e1⟩ := h.first hj (by omega) (h.hold j hj h1)
  obtain ⟨r', e2⟩ := h.first hk (by omega) (h.hold k hk h2)
  rw [e1] at e2
  exact (List.cons.inj e2).1
/-- the box of the one ahead is a box, and its word is 0 only if it is the free one -/
theorem HI.ahead (h : HI b n S A Q f) {j : Nat} (hj : j < n) (h1 : 3 ≤ S j 0) : (1 ≤ S j 2 ∧ S j 2 ≤ (n : Int) + 1) ∧ (A.get ((b : Int) + S j 2) = 0 → S j 2 = f) := by
  rcases h.chain.pred ((h.mem j hj).2 h1) with ⟨e, _⟩ | ⟨p, hp, e⟩
  · exact ⟨by rw [e]; exact h.fb, fun _ => e⟩
  · rw [e]
    refine ⟨h.box p (h.lt p hp), fun h0 => ?_⟩
    have := h.set p (h.lt p hp) (by have := (h.mem p (h.lt p hp)).1 hp; omega)
    omega
/-- only what a slot is at turns; it stands in the row both ahead and behind, or neither -/
theorem HI.turn (h : HI b n S A Q f) {j : Nat} (hj : j < n) {pc : Int} (hp : pc = 0 ∨ pc = 1 ∨ pc = 2 ∨ pc = 3 ∨ pc = 10 ∨ pc = 11) (hq : 3 ≤ pc ↔ 3 ≤ S j 0) (hw : 10 ≤ pc → S j 2 = f)
    (ht : B.get b = A.get b) (hfr : B.get ((b : Int) + f) = 0) (hs : ∀ k, k < n → k ≠ j → 2 ≤ S k 0 → B.get ((b : Int) + S k 1) = 1) (hb : 2 ≤ pc → B.get ((b : Int) + S j 1) = 1) : HI b n (spPut S j 0 pc) B Q f := by
  have hk0 : ∀ k, k ≠ j → spPut S j 0 pc k 0 = S k 0 := fun k hk => by rw [spat, if_neg (by simp [hk])]
  have e0 : spPut S j 0 pc j 0 = pc := by rw [spat, if_pos (by simp)]
  have e1 : ∀ k, spPut S j 0 pc k 1 = S k 1 := fun k => by rw [spat, if_neg (by simp)]
  have e2 : ∀ k, spPut S j 0 pc k 2 = S k 2 := fun k => by rw [spat, if_neg (by simp)]
  generalize spPut S j 0 pc = T at *
  refine { nd := h.nd, lt := h.lt, mem := fun k hk => ?_, pcs := fun k hk => ?_, box := fun k hk => ?_, fb := h.fb, inj := fun a c ha hc he => ?_, fne := fun k hk => ?_, chain := ?_, free := hfr, set := fun k hk hc => ?_, hold := fun k hk hc => ?_ }
  · by_cases e : k = j
    · subst e; rw [e0, hq]; exact h.mem k hk
    · rw [hk0 k e]; exact h.mem k hk
  · by_cases e : k = j
    · subst e; omega
    · rw [hk0 k e]; exact h.pcs k hk
  · rw [e1]; exact h.box k hk
  · rw [e1, e1] at he; exact h.inj a c ha hc he
  · rw [e1]; exact h.fne k hk
  · rw [ht]; exact h.chain.congr fun q _ => ⟨e1 q, e2 q⟩
  · rw [e1]
    by_cases e : k = j
    · subst e; exact hb (by omega)
    · rw [hk0 k e] at hc; exact hs k hk e hc
  · rw [e2]
    by_cases e : k = j
    · subst e; exact hw (by omega)
    · rw [hk0 k e] at hc; exact h.hold k hk hc
theorem HI.enq (h : HI b n S A Q f) {j : Nat} (hj : j < n) (h0 : S j 0 = 2) (ht : B.get b = S j 1) (hw : ∀ x : Int, 1 ≤ x → x ≤ (n : Int) + 1 → B.get ((b : Int) + x) = A.get ((b : Int) + x)) : HI b n (spPut (spPut S j 2 (A.get b)) j 0 3) B (Q ++ [j]) f := by
  have hs : ∀ k, k ≠ j → ∀ t, spPut (spPut S j 2 (A.get b)) j 0 3 k t = S k t := fun k hk t => by rw [spat, spat, if_neg (by simp [hk]), if_neg (by simp [hk])]
  have e0 : spPut (spPut S j 2 (A.get b)) j 0 3 j 0 = 3 := by rw [spat, if_pos (by simp)]
  have e1 : ∀ k, spPut (spPut S j 2 (A.get b)) j 0 3 k 1 = S k 1 := fun k => by rw [spat, if_neg (by simp), spat, if_neg (by simp)]
  have e2 : spPut (spPut S j 2 (A.get b)) j 0 3 j 2 = A.get b := by rw [spat, if_neg (by simp), spat, if_pos (by simp)]
  generalize spPut (spPut S j 2 (A.get b)) j 0 3 = T at *
  have hno : j ∉ Q := fun hm => by have := (h.mem j hj).1 hm; omega
  refine { nd := ?_, lt := fun k hk => ?_, mem := fun k hk => ?_, pcs := fun k hk => ?_, box := fun k hk => ?_, fb := h.fb, inj := fun a c ha hc he => ?_, fne := fun k hk => ?_, chain := ?_, free := ?_, set := fun k hk hc => ?_, hold := fun k hk hc => ?_ }
  · rw [List.nodup_append]
    exact ⟨h.nd, by simp, fun a ha c hc => by simp at hc; subst hc; exact fun e => hno (e ▸ ha)⟩
  · rcases List.mem_append.1 hk with hk | hk
    · exact h.lt k hk
    · simp at hk; subst hk; exact hj
  · by_cases e : k = j
    · subst e; simp [e0]
    · rw [hs k e, ← h.mem k hk]; simp [e]
  · by_cases e : k = j
    · subst e; omega
    · rw [hs k e]; exact h.pcs k hk
  · rw [e1]; exact h.box k hk
  · rw [e1, e1] at he; exact h.inj a c ha hc he
  · rw [e1]; exact h.fne k hk
  · rw [ht]
    refine Ch.append e2 (e1 j) (h.chain.congr fun q hq => ?_)
    have e : q ≠ j := fun e => hno (e ▸ hq)
    exact ⟨hs q e 1, hs q e 2⟩
  · rw [hw f h.fb.1 h.fb.2]; exact h.free
  · have hx := h.box k hk
    rw [e1, hw _ hx.1 hx.2]
    by_cases e : k = j
    · subst e; exact h.set k hk (by omega)
    · rw [hs k e] at hc; exact h.set k hk hc
  · have e : k ≠ j := fun e => by subst e; omega
    rw [hs k e] at hc; rw [hs k e]; exact h.hold k hk hc
theorem HI.quit (h : HI b n S A Q f) {j : Nat} (hj : j < n) (h0 : S j 0 = 11) (ht : B.get b = A.get b) (hz : B.get ((b : Int) + S j 1) = 0) (hw : ∀ x : Int, 1 ≤ x → x ≤ (n : Int) + 1 → x ≠ S j 1 → B.get ((b : Int) + x) = A.get ((b : Int) + x)) : HI b n (spPut (spPut S j 1 (S j 2)) j 0 0) B Q.tail (S j 1) := by
  have hf := h.hold j hj (by omega)
  obtain ⟨r, rfl⟩ := h.first hj (by omega) hf
  rw [hf]
  have hs : ∀ k, k ≠ j → ∀ t, spPut (spPut S j 1 f) j 0 0 k t = S k t := fun k hk t => by rw [spat, spat, if_neg (by simp [hk]), if_neg (by simp [hk])]
  have e0 : spPut (spPut S j 1 f) j 0 0 j 0 = 0 := by rw [spat, if_pos (by simp)]
  have e1 : spPut (spPut S j 1 f) j 0 0 j 1 = f := by rw [spat, if_neg (by simp), spat, if_pos (by simp)]
  generalize spPut (spPut S j 1 f) j 0 0 = T at *
  have hnd := List.nodup_cons.1 h.nd
  have hbox : ∀ k, k < n → k ≠ j → S k 1 ≠ S j 1 := fun k hk e e' => e (h.inj k j hk hj e')
  show HI b n T B r (S j 1)
  refine { nd := hnd.2, lt := fun k hk => h.lt k (List.mem_cons_of_mem _ hk), mem := fun k hk => ?_, pcs := fun k hk => ?_, box := fun k hk => ?_, fb := h.box j hj, inj := fun a c ha hc he => ?_, fne := fun k hk => ?_, chain := ?_, free := hz, set := fun k hk hc => ?_, hold := fun k hk hc => ?_ }
  · by_cases e : k = j
    · subst e; simp [hnd.1, e0]
    · rw [hs k e, ← h.mem k hk]; simp [e]
  · by_cases e : k = j
    · subst e; omega
    · rw [hs k e]; exact h.pcs k hk
  · by_cases e : k = j
    · subst e; rw [e1]; exact h.fb
    · rw [hs k e]; exact h.box k hk
  · by_cases ea : a = j
    · by_cases ec : c = j
      · omega
      · subst ea; rw [e1, hs c ec] at he; exact absurd he.symm (h.fne c hc)
    · by_cases ec : c = j
      · subst ec; rw [e1, hs a ea] at he; exact absurd he (h.fne a ha)
      · rw [hs a ea, hs c ec] at he; exact h.inj a c ha hc he
  · by_cases e : k = j
    · subst e; rw [e1]; exact fun e' => h.fne k hk e'.symm
    · rw [hs k e]; exact hbox k hk e
  · rw [ht]
    refine Ch.congr h.chain.2 fun q hq => ?_
    have e : q ≠ j := fun e => hnd.1 (e ▸ hq)
    exact ⟨hs q e 1, hs q e 2⟩
  · have e : k ≠ j := fun e => by subst e; omega
    rw [hs k e] at hc
    have hx := h.box k hk
    rw [hs k e, hw _ hx.1 hx.2 (hbox k hk e)]
    exact h.set k hk hc
  · have e : k ≠ j := fun e => by subst e; omega
    rw [hs k e] at hc
    exact absurd (h.one hk hj hc (by omega)) e
theorem hbox (hb : b ≤ 4096) (hn : n ≤ 32) {x : Int} (h1 : 1 ≤ x) (h2 : x ≤ (n : Int) + 1) : hBox b x = (b : Int) + x := by unfold hBox; exact wr_id (by omega)
theorem HI.step (h : HI b n S A Q f) (hf : A.Fit) (hl : A.ops < 1000000000) (hb : 1 ≤ b) (hn : n ≤ 32) (hr : b + (n + 2) ≤ A.taken + 1) {j : Nat} (hj : j < n) :
    (∃ Q' f', HI b n (hStepS n b S A j) (hStepA n b S A j) Q' f') ∧ Op1 b (n + 2) A (hStepA n b S A j) ∧ (S j 0 = 1 → (hStepA n b S A j).ops = A.ops + 1) ∧ StepOk S (hStepS n b S A j) j (hStepR n b S A j) := by
  have hl2 := hf.1; have hl3 := hf.2.1
  have i0 : A.has b = true := has_iff.2 (by omega)
  have hx := h.box j hj
  have hbx := fun {x : Int} => hbox (b := b) (n := n) (x := x) (by omega) hn
  have hfb := h.fb
  have hfne := h.fne j hj
  unfold hStepS hStepA hStepR
  rw [sHas_nat hj]
  simp only [if_true, Bool.true_and, Int.toNat_natCast]
  rcases h.pcs j hj with q | q | q | q | q | q
  · simp only [q, Int.reduceEq, if_true, if_false, decide_true, decide_false]
    exact ⟨⟨Q, f, h⟩, Op1.refl _ _ _, by simp, ⟨fun _ _ => rfl, by simp [q], by simp [q], by simp [q]⟩⟩
  · simp only [q, Int.reduceEq, if_true, if_false, decide_true, decide_false]
    rw [hbx hx.1 hx.2]
    have i1 : A.has ((b : Int) + S j 1) = true := has_iff.2 (by omega)
    obtain ⟨o1, o2⟩ := op_store (b := b) (m := n + 2) (v := 1) hf i1 (by omega) (by omega)
    have g := fun k => get_store (A := A) (i := (b : Int) + S j 1) (v := 1) (j := k) hf.1 i1
    refine ⟨⟨Q, f, h.turn hj (by omega) (by omega) (by omega) ?_ ?_ (fun k hk hkj hc => ?_) (fun _ => ?_)⟩, o1, fun _ => o2, ⟨fun k hk => ?_, fun _ _ => ?_, by omega, by omega⟩⟩
    · rw [g, if_neg (by omega)]
    · rw [g, if_neg (by omega)]; exact h.free
    · have : S k 1 ≠ S j 1 := fun e => hkj (h.inj k j hk hj e)
      rw [g, if_neg (by omega)]; exact h.set k hk hc
    · rw [g, if_pos rfl]
    · rw [spat, if_neg (by simp [hk])]
    · rw [spat, if_pos (by simp)]; simp
  · obtain ⟨o1, o2⟩ := op_swap (b := b) (m := n + 2) (v := S j 1) hf i0 (by omega) (by omega)
    have g := fun k => get_swap (A := A) (i := b) (v := S j 1) (j := k) hf.1 i0
    simp only [q, Int.reduceEq, if_true, if_false, decide_true, decide_false]
    refine ⟨⟨Q ++ [j], f, h.enq hj q ?_ fun x h1 h2 => ?_⟩, o1, by omega, ⟨fun k hk => ?_, fun _ _ => ?_, by omega, by omega⟩⟩
    · rw [g, if_pos rfl]
    · rw [g, if_neg (by omega)]
    · rw [spat, if_neg (by simp [hk]), spat, if_neg (by simp [hk])]
    · rw [spat, if_pos (by simp)]; simp
  · obtain ⟨ha, hz⟩ := h.ahead hj (by omega)
    simp only [hbx ha.1 ha.2]
    have i1 : A.has ((b : Int) + S j 2) = true := has_iff.2 (by omega)
    obtain ⟨o1, o2⟩ := op_load (b := b) (m := n + 2) hf i1 (by omega) (by omega)
    simp only [q, Int.reduceEq, if_true, if_false, decide_true, decide_false]
    by_cases c : A.get ((b : Int) + S j 2) = 0
    · simp only [c, if_true, decide_true]
      refine ⟨⟨Q, f, h.turn hj (by omega) (by omega) (fun _ => hz c) get_load (get_load.trans h.free) (fun k hk _ hc => get_load.trans (h.set k hk hc)) (fun _ => get_load.trans (h.set j hj (by omega)))⟩, o1, by omega, ⟨fun k hk => ?_, fun _ _ => ?_, by omega, by omega⟩⟩
      · rw [spat, if_neg (by simp [hk])]
      · rw [spat, if_pos (by simp)]; simp
    · simp only [c, if_false, decide_false]
      exact ⟨⟨Q, f, h.frame fun i _ _ => get_load⟩, o1, by omega, ⟨fun _ _ => rfl, by simp [q], by omega, by omega⟩⟩
  · simp only [q, Int.reduceEq, if_true, if_false, decide_true, decide_false]
    exact ⟨⟨Q, f, h⟩, Op1.refl _ _ _, by simp, ⟨fun _ _ => rfl, by simp [q], by simp [q], by simp [q]⟩⟩
  · rw [hbx hx.1 hx.2]
    have i1 : A.has ((b : Int) + S j 1) = true := has_iff.2 (by omega)
    obtain ⟨o1, o2⟩ := op_store (b := b) (m := n + 2) (v := 0) hf i1 (by omega) (by omega)
    have g := fun k => get_store (A := A) (i := (b : Int) + S j 1) (v := 0) (j := k) hf.1 i1
    simp only [q, Int.reduceEq, if_true, if_false, decide_true, decide_false]
    refine ⟨⟨_, _, h.quit hj q ?_ ?_ fun x h1 h2 h3 => ?_⟩, o1, by omega, ⟨fun k hk => ?_, by omega, fun _ => ?_, by omega⟩⟩
    · rw [g, if_neg (by omega)]
    · rw [g, if_pos rfl]
    · rw [g, if_neg (by omega)]
    · rw [spat, if_neg (by simp [hk]), spat, if_neg (by simp [hk])]
    · rw [spat, if_pos (by simp)]; simp
end
end Go.Proofs.YteijjhahgabalaaGreat

/- The contracts of package ticket: New; what the laws do with a lock; the arena's Last. -/
namespace Go.Proofs.YteijjhahgabalaaGreat
open Go.RowKit

theorem KkAt.to2 {w : World} {lb ab sb next : Nat} {S T : Nat → Nat → Int} (h : KkAt w lb ab sb next 2 S) (e : ∀ i, i < 2 → ∀ t, t < 4 → S i t = T i t) : KkAt w lb ab sb next 2 T := by
  have hc : spC 2 S = spC 2 T := by
    unfold spC
    apply List.map_congr_left
    intro j hj
    have hj' := List.mem_range.1 hj
    rw [e (j / 4) (by omega) (j % 4) (by omega)]
  have hr := h.row
  rw [hc] at hr
  exact { h with row := hr }

section
variable {w : World} {lb ab wb sb next n : Nat} {S : Nat → Nat → Int} {A : AR}
theorem kNew_ok (hA : ArAt w ab wb A) (n : Nat) (hn1 : 1 ≤ n) (hn : n ≤ 32) (ht : A.takeE 2 = 0) :
    Calls Tryz.prog 50 #[.pointer (some ⟨ab, 0, none⟩), .int .i64 n] w fun e w' => ∃ lb sb, e = .returned (.tuple #[.pointer (some ⟨lb, 0, none⟩), .int .i64 0]) ∧ w.heap.size ≤ lb ∧ w.heap.size ≤ sb ∧
      KkAt w' lb ab sb (A.taken + 1) n (fun _ _ => 0) ∧ ArAt w' ab wb (A.take 2) ∧ Frm [ab, wb] w w' := by
  have d1 : decide ((n : Int) < 1) = false := by simp; omega
  have d2 : decide ((32 : Int) < n) = false := by simp; omega
  have mk := mkSpots n (by omega)
  have hT := Take_any hA 2
  have hn' : A.takeN 2 = (A.taken : Int) + 1 := by unfold AR.takeN; rw [if_pos ht]
  rw [ht, hn'] at hT
  have HT := Lib.hid hT
  have hab := hA.box.lt
  have hwb := hA.row.lt
  have hroom := hA.room
  have hle := hA.le
  have htk : A.taken + 1 ≤ 4096 := by
    unfold AR.takeE at ht
    rw [if_neg (by omega)] at ht
    by_cases hb : (A.ws.length : Int) - (A.taken : Int) < 2
    · rw [if_pos hb] at ht; omega
    · omega
  clear hA hT hn' ht
  go_enter Tryz.func50, Tryz.ntmps50
  go_wp2_with fail
  refine HT.out.mono ?_
  rintro e w1 ⟨rfl, hA', hF⟩
  have hsz := hF.size
  have HF := Lib.hid hF
  have HA := Lib.hid hA'
  clear hA' hF
  go_wp2
  go_ret2
  have g1 := (HAt.new w1 (spC n fun _ _ => 0).toArray 138).alloc (.cells #[.slice (some ⟨w1.heap.size, 0, none⟩) n n, .pointer (some ⟨ab, 0, none⟩), .int .i64 ((A.taken : Int) + 1)] 148)
  have g2 := HAt.new (w1.alloc (.cells (spC n fun _ _ => 0).toArray 138)) #[.slice (some ⟨w1.heap.size, 0, none⟩) n n, .pointer (some ⟨ab, 0, none⟩), .int .i64 ((A.taken : Int) + 1)] 148
  rw [World.size_alloc] at g2
  refine ⟨w1.heap.size + 1, w1.heap.size, rfl, by omega, hsz, ?_, ?_, (HF.out.alloc _).alloc _⟩
  · exact { box := by simpa using g2, row := by simpa using g1, ne := by omega, n1 := hn1, n32 := hn, nx := htk }
  · exact HA.out.frm (S := []) (((Frm.refl _ _).alloc _).alloc _) (by simp) (by simp)
theorem kNew_big (p : Option Addr) (s : Int) (hs : 32 < s) (w : World) : Calls Tryz.prog 50 #[.pointer p, .int .i64 s] w fun e w' => e = .returned (.tuple #[.pointer none, .int .i64 1]) ∧ w = w' := by
  have d1 : decide (s < 1) = false := by simp; omega
  have d2 : decide (32 < s) = true := by simpa using hs
  clear hs
  go_enter Tryz.func50, Tryz.ntmps50
  go_wp2
  go_ret2
  exact ⟨rfl, rfl⟩
end
end Go.Proofs.YteijjhahgabalaaGreat

/- The contracts of package parted: Slots, spot, Spot, turn, Ask, Leave. (Printed by gen_row.py.) -/
namespace Go.Proofs.YteijjhahgabalaaGreat
open Go.RowKit

/-- tickets that are served at several places: the lock in block lb, its spots in sb, its arena in ab and wb -/
structure PtAt (w : World) (lb sb ab wb next parts n : Nat) (A : AR) (S : Nat → Nat → Int) : Prop where
  box : HAt w lb [.pointer (some ⟨ab, 0, none⟩), .int .i64 next, .int .i64 parts, .slice (some ⟨sb, 0, none⟩) n n] 150
  row : HAt w sb (spC n S) 138
  ar : ArAt w ab wb A
  ne : lb ≠ sb ∧ lb ≠ ab ∧ lb ≠ wb ∧ sb ≠ ab ∧ sb ≠ wb
  n1 : 1 ≤ n
  n32 : n ≤ 32
  tb : next ≤ 4096
  q1 : 1 ≤ parts
  q2 : parts ≤ 32
section
variable {w w' : World} {lb sb ab wb next parts n : Nat} {A A' : AR} {S : Nat → Nat → Int}
theorem PtAt.frm (h : PtAt w lb sb ab wb next parts n A S) {Z : List Nat} (hf : Frm Z w w') (hz : ∀ k ∈ [lb, sb, ab, wb], k ∉ Z) : PtAt w' lb sb ab wb next parts n A S :=
  { h with box := h.box.frm hf (hz _ (by simp)), row := h.row.frm hf (hz _ (by simp)), ar := h.ar.frm hf (hz _ (by simp)) (hz _ (by simp)) }
theorem PtAt.ar_ (h : PtAt w lb sb ab wb next parts n A S) (hf : Frm [ab, wb] w w') (hA : ArAt w' ab wb A') : PtAt w' lb sb ab wb next parts n A' S :=
  { h with box := h.box.frm hf (by simp; have := h.ne; omega), row := h.row.frm hf (by simp; have := h.ne; omega), ar := hA }
theorem PtAt.put (h : PtAt w lb sb ab wb next parts n A S) (j : Nat) {t : Nat} (ht : t < 4) (v : Int) :
    PtAt (w.setCell ⟨sb, j * 4 + t, none⟩ (.int .i64 v)) lb sb ab wb next parts n A (spPut S j t v) := by
  have hr := h.row.set (j * 4 + t) (.int .i64 v)
  rw [spC_putT n S ht v] at hr
  have hf : Frm [sb] w (w.setCell ⟨sb, j * 4 + t, none⟩ (.int .i64 v)) := (Frm.refl _ _).set _ _ (.inl (by simp))
  have hn := h.ne
  exact { h with box := h.box.frm hf (by simp; omega), row := hr, ar := h.ar.frm hf (by simp; omega) (by simp; omega) }
theorem PtAt.p (h : PtAt w lb sb ab wb next parts n A S) {j : Nat} (hj : j < n) {t : Nat} (ht : t < 4) : w.cell? ⟨sb, j * 4 + t, none⟩ = some (.int .i64 (S j t)) := h.row.cell (spC_getT n S hj ht)
theorem PtAt.p0 (h : PtAt w lb sb ab wb next parts n A S) {j : Nat} (hj : j < n) : w.cell? ⟨sb, j * 4, none⟩ = some (.int .i64 (S j 0)) := h.row.cell (spC_getT n S (t := 0) hj (by omega))
end
section
variable {w w' : World} {lb sb ab wb next parts n : Nat} {A A' : AR} {S : Nat → Nat → Int}
theorem pSlots_any (h : PtAt w lb sb ab wb next parts n A S) : Calls Tryz.prog 187 #[.pointer (some ⟨lb, 0, none⟩)] w fun e w' => e = .returned (.int .i64 n) ∧ w = w' := by
  have c3 := h.box.cell (i := 3) rfl
  clear h
  go_enter Tryz.func187, Tryz.ntmps187
  go_wp2
  go_ret
  exact ⟨rfl, rfl⟩
theorem pspot_no (h : PtAt w lb sb ab wb next parts n A S) {i : Int} (hi : sHas n i = false) : Calls Tryz.prog 191 #[.pointer (some ⟨lb, 0, none⟩), .int .i64 i] w fun e w' => e = .returned (.pointer none) ∧ w = w' := by
  have HS := Lib.hid (pSlots_any h)
  clear h
  by_cases hneg : i < 0
  · have d1 : decide (i < 0) = true := by simpa using hneg
    clear hi
    go_enter Tryz.func191, Tryz.ntmps191
    go_wp2
    go_ret
    exact ⟨rfl, rfl⟩
  · have d1 : decide (i < 0) = false := by simpa using hneg
    have d2 : decide ((n : Int) ≤ i) = true := by unfold sHas at hi; simp at hi; simp; omega
    clear hi
    go_enter Tryz.func191, Tryz.ntmps191
    go_wp2_with fail
    refine HS.out.mono ?_
    rintro e w' ⟨rfl, rfl⟩
    go_wp2
    go_ret
    exact ⟨rfl, rfl⟩
theorem pspot_yes (h : PtAt w lb sb ab wb next parts n A S) {i : Nat} (hi : i < n) : Calls Tryz.prog 191 #[.pointer (some ⟨lb, 0, none⟩), .int .i64 i] w fun e w' => e = .returned (.pointer (some ⟨sb, i * 4, none⟩)) ∧ w = w' := by
  have HS := Lib.hid (pSlots_any h)
  have c3 := h.box.cell (i := 3) rfl
  have hn := h.n32
  clear h
  have d1 : decide ((i : Int) < 0) = false := by simp
  have d2 : decide ((n : Int) ≤ i) = false := by simp; omega
  have d3 : decide (n ≤ i) = false := by simp; omega
  have l1 : (i : Int) < n := by omega
  go_enter Tryz.func191, Tryz.ntmps191
  go_wp2_with fail
  refine HS.out.mono ?_
  rintro e w' ⟨rfl, rfl⟩
  go_wp2
  go_ret
  exact ⟨rfl, rfl⟩
theorem pSpot_any (h : PtAt w lb sb ab wb next parts n A S) (i : Int) : Calls Tryz.prog 188 #[.pointer (some ⟨lb, 0, none⟩), .int .i64 i] w fun e w' => e = .returned (spV n S i) ∧ Frm [] w w' := by
  cases hi : sHas n i with
  | false =>
    have HS := Lib.hid (fun (W : World) (hf : Frm [] w W) => pspot_no (h.frm hf (by simp)) hi)
    have hr : spV n S i = .agg #[.int .i64 0, .int .i64 0, .int .i64 0, .int .i64 0] := by unfold spV; rw [hi]; rfl
    rw [hr]
    clear h hr hi
    go_enter Tryz.func188, Tryz.ntmps188
    go_wp2_with fail
    refine (HS.out _ ((Frm.refl _ _).alloc _)).mono ?_
    rintro e w' ⟨rfl, rfl⟩
    go_wp2_with fail
    exact bodyPost_ret (v := .agg #[.int .i64 0, .int .i64 0, .int .i64 0, .int .i64 0]) (by simp [results, Tryz.results188, go_sem]) rfl ⟨rfl, (Frm.refl _ _).alloc _⟩
  | true =>
    have hi' : 0 ≤ i ∧ i < (n : Int) := by unfold sHas at hi; simpa using hi
    obtain ⟨j, rfl⟩ := Int.eq_ofNat_of_zero_le hi'.1
    have hj : j < n := by omega
    have HS := Lib.hid (fun (W : World) (hf : Frm [] w W) => pspot_yes (h.frm hf (by simp)) hj)
    have hr : spV n S j = .agg #[.int .i64 (S j 0), .int .i64 (S j 1), .int .i64 (S j 2), .int .i64 (S j 3)] := by unfold spV; rw [hi]; rfl
    rw [hr]
    have hkk : ∀ wx, Frm [] w wx → wx.cell? ⟨sb, j * 4, none⟩ = some (.int .i64 (S j 0)) ∧ wx.cell? ⟨sb, j * 4 + 1, none⟩ = some (.int .i64 (S j 1)) ∧ wx.cell? ⟨sb, j * 4 + 2, none⟩ = some (.int .i64 (S j 2)) ∧ wx.cell? ⟨sb, j * 4 + 3, none⟩ = some (.int .i64 (S j 3)) := fun wx hf =>
      ⟨(h.frm hf (by simp)).p0 hj, (h.frm hf (by simp)).p hj (by omega), (h.frm hf (by simp)).p hj (by omega), (h.frm hf (by simp)).p hj (by omega)⟩
    have KK := Lib.hid hkk
    clear h hr hi hkk hi'
    go_enter Tryz.func188, Tryz.ntmps188
    go_wp2_with fail
    refine (HS.out _ ((Frm.refl _ _).alloc _)).mono ?_
    rintro e w' ⟨rfl, rfl⟩
    obtain ⟨c0, c1, c2, c3⟩ := KK.out _ ((Frm.refl [] w).alloc (.cells #[.int .i64 0, .int .i64 0, .int .i64 0, .int .i64 0] 138))
    go_wp2_with fail
    refine bodyPost_ret (v := .agg #[.int .i64 (S j 0), .int .i64 (S j 1), .int .i64 (S j 2), .int .i64 (S j 3)]) (by simp [results, Tryz.results188, go_sem]) rfl ⟨rfl, ?_⟩
    exact (Frm.refl _ _).alloc _
theorem pturn_any (h : PtAt w lb sb ab wb next parts n A S) (i pc nw : Int) : Calls Tryz.prog 190 #[.pointer (some ⟨lb, 0, none⟩), .int .i64 i, .int .i64 pc, .int .i64 nw] w fun e w' => e = .returned (.bool (kTurnOk n S i pc)) ∧ PtAt w' lb sb ab wb next parts n A (kTurn n S i pc nw) ∧ Frm [sb] w w' := by
  have H := Lib.hid h
  cases hi : sHas n i with
  | false =>
    have hq : kTurnOk n S i pc = false := by unfold kTurnOk; rw [hi]; rfl
    have hr : kTurn n S i pc nw = S := by unfold kTurn; rw [hq]; rfl
    have HS := Lib.hid (pspot_no h hi)
    rw [hr, hq]
    clear h hq hr hi
    go_enter Tryz.func190, Tryz.ntmps190
    go_wp2_with fail
    refine HS.out.mono ?_
    rintro e w' ⟨rfl, rfl⟩
    go_wp2
    go_ret
    exact ⟨rfl, H.out, Frm.refl _ _⟩
  | true =>
    have hi' : 0 ≤ i ∧ i < (n : Int) := by unfold sHas at hi; simpa using hi
    obtain ⟨j, rfl⟩ := Int.eq_ofNat_of_zero_le hi'.1
    have hj : j < n := by omega
    have ej : ((j : Int)).toNat = j := by omega
    have HS := Lib.hid (pspot_yes h hj)
    have c0 := h.p0 hj
    cases hq : decide (S j 0 = pc) with
    | false =>
      have hr2 : kTurnOk n S j pc = false := by unfold kTurnOk; rw [hi]; simpa using hq
      have hr : kTurn n S j pc nw = S := by unfold kTurn; rw [hr2]; rfl
      rw [hr, hr2]
      have e1 : (S j 0 != pc) = true := by simpa using hq
      generalize S j 0 = q at *
      clear h hq hr hr2 hi hi' ej
      go_enter Tryz.func190, Tryz.ntmps190
      go_wp2_with fail
      refine HS.out.mono ?_
      rintro e w' ⟨rfl, rfl⟩
      go_wp2
      go_ret
      exact ⟨rfl, H.out, Frm.refl _ _⟩
    | true =>
      have hpc : S j 0 = pc := by simpa using hq
      have hr2 : kTurnOk n S j pc = true := by unfold kTurnOk; rw [hi]; simpa using hq
      have hr : kTurn n S j pc nw = spPut S j 0 nw := by unfold kTurn; rw [hr2, if_pos rfl, ej]
      rw [hr, hr2]
      rw [hpc] at c0
      have e1 : (pc != pc) = false := by simp
      have hfz := h.row.frozen
      have HP := Lib.hid (h.put j (t := 0) (by omega) nw)
      clear h hq hr hr2 hi hi' hpc ej
      go_enter Tryz.func190, Tryz.ntmps190
      go_wp2_with fail
      refine HS.out.mono ?_
      rintro e w' ⟨rfl, rfl⟩
      go_wp2
      go_ret
      exact ⟨rfl, HP.out, (Frm.refl [sb] w).set ⟨sb, j * 4, none⟩ _ (.inl (by simp))⟩
theorem pAsk_any (h : PtAt w lb sb ab wb next parts n A S) (i : Int) : Calls Tryz.prog 185 #[.pointer (some ⟨lb, 0, none⟩), .int .i64 i] w fun e w' => e = .returned (.bool (kTurnOk n S i 0)) ∧ PtAt w' lb sb ab wb next parts n A (kTurn n S i 0 1) ∧ Frm [sb] w w' := by
  have HT := Lib.hid (pturn_any h i 0 1)
  clear h
  go_enter Tryz.func185, Tryz.ntmps185
  go_wp2_with fail
  refine HT.out.mono ?_
  rintro e w' ⟨rfl, hK, hF⟩
  have HK := Lib.hid hK
  have HF := Lib.hid hF
  clear hK hF
  go_wp2
  go_ret
  exact ⟨rfl, HK.out, HF.out⟩
theorem pLeave_any (h : PtAt w lb sb ab wb next parts n A S) (i : Int) : Calls Tryz.prog 186 #[.pointer (some ⟨lb, 0, none⟩), .int .i64 i] w fun e w' => e = .returned (.bool (kTurnOk n S i 10)) ∧ PtAt w' lb sb ab wb next parts n A (kTurn n S i 10 11) ∧ Frm [sb] w w' := by
  have HT := Lib.hid (pturn_any h i 10 11)
  clear h
  go_enter Tryz.func186, Tryz.ntmps186
  go_wp2_with fail
  refine HT.out.mono ?_
  rintro e w' ⟨rfl, hK, hF⟩
  have HK := Lib.hid hK
  have HF := Lib.hid hF
  clear hK hF
  go_wp2
  go_ret
  exact ⟨rfl, HK.out, HF.out⟩
end
end Go.Proofs.YteijjhahgabalaaGreat

/- The contracts of package mcs: goes, Step, Alone, New, as functions of the spots and the words. -/
namespace Go.Proofs.YteijjhahgabalaaGreat
open Go.RowKit
theorem spotPcG (a b c d : Int) (W : World) : (Instr.field 138 (.agg #[.int .i64 a, .int .i64 b, .int .i64 c, .int .i64 d]) 0).run Tryz.prog W = .ok (.int .i64 a) W := by kernel_rfl
section
variable {w w' : World} {lb sb ab wb tail n : Nat} {A A' : AR} {S S' : Nat → Nat → Int}
theorem c_goes_in (h : McAt w lb sb ab wb tail n A S) {j : Nat} (hj : j < n) {res : Int} (fin : Int)
    (HC : ∀ W, Frm [] w W → Calls Tryz.prog 203 #[.pointer (some ⟨lb, 0, none⟩), .pointer (some ⟨sb, j * 4, none⟩), .int .i64 ((j : Int) + 1)] W fun e w' => e = .returned (.int .i64 res) ∧ McAt w' lb sb ab wb tail n A' S' ∧ Frm [sb, ab, wb] W w') :
    Calls Tryz.prog 202 #[.pointer (some ⟨lb, 0, none⟩), .int .i64 j, .int .i64 fin, .func (.func 203) #[.pointer (some ⟨lb, 0, none⟩)] #[]] w fun e w' => e = .returned (.bool (res == fin)) ∧ McAt w' lb sb ab wb tail n A' (spPut S' j 0 res) ∧ Frm [sb, ab, wb] w w' := by
  have HS := Lib.hid (cspot_yes h hj)
  have hn := h.n32
  have HC := Lib.hid (HC w (Frm.refl _ _))
  have HJ := Lib.hid hj
  clear h
  cases hb : (res == fin)
  all_goals
    go_enter Tryz.func202, Tryz.ntmps202
    go_wp2_with fail
    refine HS.out.mono ?_
    rintro e w' ⟨rfl, rfl⟩
    go_wp2_with (go_at_call 203; refine HC.out.mono ?_; rintro e w2 ⟨rfl, hM, hF⟩; have hz := hM.row.frozen; have hk0 := hM.p0 HJ.out; have HM := Lib.hid (hM.put j (t := 0) (by omega) res); have HF := Lib.hid (hF.set ⟨sb, j * 4, none⟩ (.int .i64 res) (.inl (by simp))); clear hM hF)
    go_ret
    exact ⟨rfl, HM.out, HF.out⟩
theorem c_goes_out (h : McAt w lb sb ab wb tail n A S) {j : Nat} (hj : j < n) {res : Int} (fin : Int)
    (HC : ∀ W, Frm [] w W → Calls Tryz.prog 204 #[.pointer (some ⟨lb, 0, none⟩), .pointer (some ⟨sb, j * 4, none⟩), .int .i64 ((j : Int) + 1)] W fun e w' => e = .returned (.int .i64 res) ∧ McAt w' lb sb ab wb tail n A' S' ∧ Frm [sb, ab, wb] W w') :
    Calls Tryz.prog 202 #[.pointer (some ⟨lb, 0, none⟩), .int .i64 j, .int .i64 fin, .func (.func 204) #[.pointer (some ⟨lb, 0, none⟩)] #[]] w fun e w' => e = .returned (.bool (res == fin)) ∧ McAt w' lb sb ab wb tail n A' (spPut S' j 0 res) ∧ Frm [sb, ab, wb] w w' := by
  have HS := Lib.hid (cspot_yes h hj)
  have hn := h.n32
  have HC := Lib.hid (HC w (Frm.refl _ _))
  have HJ := Lib.hid hj
  clear h
  cases hb : (res == fin)
  all_goals
    go_enter Tryz.func202, Tryz.ntmps202
    go_wp2_with fail
    refine HS.out.mono ?_
    rintro e w' ⟨rfl, rfl⟩
    go_wp2_with (go_at_call 204; refine HC.out.mono ?_; rintro e w2 ⟨rfl, hM, hF⟩; have hz := hM.row.frozen; have hk0 := hM.p0 HJ.out; have HM := Lib.hid (hM.put j (t := 0) (by omega) res); have HF := Lib.hid (hF.set ⟨sb, j * 4, none⟩ (.int .i64 res) (.inl (by simp))); clear hM hF)
    go_ret
    exact ⟨rfl, HM.out, HF.out⟩
theorem c_step_in (h : McAt w lb sb ab wb tail n A S) {j : Nat} (hj : j < n) {pc res : Int} (h0 : S j 0 = pc) (hpc : 1 ≤ pc ∧ pc < 10)
    (HC : ∀ W, Frm [] w W → Calls Tryz.prog 203 #[.pointer (some ⟨lb, 0, none⟩), .pointer (some ⟨sb, j * 4, none⟩), .int .i64 ((j : Int) + 1)] W fun e w' => e = .returned (.int .i64 res) ∧ McAt w' lb sb ab wb tail n A' S' ∧ Frm [sb, ab, wb] W w') :
    Calls Tryz.prog 199 #[.pointer (some ⟨lb, 0, none⟩), .int .i64 j] w fun e w' => e = .returned (.bool (res == 10)) ∧ McAt w' lb sb ab wb tail n A' (spPut S' j 0 res) ∧ Frm [sb, ab, wb] w w' := by
  have HS := Lib.hid (cSpot_any h j)
  have fd := spotPcG
  have hr : spV n S j = .agg #[.int .i64 pc, .int .i64 (S j 1), .int .i64 (S j 2), .int .i64 (S j 3)] := by unfold spV; rw [if_pos (by unfold sHas; simpa using hj), ← h0]; rfl
  rw [hr] at HS
  have d1 : decide (0 < pc) = true := by simp; omega
  have d2 : decide (pc < 10) = true := by simp; omega
  have hmf : ∀ (fn : Fn) (first cap : Array Value) (w : World), (Instr.makeFunc fn first cap).run Tryz.prog w = .ok (.func fn first cap) w := fun _ _ _ _ => rfl
  have HG := Lib.hid (fun (W : World) (hf : Frm [] w W) => c_goes_in (h.frm hf (by simp)) hj 10 (fun W2 hf2 => HC W2 (hf.trans hf2)))
  clear h hr h0 hpc hj HC
  go_enter Tryz.func199, Tryz.ntmps199
  go_wp2_with fail
  refine HS.out.mono ?_
  rintro e w1 ⟨rfl, hF⟩
  have HF := Lib.hid hF
  clear hF
  go_wp2_with (go_at_call 202; refine (HG.out _ HF.out).mono ?_; rintro e w2 ⟨rfl, hM, hF⟩; have HM := Lib.hid (And.intro hM ((HF.out.mono (S' := [sb, ab, wb]) (by simp)).trans hF)); clear hM hF)
  go_ret
  exact ⟨rfl, HM.out⟩
theorem c_step_out (h : McAt w lb sb ab wb tail n A S) {j : Nat} (hj : j < n) {pc res : Int} (h0 : S j 0 = pc) (hpc : 10 < pc)
    (HC : ∀ W, Frm [] w W → Calls Tryz.prog 204 #[.pointer (some ⟨lb, 0, none⟩), .pointer (some ⟨sb, j * 4, none⟩), .int .i64 ((j : Int) + 1)] W fun e w' => e = .returned (.int .i64 res) ∧ McAt w' lb sb ab wb tail n A' S' ∧ Frm [sb, ab, wb] W w') :
    Calls Tryz.prog 199 #[.pointer (some ⟨lb, 0, none⟩), .int .i64 j] w fun e w' => e = .returned (.bool (res == 0)) ∧ McAt w' lb sb ab wb tail n A' (spPut S' j 0 res) ∧ Frm [sb, ab, wb] w w' := by
  have HS := Lib.hid (cSpot_any h j)
  have fd := spotPcG
  have hr : spV n S j = .agg #[.int .i64 pc, .int .i64 (S j 1), .int .i64 (S j 2), .int .i64 (S j 3)] := by unfold spV; rw [if_pos (by unfold sHas; simpa using hj), ← h0]; rfl
  rw [hr] at HS
  have d1 : decide (0 < pc) = true := by simp; omega
  have d2 : decide (pc < 10) = false := by simp; omega
  have d3 : decide (10 < pc) = true := by simp; omega
  have hmf : ∀ (fn : Fn) (first cap : Array Value) (w : World), (Instr.makeFunc fn first cap).run Tryz.prog w = .ok (.func fn first cap) w := fun _ _ _ _ => rfl
  have HG := Lib.hid (fun (W : World) (hf : Frm [] w W) => c_goes_out (h.frm hf (by simp)) hj 0 (fun W2 hf2 => HC W2 (hf.trans hf2)))
  clear h hr h0 hpc hj HC
  go_enter Tryz.func199, Tryz.ntmps199
  go_wp2_with fail
  refine HS.out.mono ?_
  rintro e w1 ⟨rfl, hF⟩
  have HF := Lib.hid hF
  clear hF
  go_wp2_with (go_at_call 202; refine (HG.out _ HF.out).mono ?_; rintro e w2 ⟨rfl, hM, hF⟩; have HM := Lib.hid (And.intro hM ((HF.out.mono (S' := [sb, ab, wb]) (by simp)).trans hF)); clear hM hF)
  go_ret
  exact ⟨rfl, HM.out⟩
theorem c_idle (h : McAt w lb sb ab wb tail n A S) (i : Int) (hi : sHas n i = false ∨ S i.toNat 0 = 0 ∨ S i.toNat 0 = 10) : Calls Tryz.prog 199 #[.pointer (some ⟨lb, 0, none⟩), .int .i64 i] w fun e w' => e = .returned (.bool false) ∧ Frm [] w w' := by
  have HS := Lib.hid (cSpot_any h i)
  have fd := spotPcG
  have hv : ∃ a b c p : Int, (p = 0 ∨ p = 10) ∧ spV n S i = .agg #[.int .i64 p, .int .i64 a, .int .i64 b, .int .i64 c] := by
    unfold spV
    rcases hi with hi | hi | hi
    · rw [if_neg (by simp [hi])]; exact ⟨0, 0, 0, 0, .inl rfl, rfl⟩
    · by_cases hh : sHas n i
      · rw [if_pos hh]; exact ⟨_, _, _, _, .inl hi, rfl⟩
      · rw [if_neg hh]; exact ⟨0, 0, 0, 0, .inl rfl, rfl⟩
    · by_cases hh : sHas n i
      · rw [if_pos hh]; exact ⟨_, _, _, _, .inr hi, rfl⟩
      · rw [if_neg hh]; exact ⟨0, 0, 0, 0, .inl rfl, rfl⟩
  obtain ⟨a, b, c, p, hp, hv⟩ := hv
  rw [hv] at HS
  clear hv hi h
  rcases hp with rfl | rfl
  all_goals
    go_enter Tryz.func199, Tryz.ntmps199
    go_wp2_with fail
    refine HS.out.mono ?_
    rintro e w1 ⟨rfl, hF⟩
    have HF := Lib.hid hF
    clear hF
    go_wp2
    go_ret
    exact ⟨rfl, HF.out⟩
end
end Go.Proofs.YteijjhahgabalaaGreat

/- The contracts of package clh: Alone, Step. (Printed by gen_flat.py.) -/
namespace Go.Proofs.YteijjhahgabalaaGreat
open Go.RowKit
section
variable {w w' : World} {lb sb ab wb tail n : Nat} {X : Nat × List Value} {A A' : AR} {S : Nat → Nat → Int}
theorem hBox_any (h : ClAt w lb sb ab wb tail n X A S) {bx : Nat} (hc : w.cell? ⟨bx, 0, none⟩ = some (.pointer (some ⟨lb, 0, none⟩))) (y : Int) : Calls Tryz.prog 218 #[.int .i64 y, .pointer (some ⟨bx, 0, none⟩)] w fun e w' => e = .returned (.int .i64 (hBox tail y)) ∧ w = w' := by
  have c1 := h.box.cell (i := 1) rfl
  have htb := h.tb
  clear h
  unfold hBox
  go_enter Tryz.func218, Tryz.ntmps218
  go_wp2
  go_ret
  exact ⟨rfl, rfl⟩
theorem hStep_idle (h : ClAt w lb sb ab wb tail n X A S) (i : Int) (hi : sHas n i = false ∨ (S i.toNat 0 ≠ 1 ∧ S i.toNat 0 ≠ 2 ∧ S i.toNat 0 ≠ 3 ∧ S i.toNat 0 ≠ 11)) : Calls Tryz.prog 215 #[.pointer (some ⟨lb, 0, none⟩), .int .i64 i] w fun e w' => e = .returned (.bool false) ∧ Frm [] w w' := by
  have hF : Frm [] w (w.alloc (.cells #[.pointer (some ⟨lb, 0, none⟩)] 110)) := (Frm.refl _ _).alloc _
  have hmf : ∀ (fn : Fn) (first cap : Array Value) (w : World), (Instr.makeFunc fn first cap).run Tryz.prog w = .ok (.func fn first cap) w := fun _ _ _ _ => rfl
  cases hh : sHas n i with
  | false =>
    have HS := Lib.hid (fun (W : World) (hf : Frm [] w W) => hspot_no (h.frm hf (by simp)) hh)
    clear h hi hh
    go_enter Tryz.func215, Tryz.ntmps215
    go_wp2_with fail
    refine (HS.out _ hF).mono ?_
    rintro e w' ⟨rfl, rfl⟩
    have HF := Lib.hid hF
    clear hF
    go_wp2
    go_ret
    exact ⟨rfl, HF.out⟩
  | true =>
    have hi' : 0 ≤ i ∧ i < (n : Int) := by unfold sHas at hh; simpa using hh
    obtain ⟨j, rfl⟩ := Int.eq_ofNat_of_zero_le hi'.1
    have hj : j < n := by omega
    have hi2 := hi.resolve_left (by simp [hh])
    rw [Int.toNat_natCast] at hi2
    obtain ⟨p1, p2, p3, p4⟩ := hi2
    have HS := Lib.hid (fun (W : World) (hf : Frm [] w W) => hspot_yes (h.frm hf (by simp)) hj)
    have hc0 := (h.frm hF (by simp)).p0 hj
    generalize S j 0 = p at *
    have d1 : (p == 1) = false := by simpa using p1
    have d2 : (p == 2) = false := by simpa using p2
    have d3 : (p == 3) = false := by simpa using p3
    have d4 : (p == 11) = false := by simpa using p4
    clear h hi hh p1 p2 p3 p4 hi'
    go_enter Tryz.func215, Tryz.ntmps215
    go_wp2_with fail
    refine (HS.out _ hF).mono ?_
    rintro e w' ⟨rfl, rfl⟩
    have HF := Lib.hid hF
    clear hF
    go_wp2
    go_ret
    exact ⟨rfl, HF.out⟩
set_option maxRecDepth 100000 in
theorem hStep_1 (h : ClAt w lb sb ab wb tail n X A S) {j : Nat} (hj : j < n) (hq : S j 0 = 1) : Calls Tryz.prog 215 #[.pointer (some ⟨lb, 0, none⟩), .int .i64 j] w fun e w' => e = .returned (.bool false) ∧
    ClAt w' lb sb ab wb tail n X (A.store (hBox tail (S j 1)) 1) (spPut S j 0 2) ∧ Frm [sb, ab, wb] w w' := by
  have HN := Lib.hid h.ne
  have HJ := Lib.hid hj
  have hn32 := h.n32
  have htb := h.tb
  have HS := Lib.hid (fun (W : World) (hf : Frm [] w W) => hspot_yes (h.frm hf (by simp)) hj)
  have hc0 := fun (W : World) (hf : Frm [] w W) => (h.frm hf (by simp)).p0 hj
  simp only [hq] at hc0
  have HC0 := Lib.hid hc0
  have hmf : ∀ (fn : Fn) (first cap : Array Value) (w : World), (Instr.makeFunc fn first cap).run Tryz.prog w = .ok (.func fn first cap) w := fun _ _ _ _ => rfl
  have HLT := Lib.hid h.box.lt
  have HLS := Lib.hid h.row.lt
  have HLA := Lib.hid h.ar.box.lt
  have HLB := Lib.hid h.ar.row.lt
  have H := Lib.hid h
  have H0 := Lib.hid hq
  have i1 : (j : Int) < n := by omega
  clear h hq hj hc0
  go_enter Tryz.func215, Tryz.ntmps215
  go_wp2_with fail
  have hF : Frm [] w (w.alloc (.cells #[.pointer (some ⟨lb, 0, none⟩)] 110)) := (Frm.refl _ _).alloc _
  have hc0 := HC0.out _ hF
  have hb0 := (HAt.new w #[.pointer (some ⟨lb, 0, none⟩)] 110).cell (i := 0) rfl
  have HBX := Lib.hid (HAt.new w #[.pointer (some ⟨lb, 0, none⟩)] 110)
  refine (HS.out _ hF).mono ?_
  rintro e w' ⟨rfl, rfl⟩
  have HFW := Lib.hid hF
  have HAW := Lib.hid (H.out.frm hF (by simp))
  have hK0 := HAW.out.p0 HJ.out
  clear hF
  obtain ⟨bx, hbx⟩ : ∃ bx, bx = w.heap.size := ⟨_, rfl⟩
  have hnb : bx ≠ lb ∧ bx ≠ sb ∧ bx ≠ ab ∧ bx ≠ wb := by have := HLT.out; have := HLS.out; have := HLA.out; have := HLB.out; omega
  have HNB := Lib.hid hnb
  clear hnb
  rw [← hbx] at hb0 HBX
  rw [← hbx]
  clear hbx
  generalize hWW : w.alloc (.cells #[.pointer (some ⟨lb, 0, none⟩)] 110) = W at *
  clear hWW
  have hne : Nonempty (HW (fun wx => Frm [ab, wb] W wx)) := ⟨⟨W, Frm.refl _ _⟩⟩
  have hz0 : ∀ q : HW (fun wx => Frm [ab, wb] W wx), q.w.cell? ⟨lb, 0, none⟩ = some (.pointer (some ⟨ab, 0, none⟩)) := fun q => (HAW.out.box.frm q.h (by simp; have := HN.out; omega)).cell (i := 0) rfl
  have hz1 : ∀ q : HW (fun wx => Frm [ab, wb] W wx), q.w.cell? ⟨lb, 1, none⟩ = some (.int .i64 tail) := fun q => (HAW.out.box.frm q.h (by simp; have := HN.out; omega)).cell (i := 1) rfl
  have hz2 : ∀ q : HW (fun wx => Frm [ab, wb] W wx), q.w.cell? ⟨lb, 2, none⟩ = some (.slice (some ⟨sb, 0, none⟩) n X.1) := fun q => (HAW.out.box.frm q.h (by simp; have := HN.out; omega)).cell (i := 2) rfl
  have hy1 : ∀ q : HW (fun wx => Frm [ab, wb] W wx), q.w.cell? ⟨sb, j * 4 + 1, none⟩ = some (.int .i64 (S j 1)) := fun q => (HAW.out.row.frm q.h (by simp; have := HN.out; omega)).cell (spX_get HJ.out (by omega))
  have hy2 : ∀ q : HW (fun wx => Frm [ab, wb] W wx), q.w.cell? ⟨sb, j * 4 + 2, none⟩ = some (.int .i64 (S j 2)) := fun q => (HAW.out.row.frm q.h (by simp; have := HN.out; omega)).cell (spX_get HJ.out (by omega))
  have hx0 : ∀ q : HW (fun wx => Frm [ab, wb] W wx), q.w.cell? ⟨bx, 0, none⟩ = some (.pointer (some ⟨lb, 0, none⟩)) := fun q => (HBX.out.frm q.h (by simp; have := HNB.out; omega)).cell (i := 0) rfl
  have HBOX := Lib.hid (fun (W' : World) (hf : Frm [] W W') (y : Int) => hBox_any (HAW.out.frm hf (by simp)) ((HBX.out.frm hf (by simp)).cell (i := 0) rfl) y)
  go_wp2_with fail
  refine held_begin (S := fun wx => Frm [ab, wb] W wx) (by kernel_rfl) ?_
  refine held_row_at (fuel := 2) (is := [0, 1, 2, 3, 4, 5, 6, 7, 8]) (.cons rfl (.cons rfl (.cons rfl (.cons rfl (.cons rfl (.cons rfl (.cons rfl (.cons rfl (.cons rfl .nil))))))))) (by kernel_rfl) (fun _ _ _ _ _ h => h) rfl (by kernel_rfl) (Frm.refl _ _).drew1 ?_
  intro K hK
  repeat (go_big_quiet_step (fail))
  refine wpQuiet_nil (hK _ ?_)
  clear hK K
  refine held_call (fuel := 1) (i := 9) rfl (by kernel_rfl) ?_
  go_wp2_with fail
  go_at_call 218; refine (HBOX.out _ ((Frm.refl _ _).drew1) _).mono ?_; rintro e w' ⟨rfl, rfl⟩
  go_wp2_with fail
  refine onNormal_mk ⟨(Frm.refl _ _).drew1, ?_⟩
  refine held_call (fuel := 0) (i := 10) rfl (by kernel_rfl) ?_
  go_wp2_with fail
  refine (Store_any (HAW.out.ar.frm (S := []) ((Frm.refl _ _).drew1) (by simp) (by simp)) (hBox tail (S j 1)) (1)).mono ?_; rintro e w1 ⟨rfl, hA, hF⟩; have HF1 := Lib.hid (((Frm.refl [ab, wb] W).drew1).trans hF); have H1 := Lib.hid (HAW.out.ar_ HF1.out hA); have j1 := H1.out.p HJ.out (t := 1) (by omega); have j2 := H1.out.p HJ.out (t := 2) (by omega); have jz := H1.out.row.frozen; clear hA hF
  go_wp2_with fail
  refine onNormal_mk ⟨HF1.out, ?_⟩
  refine held_end (by kernel_rfl) ?_
  clear hne hz0 hz1 hz2 hy1 hy2
  clear hx0
  have HB := Lib.hid H1.out
  have HF2 := Lib.hid ((HFW.out.mono (S' := [sb, ab, wb]) (by simp)).trans (HF1.out.mono (S' := [sb, ab, wb]) (by simp)))
  clear H1 HF1 j1 j2 jz
  have k0 := HB.out.p0 HJ.out
  have kz := HB.out.row.frozen
  have HK3 := Lib.hid (HB.out.put HJ.out (t := 0) (by omega) 2)
  have HF3 := Lib.hid (HF2.out.set ⟨sb, j * 4, none⟩ (.int .i64 2) (.inl (by simp)))
  go_wp2
  go_ret
  exact ⟨rfl, HK3.out, HF3.out⟩
set_option maxRecDepth 100000 in
theorem hStep_2 (h : ClAt w lb sb ab wb tail n X A S) {j : Nat} (hj : j < n) (hq : S j 0 = 2) : Calls Tryz.prog 215 #[.pointer (some ⟨lb, 0, none⟩), .int .i64 j] w fun e w' => e = .returned (.bool false) ∧
    ClAt w' lb sb ab wb tail n X (A.swap tail (S j 1)) (spPut (spPut S j 2 (A.get tail)) j 0 3) ∧ Frm [sb, ab, wb] w w' := by
  have HN := Lib.hid h.ne
  have HJ := Lib.hid hj
  have hn32 := h.n32
  have htb := h.tb
  have e0 : hBox tail 0 = (tail : Int) := by unfold hBox; exact (wr_id (by omega)).trans (by omega)
  have E0 := Lib.hid e0
  clear e0
  have HS := Lib.hid (fun (W : World) (hf : Frm [] w W) => hspot_yes (h.frm hf (by simp)) hj)
  have hc0 := fun (W : World) (hf : Frm [] w W) => (h.frm hf (by simp)).p0 hj
  simp only [hq] at hc0
  have HC0 := Lib.hid hc0
  have hmf : ∀ (fn : Fn) (first cap : Array Value) (w : World), (Instr.makeFunc fn first cap).run Tryz.prog w = .ok (.func fn first cap) w := fun _ _ _ _ => rfl
  have HLT := Lib.hid h.box.lt
  have HLS := Lib.hid h.row.lt
  have HLA := Lib.hid h.ar.box.lt
  have HLB := Lib.hid h.ar.row.lt
  have H := Lib.hid h
  have H0 := Lib.hid hq
  have i1 : (j : Int) < n := by omega
  clear h hq hj hc0
  generalize hx : A.get tail = x
  have HX := Lib.hid hx
  clear hx
  go_enter Tryz.func215, Tryz.ntmps215
  go_wp2_with fail
  have hF : Frm [] w (w.alloc (.cells #[.pointer (some ⟨lb, 0, none⟩)] 110)) := (Frm.refl _ _).alloc _
  have hc0 := HC0.out _ hF
  have hb0 := (HAt.new w #[.pointer (some ⟨lb, 0, none⟩)] 110).cell (i := 0) rfl
  have HBX := Lib.hid (HAt.new w #[.pointer (some ⟨lb, 0, none⟩)] 110)
  refine (HS.out _ hF).mono ?_
  rintro e w' ⟨rfl, rfl⟩
  have HFW := Lib.hid hF
  have HAW := Lib.hid (H.out.frm hF (by simp))
  have hK0 := HAW.out.p0 HJ.out
  clear hF
  obtain ⟨bx, hbx⟩ : ∃ bx, bx = w.heap.size := ⟨_, rfl⟩
  have hnb : bx ≠ lb ∧ bx ≠ sb ∧ bx ≠ ab ∧ bx ≠ wb := by have := HLT.out; have := HLS.out; have := HLA.out; have := HLB.out; omega
  have HNB := Lib.hid hnb
  clear hnb
  rw [← hbx] at hb0 HBX
  rw [← hbx]
  clear hbx
  generalize hWW : w.alloc (.cells #[.pointer (some ⟨lb, 0, none⟩)] 110) = W at *
  clear hWW
  have hne : Nonempty (HW (fun wx => Frm [sb, ab, wb] W wx ∧ wx.cell? ⟨sb, j * 4 + 1, none⟩ = some (.int .i64 (S j 1)))) := ⟨⟨W, Frm.refl _ _, HAW.out.p HJ.out (by omega)⟩⟩
  have hz0 : ∀ q : HW (fun wx => Frm [sb, ab, wb] W wx ∧ wx.cell? ⟨sb, j * 4 + 1, none⟩ = some (.int .i64 (S j 1))), q.w.cell? ⟨lb, 0, none⟩ = some (.pointer (some ⟨ab, 0, none⟩)) := fun q => (HAW.out.box.frm q.h.1 (by simp; have := HN.out; omega)).cell (i := 0) rfl
  have hz1 : ∀ q : HW (fun wx => Frm [sb, ab, wb] W wx ∧ wx.cell? ⟨sb, j * 4 + 1, none⟩ = some (.int .i64 (S j 1))), q.w.cell? ⟨lb, 1, none⟩ = some (.int .i64 tail) := fun q => (HAW.out.box.frm q.h.1 (by simp; have := HN.out; omega)).cell (i := 1) rfl
  have hz2 : ∀ q : HW (fun wx => Frm [sb, ab, wb] W wx ∧ wx.cell? ⟨sb, j * 4 + 1, none⟩ = some (.int .i64 (S j 1))), q.w.cell? ⟨lb, 2, none⟩ = some (.slice (some ⟨sb, 0, none⟩) n X.1) := fun q => (HAW.out.box.frm q.h.1 (by simp; have := HN.out; omega)).cell (i := 2) rfl
  have hy1 : ∀ q : HW (fun wx => Frm [sb, ab, wb] W wx ∧ wx.cell? ⟨sb, j * 4 + 1, none⟩ = some (.int .i64 (S j 1))), q.w.cell? ⟨sb, j * 4 + 1, none⟩ = some (.int .i64 (S j 1)) := fun q => q.h.2
  have hx0 : ∀ q : HW (fun wx => Frm [sb, ab, wb] W wx ∧ wx.cell? ⟨sb, j * 4 + 1, none⟩ = some (.int .i64 (S j 1))), q.w.cell? ⟨bx, 0, none⟩ = some (.pointer (some ⟨lb, 0, none⟩)) := fun q => (HBX.out.frm q.h.1 (by simp; have := HNB.out; omega)).cell (i := 0) rfl
  have HBOX := Lib.hid (fun (W' : World) (hf : Frm [] W W') (y : Int) => hBox_any (HAW.out.frm hf (by simp)) ((HBX.out.frm hf (by simp)).cell (i := 0) rfl) y)
  go_wp2_with fail
  refine held_begin (S := fun wx => Frm [sb, ab, wb] W wx ∧ wx.cell? ⟨sb, j * 4 + 1, none⟩ = some (.int .i64 (S j 1))) (by kernel_rfl) ?_
  refine held_row_at (fuel := 5) (is := [0, 1, 2, 3, 4, 5, 7, 8, 9, 10]) (.cons rfl (.cons rfl (.cons rfl (.cons rfl (.cons rfl (.cons rfl (.cons rfl (.cons rfl (.cons rfl (.cons rfl .nil)))))))))) (by kernel_rfl) (fun _ _ _ _ _ h => h) rfl (by kernel_rfl) ⟨(Frm.refl _ _).drew1, HAW.out.p HJ.out (by omega)⟩ ?_
  intro K hK
  repeat (go_big_quiet_step (fail))
  refine wpQuiet_nil (hK _ ?_)
  clear hK K
  refine held_call (fuel := 4) (i := 6) rfl (by kernel_rfl) ?_
  go_wp2_with fail
  go_at_call 218; refine (HBOX.out _ ((Frm.refl _ _).drew1) _).mono ?_; rw [E0.out]; rintro e w' ⟨rfl, rfl⟩
  go_wp2_with fail
  refine onNormal_mk ⟨⟨(Frm.refl _ _).drew1, HAW.out.p HJ.out (by omega)⟩, ?_⟩
  refine held_call (fuel := 3) (i := 11) rfl (by kernel_rfl) ?_
  go_wp2_with fail
  refine (Swap_any (HAW.out.ar.frm (S := []) ((Frm.refl _ _).drew1) (by simp) (by simp)) (tail) (S j 1)).mono ?_; rw [HX.out]; rintro e w1 ⟨rfl, hA, hF⟩; have HF1 := Lib.hid (((Frm.refl [ab, wb] W).drew1).trans hF); have H1 := Lib.hid (HAW.out.ar_ HF1.out hA); have j1 := H1.out.p HJ.out (t := 1) (by omega); have j2 := H1.out.p HJ.out (t := 2) (by omega); have jz := H1.out.row.frozen; clear hA hF
  go_wp2_with fail
  refine onNormal_mk ⟨⟨(HF1.out.mono (S' := [sb, ab, wb]) (by simp)), H1.out.p HJ.out (t := 1) (by omega)⟩, ?_⟩
  refine held_row_at (fuel := 1) (is := [12, 13]) (.cons rfl (.cons rfl .nil)) (by kernel_rfl) (fun _ _ _ _ _ h => h) rfl (by kernel_rfl) ⟨(HF1.out.mono (S' := [sb, ab, wb]) (by simp)), H1.out.p HJ.out (t := 1) (by omega)⟩ ?_
  intro K hK
  repeat (go_big_quiet_step (fail))
  refine wpQuiet_nil (hK _ ?_)
  clear hK K
  refine held_call (fuel := 0) (i := 14) rfl (by kernel_rfl) ?_
  go_wp2_with fail
  refine onNormal_mk ⟨⟨((HF1.out.mono (S' := [sb, ab, wb]) (by simp)).set ⟨sb, j * 4 + 2, none⟩ (.int .i64 (x)) (.inl (by simp))), ((H1.out.put HJ.out (t := 2) (by omega) x).p HJ.out (t := 1) (by omega)).trans (by simp [spPut])⟩, ?_⟩
  refine held_end (by kernel_rfl) ?_
  clear hne hz0 hz1 hz2 hy1 hx0
  have HB := Lib.hid (H1.out.put HJ.out (t := 2) (by omega) (x))
  have HF2 := Lib.hid ((HFW.out.mono (S' := [sb, ab, wb]) (by simp)).trans ((HF1.out.mono (S' := [sb, ab, wb]) (by simp)).set ⟨sb, j * 4 + 2, none⟩ (.int .i64 (x)) (.inl (by simp))))
  clear H1 HF1 j1 j2 jz
  generalize (w1.setCell ⟨sb, j * 4 + 2, none⟩ (.int .i64 (x))) = W2 at *
  have k0 := HB.out.p0 HJ.out
  have kz := HB.out.row.frozen
  have HK3 := Lib.hid (HB.out.put HJ.out (t := 0) (by omega) 3)
  have HF3 := Lib.hid (HF2.out.set ⟨sb, j * 4, none⟩ (.int .i64 3) (.inl (by simp)))
  go_wp2
  go_ret
  exact ⟨rfl, HK3.out, HF3.out⟩
set_option maxRecDepth 100000 in
theorem hStep_hit (h : ClAt w lb sb ab wb tail n X A S) {j : Nat} (hj : j < n) (hq : S j 0 = 3) (hg : A.get (hBox tail (S j 2)) = 0) : Calls Tryz.prog 215 #[.pointer (some ⟨lb, 0, none⟩), .int .i64 j] w fun e w' => e = .returned (.bool true) ∧
    ClAt w' lb sb ab wb tail n X (A.load (hBox tail (S j 2))) (spPut S j 0 10) ∧ Frm [sb, ab, wb] w w' := by
  have HN := Lib.hid h.ne
  have HJ := Lib.hid hj
  have hn32 := h.n32
  have htb := h.tb
  have HS := Lib.hid (fun (W : World) (hf : Frm [] w W) => hspot_yes (h.frm hf (by simp)) hj)
  have hc0 := fun (W : World) (hf : Frm [] w W) => (h.frm hf (by simp)).p0 hj
  simp only [hq] at hc0
  have HC0 := Lib.hid hc0
  have hmf : ∀ (fn : Fn) (first cap : Array Value) (w : World), (Instr.makeFunc fn first cap).run Tryz.prog w = .ok (.func fn first cap) w := fun _ _ _ _ => rfl
  have HLT := Lib.hid h.box.lt
  have HLS := Lib.hid h.row.lt
  have HLA := Lib.hid h.ar.box.lt
  have HLB := Lib.hid h.ar.row.lt
  have H := Lib.hid h
  have H0 := Lib.hid hq
  have i1 : (j : Int) < n := by omega
  clear h hq hj hc0
  have HX := Lib.hid hg
  clear hg
  go_enter Tryz.func215, Tryz.ntmps215
  go_wp2_with fail
  have hF : Frm [] w (w.alloc (.cells #[.pointer (some ⟨lb, 0, none⟩)] 110)) := (Frm.refl _ _).alloc _
  have hc0 := HC0.out _ hF
  have hb0 := (HAt.new w #[.pointer (some ⟨lb, 0, none⟩)] 110).cell (i := 0) rfl
  have HBX := Lib.hid (HAt.new w #[.pointer (some ⟨lb, 0, none⟩)] 110)
  refine (HS.out _ hF).mono ?_
  rintro e w' ⟨rfl, rfl⟩
  have HFW := Lib.hid hF
  have HAW := Lib.hid (H.out.frm hF (by simp))
  have hK0 := HAW.out.p0 HJ.out
  clear hF
  obtain ⟨bx, hbx⟩ : ∃ bx, bx = w.heap.size := ⟨_, rfl⟩
  have hnb : bx ≠ lb ∧ bx ≠ sb ∧ bx ≠ ab ∧ bx ≠ wb := by have := HLT.out; have := HLS.out; have := HLA.out; have := HLB.out; omega
  have HNB := Lib.hid hnb
  clear hnb
  rw [← hbx] at hb0 HBX
  rw [← hbx]
  clear hbx
  generalize hWW : w.alloc (.cells #[.pointer (some ⟨lb, 0, none⟩)] 110) = W at *
  clear hWW
  have hne : Nonempty (HW (fun wx => Frm [sb, ab, wb] W wx ∧ wx.cell? ⟨sb, j * 4 + 2, none⟩ = some (.int .i64 (S j 2)))) := ⟨⟨W, Frm.refl _ _, HAW.out.p HJ.out (by omega)⟩⟩
  have hz0 : ∀ q : HW (fun wx => Frm [sb, ab, wb] W wx ∧ wx.cell? ⟨sb, j * 4 + 2, none⟩ = some (.int .i64 (S j 2))), q.w.cell? ⟨lb, 0, none⟩ = some (.pointer (some ⟨ab, 0, none⟩)) := fun q => (HAW.out.box.frm q.h.1 (by simp; have := HN.out; omega)).cell (i := 0) rfl
  have hz1 : ∀ q : HW (fun wx => Frm [sb, ab, wb] W wx ∧ wx.cell? ⟨sb, j * 4 + 2, none⟩ = some (.int .i64 (S j 2))), q.w.cell? ⟨lb, 1, none⟩ = some (.int .i64 tail) := fun q => (HAW.out.box.frm q.h.1 (by simp; have := HN.out; omega)).cell (i := 1) rfl
  have hz2 : ∀ q : HW (fun wx => Frm [sb, ab, wb] W wx ∧ wx.cell? ⟨sb, j * 4 + 2, none⟩ = some (.int .i64 (S j 2))), q.w.cell? ⟨lb, 2, none⟩ = some (.slice (some ⟨sb, 0, none⟩) n X.1) := fun q => (HAW.out.box.frm q.h.1 (by simp; have := HN.out; omega)).cell (i := 2) rfl
  have hy2 : ∀ q : HW (fun wx => Frm [sb, ab, wb] W wx ∧ wx.cell? ⟨sb, j * 4 + 2, none⟩ = some (.int .i64 (S j 2))), q.w.cell? ⟨sb, j * 4 + 2, none⟩ = some (.int .i64 (S j 2)) := fun q => q.h.2
  have hx0 : ∀ q : HW (fun wx => Frm [sb, ab, wb] W wx ∧ wx.cell? ⟨sb, j * 4 + 2, none⟩ = some (.int .i64 (S j 2))), q.w.cell? ⟨bx, 0, none⟩ = some (.pointer (some ⟨lb, 0, none⟩)) := fun q => (HBX.out.frm q.h.1 (by simp; have := HNB.out; omega)).cell (i := 0) rfl
  have HBOX := Lib.hid (fun (W' : World) (hf : Frm [] W W') (y : Int) => hBox_any (HAW.out.frm hf (by simp)) ((HBX.out.frm hf (by simp)).cell (i := 0) rfl) y)
  go_wp2_with fail
  refine held_begin (S := fun wx => Frm [sb, ab, wb] W wx ∧ wx.cell? ⟨sb, j * 4 + 2, none⟩ = some (.int .i64 (S j 2))) (by kernel_rfl) ?_
  refine held_row_at (fuel := 9) (is := [0, 1, 2, 3, 4, 5, 6, 7, 8]) (.cons rfl (.cons rfl (.cons rfl (.cons rfl (.cons rfl (.cons rfl (.cons rfl (.cons rfl (.cons rfl .nil))))))))) (by kernel_rfl) (fun _ _ _ _ _ h => h) rfl (by kernel_rfl) ⟨(Frm.refl _ _).drew1, HAW.out.p HJ.out (by omega)⟩ ?_
  intro K hK
  repeat (go_big_quiet_step (fail))
  refine wpQuiet_nil (hK _ ?_)
  clear hK K
  refine held_call (fuel := 8) (i := 9) rfl (by kernel_rfl) ?_
  go_wp2_with fail
  go_at_call 218; refine (HBOX.out _ ((Frm.refl _ _).drew1) _).mono ?_; rintro e w' ⟨rfl, rfl⟩
  go_wp2_with fail
  refine onNormal_mk ⟨⟨(Frm.refl _ _).drew1, HAW.out.p HJ.out (by omega)⟩, ?_⟩
  refine held_call (fuel := 7) (i := 10) rfl (by kernel_rfl) ?_
  go_wp2_with fail
  refine (Load_any (HAW.out.ar.frm (S := []) ((Frm.refl _ _).drew1) (by simp) (by simp)) (hBox tail (S j 2))).mono ?_; rw [HX.out]; rintro e w1 ⟨rfl, hA, hF⟩; have HF1 := Lib.hid (((Frm.refl [ab, wb] W).drew1).trans hF); have H1 := Lib.hid (HAW.out.ar_ HF1.out hA); have j1 := H1.out.p HJ.out (t := 1) (by omega); have j2 := H1.out.p HJ.out (t := 2) (by omega); have jz := H1.out.row.frozen; clear hA hF
  go_wp2_with fail
  refine onNormal_mk ⟨⟨(HF1.out.mono (S' := [sb, ab, wb]) (by simp)), H1.out.p HJ.out (t := 2) (by omega)⟩, ?_⟩
  refine held_row_at (fuel := 3) (is := [11, 12, 13, 14]) (.cons rfl (.cons rfl (.cons rfl (.cons rfl .nil)))) (by kernel_rfl) (fun _ _ _ _ _ h => h) rfl (by kernel_rfl) ⟨(HF1.out.mono (S' := [sb, ab, wb]) (by simp)), H1.out.p HJ.out (t := 2) (by omega)⟩ ?_
  intro K hK
  repeat (go_big_quiet_step (fail))
  refine wpQuiet_nil (hK _ ?_)
  clear hK K
  refine held_call (fuel := 2) (i := 15) rfl (by kernel_rfl) ?_
  go_wp2_with fail
  have hok : kTurnOk n S j 3 = true := (by unfold kTurnOk; rw [sHas_nat HJ.out, Int.toNat_natCast, H0.out]; rfl); have hT := hturn_any H1.out j 3 10; unfold kTurn at hT; rw [hok, if_pos rfl, Int.toNat_natCast] at hT; refine hT.mono ?_; rintro e w3 ⟨rfl, hK, hF⟩; have HK3 := Lib.hid hK; have HF3 := Lib.hid (((HFW.out.mono (S' := [sb, ab, wb]) (by simp)).trans ((HF1.out.mono (S' := [sb, ab, wb]) (by simp)).trans (hF.mono (S' := [sb, ab, wb]) (by simp))))); have HFK := Lib.hid ((HF1.out.mono (S' := [sb, ab, wb]) (by simp)).trans (hF.mono (S' := [sb, ab, wb]) (by simp))); clear hK hF hT hok
  go_wp2_with fail
  refine onNormal_mk ⟨⟨HFK.out, (HK3.out.p HJ.out (t := 2) (by omega)).trans (by simp [spPut])⟩, ?_⟩
  refine held_row_at (fuel := 0) (is := [16, 17]) (.cons rfl (.cons rfl .nil)) (by kernel_rfl) (fun _ _ _ _ _ h => h) rfl (by kernel_rfl) ⟨HFK.out, (HK3.out.p HJ.out (t := 2) (by omega)).trans (by simp [spPut])⟩ ?_
  intro K hK
  repeat (go_big_quiet_step (fail))
  refine wpQuiet_nil (hK _ ?_)
  clear hK K
  refine held_end (by kernel_rfl) ?_
  go_wp2
  go_ret
  exact ⟨rfl, HK3.out, HF3.out⟩
set_option maxRecDepth 100000 in
theorem hStep_miss (h : ClAt w lb sb ab wb tail n X A S) {j : Nat} (hj : j < n) (hq : S j 0 = 3) (hg : ¬ A.get (hBox tail (S j 2)) = 0) : Calls Tryz.prog 215 #[.pointer (some ⟨lb, 0, none⟩), .int .i64 j] w fun e w' => e = .returned (.bool false) ∧
    ClAt w' lb sb ab wb tail n X (A.load (hBox tail (S j 2))) (S) ∧ Frm [sb, ab, wb] w w' := by
  have HN := Lib.hid h.ne
  have HJ := Lib.hid hj
  have hn32 := h.n32
  have htb := h.tb
  have HS := Lib.hid (fun (W : World) (hf : Frm [] w W) => hspot_yes (h.frm hf (by simp)) hj)
  have hc0 := fun (W : World) (hf : Frm [] w W) => (h.frm hf (by simp)).p0 hj
  simp only [hq] at hc0
  have HC0 := Lib.hid hc0
  have hmf : ∀ (fn : Fn) (first cap : Array Value) (w : World), (Instr.makeFunc fn first cap).run Tryz.prog w = .ok (.func fn first cap) w := fun _ _ _ _ => rfl
  have HLT := Lib.hid h.box.lt
  have HLS := Lib.hid h.row.lt
  have HLA := Lib.hid h.ar.box.lt
  have HLB := Lib.hid h.ar.row.lt
  have H := Lib.hid h
  have H0 := Lib.hid hq
  have i1 : (j : Int) < n := by omega
  clear h hq hj hc0
  generalize hx : A.get (hBox tail (S j 2)) = x at *
  have e1 : (x == 0) = false := by simpa using hg
  have HX := Lib.hid hx
  clear hx hg
  go_enter Tryz.func215, Tryz.ntmps215
  go_wp2_with fail
  have hF : Frm [] w (w.alloc (.cells #[.pointer (some ⟨lb, 0, none⟩)] 110)) := (Frm.refl _ _).alloc _
  have hc0 := HC0.out _ hF
  have hb0 := (HAt.new w #[.pointer (some ⟨lb, 0, none⟩)] 110).cell (i := 0) rfl
  have HBX := Lib.hid (HAt.new w #[.pointer (some ⟨lb, 0, none⟩)] 110)
  refine (HS.out _ hF).mono ?_
  rintro e w' ⟨rfl, rfl⟩
  have HFW := Lib.hid hF
  have HAW := Lib.hid (H.out.frm hF (by simp))
  have hK0 := HAW.out.p0 HJ.out
  clear hF
  obtain ⟨bx, hbx⟩ : ∃ bx, bx = w.heap.size := ⟨_, rfl⟩
  have hnb : bx ≠ lb ∧ bx ≠ sb ∧ bx ≠ ab ∧ bx ≠ wb := by have := HLT.out; have := HLS.out; have := HLA.out; have := HLB.out; omega
  have HNB := Lib.hid hnb
  clear hnb
  rw [← hbx] at hb0 HBX
  rw [← hbx]
  clear hbx
  generalize hWW : w.alloc (.cells #[.pointer (some ⟨lb, 0, none⟩)] 110) = W at *
  clear hWW
  have hne : Nonempty (HW (fun wx => Frm [sb, ab, wb] W wx ∧ wx.cell? ⟨sb, j * 4 + 2, none⟩ = some (.int .i64 (S j 2)))) := ⟨⟨W, Frm.refl _ _, HAW.out.p HJ.out (by omega)⟩⟩
  have hz0 : ∀ q : HW (fun wx => Frm [sb, ab, wb] W wx ∧ wx.cell? ⟨sb, j * 4 + 2, none⟩ = some (.int .i64 (S j 2))), q.w.cell? ⟨lb, 0, none⟩ = some (.pointer (some ⟨ab, 0, none⟩)) := fun q => (HAW.out.box.frm q.h.1 (by simp; have := HN.out; omega)).cell (i := 0) rfl
  have hz1 : ∀ q : HW (fun wx => Frm [sb, ab, wb] W wx ∧ wx.cell? ⟨sb, j * 4 + 2, none⟩ = some (.int .i64 (S j 2))), q.w.cell? ⟨lb, 1, none⟩ = some (.int .i64 tail) := fun q => (HAW.out.box.frm q.h.1 (by simp; have := HN.out; omega)).cell (i := 1) rfl
  have hz2 : ∀ q : HW (fun wx => Frm [sb, ab, wb] W wx ∧ wx.cell? ⟨sb, j * 4 + 2, none⟩ = some (.int .i64 (S j 2))), q.w.cell? ⟨lb, 2, none⟩ = some (.slice (some ⟨sb, 0, none⟩) n X.1) := fun q => (HAW.out.box.frm q.h.1 (by simp; have := HN.out; omega)).cell (i := 2) rfl
  have hy2 : ∀ q : HW (fun wx => Frm [sb, ab, wb] W wx ∧ wx.cell? ⟨sb, j * 4 + 2, none⟩ = some (.int .i64 (S j 2))), q.w.cell? ⟨sb, j * 4 + 2, none⟩ = some (.int .i64 (S j 2)) := fun q => q.h.2
  have hx0 : ∀ q : HW (fun wx => Frm [sb, ab, wb] W wx ∧ wx.cell? ⟨sb, j * 4 + 2, none⟩ = some (.int .i64 (S j 2))), q.w.cell? ⟨bx, 0, none⟩ = some (.pointer (some ⟨lb, 0, none⟩)) := fun q => (HBX.out.frm q.h.1 (by simp; have := HNB.out; omega)).cell (i := 0) rfl
  have HBOX := Lib.hid (fun (W' : World) (hf : Frm [] W W') (y : Int) => hBox_any (HAW.out.frm hf (by simp)) ((HBX.out.frm hf (by simp)).cell (i := 0) rfl) y)
  go_wp2_with fail
  refine held_begin (S := fun wx => Frm [sb, ab, wb] W wx ∧ wx.cell? ⟨sb, j * 4 + 2, none⟩ = some (.int .i64 (S j 2))) (by kernel_rfl) ?_
  refine held_row_at (fuel := 9) (is := [0, 1, 2, 3, 4, 5, 6, 7, 8]) (.cons rfl (.cons rfl (.cons rfl (.cons rfl (.cons rfl (.cons rfl (.cons rfl (.cons rfl (.cons rfl .nil))))))))) (by kernel_rfl) (fun _ _ _ _ _ h => h) rfl (by kernel_rfl) ⟨(Frm.refl _ _).drew1, HAW.out.p HJ.out (by omega)⟩ ?_
  intro K hK
  repeat (go_big_quiet_step (fail))
  refine wpQuiet_nil (hK _ ?_)
  clear hK K
  refine held_call (fuel := 8) (i := 9) rfl (by kernel_rfl) ?_
  go_wp2_with fail
  go_at_call 218; refine (HBOX.out _ ((Frm.refl _ _).drew1) _).mono ?_; rintro e w' ⟨rfl, rfl⟩
  go_wp2_with fail
  refine onNormal_mk ⟨⟨(Frm.refl _ _).drew1, HAW.out.p HJ.out (by omega)⟩, ?_⟩
  refine held_call (fuel := 7) (i := 10) rfl (by kernel_rfl) ?_
  go_wp2_with fail
  refine (Load_any (HAW.out.ar.frm (S := []) ((Frm.refl _ _).drew1) (by simp) (by simp)) (hBox tail (S j 2))).mono ?_; rw [HX.out]; rintro e w1 ⟨rfl, hA, hF⟩; have HF1 := Lib.hid (((Frm.refl [ab, wb] W).drew1).trans hF); have H1 := Lib.hid (HAW.out.ar_ HF1.out hA); have j1 := H1.out.p HJ.out (t := 1) (by omega); have j2 := H1.out.p HJ.out (t := 2) (by omega); have jz := H1.out.row.frozen; clear hA hF
  go_wp2_with fail
  refine onNormal_mk ⟨⟨(HF1.out.mono (S' := [sb, ab, wb]) (by simp)), H1.out.p HJ.out (t := 2) (by omega)⟩, ?_⟩
  refine held_row_at (fuel := 3) (is := [11, 12, 13, 14]) (.cons rfl (.cons rfl (.cons rfl (.cons rfl .nil)))) (by kernel_rfl) (fun _ _ _ _ _ h => h) rfl (by kernel_rfl) ⟨(HF1.out.mono (S' := [sb, ab, wb]) (by simp)), H1.out.p HJ.out (t := 2) (by omega)⟩ ?_
  intro K hK
  repeat (go_big_quiet_step (fail))
  refine wpQuiet_nil (hK _ ?_)
  clear hK K
  refine held_call (fuel := 2) (i := 15) rfl (by kernel_rfl) ?_
  go_wp2_with fail
  refine onNormal_mk ⟨⟨(HF1.out.mono (S' := [sb, ab, wb]) (by simp)), H1.out.p HJ.out (t := 2) (by omega)⟩, ?_⟩
  refine held_row_at (fuel := 0) (is := [16, 17]) (.cons rfl (.cons rfl .nil)) (by kernel_rfl) (fun _ _ _ _ _ h => h) rfl (by kernel_rfl) ⟨(HF1.out.mono (S' := [sb, ab, wb]) (by simp)), H1.out.p HJ.out (t := 2) (by omega)⟩ ?_
  intro K hK
  repeat (go_big_quiet_step (fail))
  refine wpQuiet_nil (hK _ ?_)
  clear hK K
  refine held_end (by kernel_rfl) ?_
  have HB := Lib.hid H1.out
  have HF2 := Lib.hid ((HFW.out.mono (S' := [sb, ab, wb]) (by simp)).trans (HF1.out.mono (S' := [sb, ab, wb]) (by simp)))
  clear H1 HF1 j1 j2 jz
  go_wp2
  go_ret
  exact ⟨rfl, HB.out, HF2.out⟩
set_option maxRecDepth 100000 in
theorem hStep_11 (h : ClAt w lb sb ab wb tail n X A S) {j : Nat} (hj : j < n) (hq : S j 0 = 11) : Calls Tryz.prog 215 #[.pointer (some ⟨lb, 0, none⟩), .int .i64 j] w fun e w' => e = .returned (.bool true) ∧
    ClAt w' lb sb ab wb tail n X (A.store (hBox tail (S j 1)) 0) (spPut (spPut S j 1 (S j 2)) j 0 0) ∧ Frm [sb, ab, wb] w w' := by
  have HN := Lib.hid h.ne
  have HJ := Lib.hid hj
  have hn32 := h.n32
  have htb := h.tb
  have HS := Lib.hid (fun (W : World) (hf : Frm [] w W) => hspot_yes (h.frm hf (by simp)) hj)
  have hc0 := fun (W : World) (hf : Frm [] w W) => (h.frm hf (by simp)).p0 hj
  simp only [hq] at hc0
  have HC0 := Lib.hid hc0
  have hmf : ∀ (fn : Fn) (first cap : Array Value) (w : World), (Instr.makeFunc fn first cap).run Tryz.prog w = .ok (.func fn first cap) w := fun _ _ _ _ => rfl
  have HLT := Lib.hid h.box.lt
  have HLS := Lib.hid h.row.lt
  have HLA := Lib.hid h.ar.box.lt
  have HLB := Lib.hid h.ar.row.lt
  have H := Lib.hid h
  have H0 := Lib.hid hq
  have i1 : (j : Int) < n := by omega
  clear h hq hj hc0
  go_enter Tryz.func215, Tryz.ntmps215
  go_wp2_with fail
  have hF : Frm [] w (w.alloc (.cells #[.pointer (some ⟨lb, 0, none⟩)] 110)) := (Frm.refl _ _).alloc _
  have hc0 := HC0.out _ hF
  have hb0 := (HAt.new w #[.pointer (some ⟨lb, 0, none⟩)] 110).cell (i := 0) rfl
  have HBX := Lib.hid (HAt.new w #[.pointer (some ⟨lb, 0, none⟩)] 110)
  refine (HS.out _ hF).mono ?_
  rintro e w' ⟨rfl, rfl⟩
  have HFW := Lib.hid hF
  have HAW := Lib.hid (H.out.frm hF (by simp))
  have hK0 := HAW.out.p0 HJ.out
  clear hF
  obtain ⟨bx, hbx⟩ : ∃ bx, bx = w.heap.size := ⟨_, rfl⟩
  have hnb : bx ≠ lb ∧ bx ≠ sb ∧ bx ≠ ab ∧ bx ≠ wb := by have := HLT.out; have := HLS.out; have := HLA.out; have := HLB.out; omega
  have HNB := Lib.hid hnb
  clear hnb
  rw [← hbx] at hb0 HBX
  rw [← hbx]
  clear hbx
  generalize hWW : w.alloc (.cells #[.pointer (some ⟨lb, 0, none⟩)] 110) = W at *
  clear hWW
  have hne : Nonempty (HW (fun wx => Frm [ab, wb] W wx)) := ⟨⟨W, Frm.refl _ _⟩⟩
  have hz0 : ∀ q : HW (fun wx => Frm [ab, wb] W wx), q.w.cell? ⟨lb, 0, none⟩ = some (.pointer (some ⟨ab, 0, none⟩)) := fun q => (HAW.out.box.frm q.h (by simp; have := HN.out; omega)).cell (i := 0) rfl
  have hz1 : ∀ q : HW (fun wx => Frm [ab, wb] W wx), q.w.cell? ⟨lb, 1, none⟩ = some (.int .i64 tail) := fun q => (HAW.out.box.frm q.h (by simp; have := HN.out; omega)).cell (i := 1) rfl
  have hz2 : ∀ q : HW (fun wx => Frm [ab, wb] W wx), q.w.cell? ⟨lb, 2, none⟩ = some (.slice (some ⟨sb, 0, none⟩) n X.1) := fun q => (HAW.out.box.frm q.h (by simp; have := HN.out; omega)).cell (i := 2) rfl
  have hy1 : ∀ q : HW (fun wx => Frm [ab, wb] W wx), q.w.cell? ⟨sb, j * 4 + 1, none⟩ = some (.int .i64 (S j 1)) := fun q => (HAW.out.row.frm q.h (by simp; have := HN.out; omega)).cell (spX_get HJ.out (by omega))
  have hy2 : ∀ q : HW (fun wx => Frm [ab, wb] W wx), q.w.cell? ⟨sb, j * 4 + 2, none⟩ = some (.int .i64 (S j 2)) := fun q => (HAW.out.row.frm q.h (by simp; have := HN.out; omega)).cell (spX_get HJ.out (by omega))
  have hx0 : ∀ q : HW (fun wx => Frm [ab, wb] W wx), q.w.cell? ⟨bx, 0, none⟩ = some (.pointer (some ⟨lb, 0, none⟩)) := fun q => (HBX.out.frm q.h (by simp; have := HNB.out; omega)).cell (i := 0) rfl
  have HBOX := Lib.hid (fun (W' : World) (hf : Frm [] W W') (y : Int) => hBox_any (HAW.out.frm hf (by simp)) ((HBX.out.frm hf (by simp)).cell (i := 0) rfl) y)
  go_wp2_with fail
  refine held_begin (S := fun wx => Frm [ab, wb] W wx) (by kernel_rfl) ?_
  refine held_row_at (fuel := 2) (is := [0, 1, 2, 3, 4, 5, 6, 7, 8]) (.cons rfl (.cons rfl (.cons rfl (.cons rfl (.cons rfl (.cons rfl (.cons rfl (.cons rfl (.cons rfl .nil))))))))) (by kernel_rfl) (fun _ _ _ _ _ h => h) rfl (by kernel_rfl) (Frm.refl _ _).drew1 ?_
  intro K hK
  repeat (go_big_quiet_step (fail))
  refine wpQuiet_nil (hK _ ?_)
  clear hK K
  refine held_call (fuel := 1) (i := 9) rfl (by kernel_rfl) ?_
  go_wp2_with fail
  go_at_call 218; refine (HBOX.out _ ((Frm.refl _ _).drew1) _).mono ?_; rintro e w' ⟨rfl, rfl⟩
  go_wp2_with fail
  refine onNormal_mk ⟨(Frm.refl _ _).drew1, ?_⟩
  refine held_call (fuel := 0) (i := 10) rfl (by kernel_rfl) ?_
  go_wp2_with fail
  refine (Store_any (HAW.out.ar.frm (S := []) ((Frm.refl _ _).drew1) (by simp) (by simp)) (hBox tail (S j 1)) (0)).mono ?_; rintro e w1 ⟨rfl, hA, hF⟩; have HF1 := Lib.hid (((Frm.refl [ab, wb] W).drew1).trans hF); have H1 := Lib.hid (HAW.out.ar_ HF1.out hA); have j1 := H1.out.p HJ.out (t := 1) (by omega); have j2 := H1.out.p HJ.out (t := 2) (by omega); have jz := H1.out.row.frozen; clear hA hF
  go_wp2_with fail
  refine onNormal_mk ⟨HF1.out, ?_⟩
  refine held_end (by kernel_rfl) ?_
  clear hne hz0 hz1 hz2 hy1 hy2
  clear hx0
  have HB := Lib.hid (H1.out.put HJ.out (t := 1) (by omega) (S j 2))
  have HF2 := Lib.hid (((HFW.out.mono (S' := [sb, ab, wb]) (by simp)).trans ((HF1.out.mono (S' := [sb, ab, wb]) (by simp)).set ⟨sb, j * 4 + 1, none⟩ (.int .i64 (S j 2)) (.inl (by simp)))))
  have HX0 := Lib.hid ((HBX.out.frm HF1.out (by simp; have := HNB.out; omega)).other ⟨sb, j * 4 + 1, none⟩ (.int .i64 (S j 2)) (by simp; have := HNB.out; omega))
  have hok : kTurnOk n (spPut S j 1 (S j 2)) j 11 = true := by unfold kTurnOk; rw [sHas_nat HJ.out, Int.toNat_natCast]; simp [spPut, H0.out]
  have hT := hturn_any HB.out j 11 0
  unfold kTurn at hT
  rw [hok, if_pos rfl, Int.toNat_natCast] at hT
  have HT := Lib.hid hT
  clear hT hok HB
  have hxb := HX0.out.cell (i := 0) rfl
  go_wp2_with fail
  refine HT.out.mono ?_
  rintro e w3 ⟨rfl, hK, hF⟩
  have HK3 := Lib.hid hK
  have HF3 := Lib.hid (HF2.out.trans (hF.mono (S' := [sb, ab, wb]) (by simp)))
  clear hK hF
  go_wp2
  go_ret
  exact ⟨rfl, HK3.out, HF3.out⟩
theorem hStep_any (h : ClAt w lb sb ab wb tail n X A S) (i : Int) : Calls Tryz.prog 215 #[.pointer (some ⟨lb, 0, none⟩), .int .i64 i] w fun e w' => e = .returned (.bool (hStepR n tail S A i)) ∧
    ClAt w' lb sb ab wb tail n X (hStepA n tail S A i) (hStepS n tail S A i) ∧ Frm [sb, ab, wb] w w' := by
  cases hi : sHas n i with
  | false =>
    refine (hStep_idle h i (.inl hi)).mono fun e w' ⟨g1, g2⟩ => ⟨?_, ?_, g2.mono (by simp)⟩
    · unfold hStepR; rw [hi]; exact g1
    · unfold hStepA hStepS; rw [hi]; exact h.frm g2 (by simp)
  | true =>
    have hi' : 0 ≤ i ∧ i < (n : Int) := by unfold sHas at hi; simpa using hi
    obtain ⟨j, rfl⟩ := Int.eq_ofNat_of_zero_le hi'.1
    have hj : j < n := by omega
    unfold hStepR hStepA hStepS
    rw [hi, Int.toNat_natCast]
    simp only [Bool.true_and, if_true]
    by_cases q1 : S j 0 = 1
    · simp only [q1, Int.reduceEq, if_true, if_false, decide_true, decide_false]; exact hStep_1 h hj q1
    by_cases q2 : S j 0 = 2
    · simp only [q2, Int.reduceEq, if_true, if_false, decide_true, decide_false]; exact hStep_2 h hj q2
    by_cases q3 : S j 0 = 3
    · by_cases c : A.get (hBox tail (S j 2)) = 0
      · simp only [q3, Int.reduceEq, if_true, if_false, if_pos c, decide_eq_true c]; exact hStep_hit h hj q3 c
      · simp only [q3, Int.reduceEq, if_true, if_false, if_neg c, decide_eq_false c]; exact hStep_miss h hj q3 c
    by_cases q4 : S j 0 = 11
    · simp only [q4, Int.reduceEq, if_true, if_false, decide_true, decide_false]; exact hStep_11 h hj q4
    · simp only [if_neg q1, if_neg q2, if_neg q3, if_neg q4, decide_eq_false q4]
      refine (hStep_idle h j (.inr ?_)).mono fun e w' ⟨g1, g2⟩ => ⟨g1, h.frm g2 (by simp), g2.mono (by simp)⟩
      rw [Int.toNat_natCast]; exact ⟨q1, q2, q3, q4⟩
set_option maxRecDepth 100000 in
theorem hAlone_yes (h : ClAt w lb sb ab wb tail n X A S) {j : Nat} (hj : j < n) (hq : S j 0 = 10) : Calls Tryz.prog 210 #[.pointer (some ⟨lb, 0, none⟩), .int .i64 j] w fun e w' => e = .returned (.bool (A.get tail == S j 1)) ∧
    ClAt w' lb sb ab wb tail n X (A.load tail) S ∧ Frm [ab, wb] w w' := by
  have HN := Lib.hid h.ne
  have HJ := Lib.hid hj
  have hn32 := h.n32
  have htb := h.tb
  have hr : spV n S j = .agg #[.int .i64 10, .int .i64 (S j 1), .int .i64 (S j 2), .int .i64 (S j 3)] := by unfold spV; rw [sHas_nat hj, if_pos rfl, ← hq]; rfl
  have hS := fun (W' : World) (hf : Frm [] w W') => hSpot_any (h.frm hf (by simp)) (j : Int)
  simp only [hr] at hS
  have HS := Lib.hid hS
  have fd := spotPcG
  have i1 : (j : Int) < n := by omega
  have HAW := Lib.hid h
  obtain ⟨W, rfl⟩ : ∃ W, W = w := ⟨_, rfl⟩
  have hne : Nonempty (HW (fun wx => Frm [ab, wb] W wx)) := ⟨⟨W, Frm.refl _ _⟩⟩
  have hz0 : ∀ q : HW (fun wx => Frm [ab, wb] W wx), q.w.cell? ⟨lb, 0, none⟩ = some (.pointer (some ⟨ab, 0, none⟩)) := fun q => (HAW.out.box.frm q.h (by simp; have := HN.out; omega)).cell (i := 0) rfl
  have hz1 : ∀ q : HW (fun wx => Frm [ab, wb] W wx), q.w.cell? ⟨lb, 1, none⟩ = some (.int .i64 tail) := fun q => (HAW.out.box.frm q.h (by simp; have := HN.out; omega)).cell (i := 1) rfl
  have hz2 : ∀ q : HW (fun wx => Frm [ab, wb] W wx), q.w.cell? ⟨lb, 2, none⟩ = some (.slice (some ⟨sb, 0, none⟩) n X.1) := fun q => (HAW.out.box.frm q.h (by simp; have := HN.out; omega)).cell (i := 2) rfl
  have hy1 : ∀ q : HW (fun wx => Frm [ab, wb] W wx), q.w.cell? ⟨sb, j * 4 + 1, none⟩ = some (.int .i64 (S j 1)) := fun q => (HAW.out.row.frm q.h (by simp; have := HN.out; omega)).cell (spX_get HJ.out (by omega))
  have hy2 : ∀ q : HW (fun wx => Frm [ab, wb] W wx), q.w.cell? ⟨sb, j * 4 + 2, none⟩ = some (.int .i64 (S j 2)) := fun q => (HAW.out.row.frm q.h (by simp; have := HN.out; omega)).cell (spX_get HJ.out (by omega))

  clear h hS hr hq hj
  generalize hx : A.get tail = x
  have HX := Lib.hid hx
  clear hx
  go_enter Tryz.func210, Tryz.ntmps210
  go_wp2_with fail
  refine held_begin (S := fun wx => Frm [ab, wb] W wx) (by kernel_rfl) ?_
  refine held_row_at (fuel := 24) (is := [0, 1]) (.cons rfl (.cons rfl .nil)) (by kernel_rfl) (fun _ _ _ _ _ h => h) rfl (by kernel_rfl) (Frm.refl _ _).drew1 ?_
  intro K hK
  repeat (go_big_quiet_step (fail))
  refine wpQuiet_nil (hK _ ?_)
  clear hK K
  refine held_call (fuel := 23) (i := 2) rfl (by kernel_rfl) ?_
  go_wp2_with fail
  refine (HS.out _ ((Frm.refl _ _).drew1)).mono ?_; rintro e Ws ⟨rfl, hFs⟩; have HFs := Lib.hid ((((Frm.refl _ _).drew1 : Frm [] W W.drew)).trans hFs); clear hFs
  go_wp2_with fail
  refine onNormal_mk ⟨(HFs.out.mono (by simp)), ?_⟩
  refine held_row_at (fuel := 4) (is := [3, 4, 5, 6, 7, 8, 9, 10, 11, 12, 13, 15, 16, 17, 18, 19, 20, 21, 22]) (.cons rfl (.cons rfl (.cons rfl (.cons rfl (.cons rfl (.cons rfl (.cons rfl (.cons rfl (.cons rfl (.cons rfl (.cons rfl (.cons rfl (.cons rfl (.cons rfl (.cons rfl (.cons rfl (.cons rfl (.cons rfl (.cons rfl .nil))))))))))))))))))) (by kernel_rfl) (fun _ _ _ _ _ h => h) rfl (by kernel_rfl) (HFs.out.mono (by simp)) ?_
  intro K hK
  repeat (go_big_quiet_step (fail))
  refine wpQuiet_nil (hK _ ?_)
  clear hK K
  refine held_call (fuel := 3) (i := 14) rfl (by kernel_rfl) ?_
  go_wp2_with fail
  refine (Load_any (HAW.out.ar.frm (S := []) HFs.out (by simp) (by simp)) (tail)).mono ?_; rw [HX.out]; rintro e w1 ⟨rfl, hA, hF⟩; have HF1 := Lib.hid ((HFs.out.mono (S' := [ab, wb]) (by simp)).trans hF); have H1 := Lib.hid (HAW.out.ar_ HF1.out hA); clear hA hF
  go_wp2_with fail
  refine onNormal_mk ⟨HF1.out, ?_⟩
  refine held_row_at (fuel := 0) (is := [23, 24, 25]) (.cons rfl (.cons rfl (.cons rfl .nil))) (by kernel_rfl) (fun _ _ _ _ _ h => h) rfl (by kernel_rfl) HF1.out ?_
  intro K hK
  repeat (go_big_quiet_step (fail))
  refine wpQuiet_nil (hK _ ?_)
  clear hK K
  refine held_end (by kernel_rfl) ?_
  go_wp2
  go_ret
  exact ⟨rfl, H1.out, HF1.out⟩
theorem hAlone_no (h : ClAt w lb sb ab wb tail n X A S) (i : Int) (hq : kTurnOk n S i 10 = false) : Calls Tryz.prog 210 #[.pointer (some ⟨lb, 0, none⟩), .int .i64 i] w fun e w' => e = .returned (.bool false) ∧ Frm [] w w' := by
  have hv : ∃ a b c p : Int, p ≠ 10 ∧ spV n S i = .agg #[.int .i64 p, .int .i64 a, .int .i64 b, .int .i64 c] := by
    unfold spV
    by_cases hh : sHas n i = true
    · rw [if_pos hh]; exact ⟨_, _, _, _, by unfold kTurnOk at hq; rw [hh] at hq; simpa using hq, rfl⟩
    · rw [if_neg hh]; exact ⟨0, 0, 0, 0, by omega, rfl⟩
  obtain ⟨a, b, c, p, p1, hr⟩ := hv
  have hS := fun (W' : World) (hf : Frm [] w W') => hSpot_any (h.frm hf (by simp)) i
  simp only [hr] at hS
  have HS := Lib.hid hS
  have fd := spotPcG
  have d1 : (p == 10) = false := by simpa using p1
  obtain ⟨W, rfl⟩ : ∃ W, W = w := ⟨_, rfl⟩
  have hne : Nonempty (HW (fun wx => Frm [] W wx)) := ⟨⟨W, Frm.refl _ _⟩⟩
  clear h hS hr hq p1
  go_enter Tryz.func210, Tryz.ntmps210
  go_wp2_with fail
  refine held_begin (S := fun wx => Frm [] W wx) (by kernel_rfl) ?_
  refine held_row_at (fuel := 24) (is := [0, 1]) (.cons rfl (.cons rfl .nil)) (by kernel_rfl) (fun _ _ _ _ _ h => h) rfl (by kernel_rfl) (Frm.refl _ _).drew1 ?_
  intro K hK
  repeat (go_big_quiet_step (fail))
  refine wpQuiet_nil (hK _ ?_)
  clear hK K
  refine held_call (fuel := 23) (i := 2) rfl (by kernel_rfl) ?_
  go_wp2_with fail
  refine (HS.out _ ((Frm.refl _ _).drew1)).mono ?_; rintro e Ws ⟨rfl, hFs⟩; have HFs := Lib.hid ((((Frm.refl _ _).drew1 : Frm [] W W.drew)).trans hFs); clear hFs
  go_wp2_with fail
  refine onNormal_mk ⟨HFs.out, ?_⟩
  refine held_row_at (fuel := 4) (is := [3, 4, 5, 6, 7, 8, 9, 10, 11, 12, 13, 15, 16, 17, 18, 19, 20, 21, 22]) (.cons rfl (.cons rfl (.cons rfl (.cons rfl (.cons rfl (.cons rfl (.cons rfl (.cons rfl (.cons rfl (.cons rfl (.cons rfl (.cons rfl (.cons rfl (.cons rfl (.cons rfl (.cons rfl (.cons rfl (.cons rfl (.cons rfl .nil))))))))))))))))))) (by kernel_rfl) (fun _ _ _ _ _ h => h) rfl (by kernel_rfl) HFs.out ?_
  intro K hK
  repeat (go_big_quiet_step (fail))
  refine wpQuiet_nil (hK _ ?_)
  clear hK K
  refine held_call (fuel := 3) (i := 14) rfl (by kernel_rfl) ?_
  go_wp2_with fail
  refine onNormal_mk ⟨HFs.out, ?_⟩
  refine held_row_at (fuel := 0) (is := [23, 24, 25]) (.cons rfl (.cons rfl (.cons rfl .nil))) (by kernel_rfl) (fun _ _ _ _ _ h => h) rfl (by kernel_rfl) HFs.out ?_
  intro K hK
  repeat (go_big_quiet_step (fail))
  refine wpQuiet_nil (hK _ ?_)
  clear hK K
  refine held_end (by kernel_rfl) ?_
  go_wp2
  go_ret
  exact ⟨rfl, HFs.out⟩
theorem hAlone_any (h : ClAt w lb sb ab wb tail n X A S) (i : Int) : Calls Tryz.prog 210 #[.pointer (some ⟨lb, 0, none⟩), .int .i64 i] w fun e w' => e = .returned (.bool (hAlR n tail S A i)) ∧
    ClAt w' lb sb ab wb tail n X (hAlA n tail S A i) S ∧ Frm [sb, ab, wb] w w' := by
  unfold hAlR hAlA
  cases hq : kTurnOk n S i 10 with
  | false =>
    simp only [Bool.false_and, Bool.false_eq_true, if_false]
    exact (hAlone_no h i hq).mono fun e w' ⟨h1, h2⟩ => ⟨h1, h.frm h2 (by simp), h2.mono (by simp)⟩
  | true =>
    simp only [Bool.true_and, if_true]
    have hq' : sHas n i = true ∧ S i.toNat 0 = 10 := by unfold kTurnOk at hq; simpa using hq
    have hi' : 0 ≤ i ∧ i < (n : Int) := by have := hq'.1; unfold sHas at this; simpa using this
    obtain ⟨j, rfl⟩ := Int.eq_ofNat_of_zero_le hi'.1
    rw [Int.toNat_natCast] at hq' ⊢
    refine (hAlone_yes h (by omega : j < n) hq'.2).mono fun e w' ⟨h1, h2, h3⟩ => ⟨?_, h2, h3.mono (by simp)⟩
    rw [h1]
    exact ret_bool (by simp [BEq.beq])
end
end Go.Proofs.YteijjhahgabalaaGreat

/- The contracts of package mcs: a step of any kind, Alone and New, as functions of the spots and the words. -/
namespace Go.Proofs.YteijjhahgabalaaGreat
open Go.RowKit
/-- a step of a slot that comes in: the words, the spots (but for the step), and the next step -/
def cIn (tail : Nat) (A : AR) (S : Nat → Nat → Int) (j : Nat) : AR × (Nat → Nat → Int) × Int :=
  if S j 0 = 1 then (A.store (cNext tail ((j : Int) + 1)) 0, S, 2)
  else if S j 0 = 2 then (A.store (cWait tail ((j : Int) + 1)) 1, S, 3)
  else if S j 0 = 3 then (A.swap tail ((j : Int) + 1), spPut S j 1 (A.get tail), if A.get tail = 0 then 10 else 4)
  else if S j 0 = 4 then (A.store (cNext tail (S j 1)) ((j : Int) + 1), S, 5)
  else (A.load (cWait tail ((j : Int) + 1)), S, if A.get (cWait tail ((j : Int) + 1)) = 0 then 10 else 5)
/-- a step of a slot that goes out -/
def cOut (tail : Nat) (A : AR) (S : Nat → Nat → Int) (j : Nat) : AR × (Nat → Nat → Int) × Int :=
  if S j 0 = 12 then (A.cas tail ((j : Int) + 1) 0, S, if A.casOk tail ((j : Int) + 1) then 0 else 13)
  else if S j 0 = 14 then (A.store (cWait tail (S j 1)) 0, S, 0)
  else (A.load (cNext tail ((j : Int) + 1)), spPut S j 1 (A.get (cNext tail ((j : Int) + 1))), if A.get (cNext tail ((j : Int) + 1)) = 0 then (if S j 0 = 11 then 12 else 13) else 14)
/-- each slot is at a step that there is -/
def CPc (n : Nat) (S : Nat → Nat → Int) : Prop := ∀ j, j < n → (0 ≤ S j 0 ∧ S j 0 ≤ 5) ∨ (10 ≤ S j 0 ∧ S j 0 ≤ 14)
def cGo (tail : Nat) (A : AR) (S : Nat → Nat → Int) (j : Nat) : AR × (Nat → Nat → Int) × Int := if S j 0 < 10 then cIn tail A S j else cOut tail A S j
def cMoves (n : Nat) (S : Nat → Nat → Int) (i : Int) : Bool := sHas n i && !(S i.toNat 0 == 0) && !(S i.toNat 0 == 10)
def cStepA (n tail : Nat) (S : Nat → Nat → Int) (A : AR) (i : Int) : AR := if cMoves n S i then (cGo tail A S i.toNat).1 else A
def cStepS (n tail : Nat) (S : Nat → Nat → Int) (A : AR) (i : Int) : Nat → Nat → Int := if cMoves n S i then spPut (cGo tail A S i.toNat).2.1 i.toNat 0 (cGo tail A S i.toNat).2.2 else S
def cStepR (n tail : Nat) (S : Nat → Nat → Int) (A : AR) (i : Int) : Bool := cMoves n S i && ((cGo tail A S i.toNat).2.2 == if S i.toNat 0 < 10 then 10 else 0)
section
variable {w w' : World} {lb sb ab wb tail n : Nat} {A A' : AR} {S S' : Nat → Nat → Int}
theorem cin_go {W : World} {j : Nat} {x : AR × (Nat → Nat → Int) × Int} {res : Int} (e : x = (A', S', res))
    (h : Calls Tryz.prog 203 #[.pointer (some ⟨lb, 0, none⟩), .pointer (some ⟨sb, j * 4, none⟩), .int .i64 ((j : Int) + 1)] W fun e w' => e = .returned (.int .i64 res) ∧ McAt w' lb sb ab wb tail n A' S' ∧ Frm [sb, ab, wb] W w') :
    Calls Tryz.prog 203 #[.pointer (some ⟨lb, 0, none⟩), .pointer (some ⟨sb, j * 4, none⟩), .int .i64 ((j : Int) + 1)] W fun e w' => e = .returned (.int .i64 x.2.2) ∧ McAt w' lb sb ab wb tail n x.1 x.2.1 ∧ Frm [sb, ab, wb] W w' := by
  subst e; exact h
theorem cout_go {W : World} {j : Nat} {x : AR × (Nat → Nat → Int) × Int} {res : Int} (e : x = (A', S', res))
    (h : Calls Tryz.prog 204 #[.pointer (some ⟨lb, 0, none⟩), .pointer (some ⟨sb, j * 4, none⟩), .int .i64 ((j : Int) + 1)] W fun e w' => e = .returned (.int .i64 res) ∧ McAt w' lb sb ab wb tail n A' S' ∧ Frm [sb, ab, wb] W w') :
    Calls Tryz.prog 204 #[.pointer (some ⟨lb, 0, none⟩), .pointer (some ⟨sb, j * 4, none⟩), .int .i64 ((j : Int) + 1)] W fun e w' => e = .returned (.int .i64 x.2.2) ∧ McAt w' lb sb ab wb tail n x.1 x.2.1 ∧ Frm [sb, ab, wb] W w' := by
  subst e; exact h
theorem cIn_any (h : McAt w lb sb ab wb tail n A S) {j : Nat} (hj : j < n) (hp : 1 ≤ S j 0 ∧ S j 0 ≤ 5) :
    Calls Tryz.prog 203 #[.pointer (some ⟨lb, 0, none⟩), .pointer (some ⟨sb, j * 4, none⟩), .int .i64 ((j : Int) + 1)] w fun e w' => e = .returned (.int .i64 (cIn tail A S j).2.2) ∧ McAt w' lb sb ab wb tail n (cIn tail A S j).1 (cIn tail A S j).2.1 ∧ Frm [sb, ab, wb] w w' := by
  rcases (by omega : S j 0 = 1 ∨ S j 0 = 2 ∨ S j 0 = 3 ∨ S j 0 = 4 ∨ S j 0 = 5) with q | q | q | q | q
  · exact cin_go (by unfold cIn; rw [if_pos q]) (c_in1 h hj q)
  · exact cin_go (by unfold cIn; rw [if_neg (by omega), if_pos q]) (c_in2 h hj q)
  · by_cases g : A.get tail = 0
    · exact cin_go (by unfold cIn; rw [if_neg (by omega), if_neg (by omega), if_pos q, if_pos g]) (c_in3a h hj q g)
    · exact cin_go (by unfold cIn; rw [if_neg (by omega), if_neg (by omega), if_pos q, if_neg g]) (c_in3b h hj q g)
  · exact cin_go (by unfold cIn; rw [if_neg (by omega), if_neg (by omega), if_neg (by omega), if_pos q]) (c_in4 h hj q)
  · by_cases g : A.get (cWait tail ((j : Int) + 1)) = 0
    · exact cin_go (by unfold cIn; rw [if_neg (by omega), if_neg (by omega), if_neg (by omega), if_neg (by omega), if_pos g]) (c_in5a h hj q g)
    · exact cin_go (by unfold cIn; rw [if_neg (by omega), if_neg (by omega), if_neg (by omega), if_neg (by omega), if_neg g]) (c_in5b h hj q g)
theorem cOut_any (h : McAt w lb sb ab wb tail n A S) {j : Nat} (hj : j < n) (hp : 11 ≤ S j 0 ∧ S j 0 ≤ 14) :
    Calls Tryz.prog 204 #[.pointer (some ⟨lb, 0, none⟩), .pointer (some ⟨sb, j * 4, none⟩), .int .i64 ((j : Int) + 1)] w fun e w' => e = .returned (.int .i64 (cOut tail A S j).2.2) ∧ McAt w' lb sb ab wb tail n (cOut tail A S j).1 (cOut tail A S j).2.1 ∧ Frm [sb, ab, wb] w w' := by
  rcases (by omega : S j 0 = 11 ∨ S j 0 = 12 ∨ S j 0 = 13 ∨ S j 0 = 14) with q | q | q | q
  · by_cases g : A.get (cNext tail ((j : Int) + 1)) = 0
    · exact cout_go (by unfold cOut; rw [if_neg (by omega), if_neg (by omega), if_pos g, if_pos q]) (c_11a h hj q g)
    · exact cout_go (by unfold cOut; rw [if_neg (by omega), if_neg (by omega), if_neg g]) (c_11b h hj q g)
  · cases g : A.casOk tail ((j : Int) + 1) with
    | true => exact cout_go (by unfold cOut; rw [if_pos q, if_pos g]) (c_12a h hj q g)
    | false => exact cout_go (by unfold cOut; rw [if_pos q, if_neg (by simp [g])]) (c_12b h hj q g)
  · by_cases g : A.get (cNext tail ((j : Int) + 1)) = 0
    · exact cout_go (by unfold cOut; rw [if_neg (by omega), if_neg (by omega), if_pos g, if_neg (by omega)]) (c_13a h hj q g)
    · exact cout_go (by unfold cOut; rw [if_neg (by omega), if_neg (by omega), if_neg g]) (c_13b h hj q g)
  · exact cout_go (by unfold cOut; rw [if_neg (by omega), if_pos q]) (c_14 h hj q)
theorem cStep_any (h : McAt w lb sb ab wb tail n A S) (hp : CPc n S) (i : Int) : Calls Tryz.prog 199 #[.pointer (some ⟨lb, 0, none⟩), .int .i64 i] w fun e w' => e = .returned (.bool (cStepR n tail S A i)) ∧ McAt w' lb sb ab wb tail n (cStepA n tail S A i) (cStepS n tail S A i) ∧ Frm [sb, ab, wb] w w' := by
  unfold cStepR cStepA cStepS
  cases hm : cMoves n S i with
  | false =>
    refine (c_idle h i ?_).mono fun e w' ⟨h1, h2⟩ => ⟨by rw [h1]; rfl, h.frm h2 (by simp), h2.mono (by simp)⟩
    unfold cMoves at hm
    cases g : sHas n i with
    | false => exact .inl rfl
    | true =>
      rw [g] at hm
      by_cases g0 : S i.toNat 0 = 0
      · exact .inr (.inl g0)
      · by_cases g1 : S i.toNat 0 = 10
        · exact .inr (.inr g1)
        · simp [g0, g1] at hm
  | true =>
    have hm' : sHas n i = true ∧ ¬ S i.toNat 0 = 0 ∧ ¬ S i.toNat 0 = 10 := by unfold cMoves at hm; simpa [and_assoc] using hm
    obtain ⟨hi, g0, g1⟩ := hm'
    have hi' : 0 ≤ i ∧ i < (n : Int) := by unfold sHas at hi; simpa using hi
    obtain ⟨j, rfl⟩ := Int.eq_ofNat_of_zero_le hi'.1
    have hj : j < n := by omega
    have ej : ((j : Int)).toNat = j := by omega
    rw [ej] at g0 g1 ⊢
    have hpj := hp j hj
    simp only [Bool.true_and, if_true]
    unfold cGo
    by_cases q : S j 0 < 10
    · rw [if_pos q, if_pos q]
      exact c_step_in h hj rfl (by omega) fun W hf => cIn_any (h.frm hf (by simp)) hj (by omega)
    · rw [if_neg q, if_neg q]
      exact c_step_out h hj rfl (by omega) fun W hf => cOut_any (h.frm hf (by simp)) hj (by omega)
end
end Go.Proofs.YteijjhahgabalaaGreat

/- A row of slots that wait for words of their own (mcs), its words a region of an arena: plain lemmas. -/
namespace Go.Proofs.YteijjhahgabalaaGreat
open Go.RowKit
/-- the words of the row from b on -/
def cv (b n : Nat) (A : AR) : CV := ⟨A.get b, fun j => if j < n then A.get ((b : Int) + 2 * j + 1) else 0, fun j => if j < n then A.get ((b : Int) + 2 * j + 2) else 0⟩
theorem sp_self (S : Nat → Nat → Int) (j t : Nat) : spPut S j t (S j t) = S := by
  funext i u
  rw [spat]
  split
  · rename_i h; rw [h.1, h.2]
  · rfl
section
variable {b n : Nat} {S : Nat → Nat → Int} {A B : AR} {Q : List Nat} {o : Option Nat}
theorem cv_frame (hg : ∀ i : Int, (b : Int) ≤ i → i < (b : Int) + ((1 + 2 * n : Nat) : Int) → B.get i = A.get i) : cv b n B = cv b n A := by
  unfold cv
  have e1 : B.get b = A.get b := hg _ (by omega) (by omega)
  have e2 : (fun j : Nat => if j < n then B.get ((b : Int) + 2 * j + 1) else 0) = fun j : Nat => if j < n then A.get ((b : Int) + 2 * j + 1) else 0 := by
    funext j
    split
    · exact hg _ (by omega) (by omega)
    · rfl
  have e3 : (fun j : Nat => if j < n then B.get ((b : Int) + 2 * j + 2) else 0) = fun j : Nat => if j < n then A.get ((b : Int) + 2 * j + 2) else 0 := by
    funext j
    split
    · exact hg _ (by omega) (by omega)
    · rfl
  rw [e1, e2, e3]
theorem cv_next {p : Nat} {v : Int} (hp : p < n) (hg : ∀ k, B.get k = if k = (b : Int) + 2 * p + 1 then v else A.get k) : (cv b n B).tl = (cv b n A).tl ∧ (cv b n B).nx = upd (cv b n A).nx p v ∧ (cv b n B).wt = (cv b n A).wt := by
  refine ⟨?_, ?_, ?_⟩
  · show B.get b = A.get b; rw [hg, if_neg (by omega)]
  · funext j
    unfold upd
    by_cases e : j = p
    · subst e; rw [if_pos rfl]; show (if j < n then _ else _) = _; rw [if_pos hp, hg, if_pos rfl]
    · rw [if_neg e]; show (if j < n then _ else _) = if j < n then _ else _
      split
      · rw [hg, if_neg (by omega)]
      · rfl
  · funext j
    show (if j < n then _ else _) = if j < n then _ else _
    split
    · rw [hg, if_neg (by omega)]
    · rfl
theorem cv_wait {p : Nat} {v : Int} (hp : p < n) (hg : ∀ k, B.get k = if k = (b : Int) + 2 * p + 2 then v else A.get k) : (cv b n B).tl = (cv b n A).tl ∧ (cv b n B).nx = (cv b n A).nx ∧ (cv b n B).wt = upd (cv b n A).wt p v := by
  refine ⟨?_, ?_, ?_⟩
  · show B.get b = A.get b; rw [hg, if_neg (by omega)]
  · funext j
    show (if j < n then _ else _) = if j < n then _ else _
    split
    · rw [hg, if_neg (by omega)]
    · rfl
  · funext j
    unfold upd
    by_cases e : j = p
    · subst e; rw [if_pos rfl]; show (if j < n then _ else _) = _; rw [if_pos hp, hg, if_pos rfl]
    · rw [if_neg e]; show (if j < n then _ else _) = if j < n then _ else _
      split
      · rw [hg, if_neg (by omega)]
      · rfl
theorem cv_tail {v : Int} (hg : ∀ k, B.get k = if k = (b : Int) then v else A.get k) : (cv b n B).tl = v ∧ (cv b n B).nx = (cv b n A).nx ∧ (cv b n B).wt = (cv b n A).wt := by
  refine ⟨?_, ?_, ?_⟩
  · show B.get b = v; rw [hg, if_pos rfl]
  · funext j
    show (if j < n then _ else _) = if j < n then _ else _
    split
    · rw [hg, if_neg (by omega)]
    · rfl
  · funext j
    show (if j < n then _ else _) = if j < n then _ else _
    split
    · rw [hg, if_neg (by omega)]
    · rfl
theorem cnext (hb : b ≤ 4096) (hn : n ≤ 32) {p : Nat} (hp : p < n) : cNext b ((p : Int) + 1) = (b : Int) + 2 * p + 1 := by
  unfold cNext
  rw [wr_id (x := 2 * ((p : Int) + 1)) (by omega), wr_id (x := (b : Int) + 2 * ((p : Int) + 1)) (by omega), wr_id (by omega)]; omega
theorem cwait (hb : b ≤ 4096) (hn : n ≤ 32) {p : Nat} (hp : p < n) : cWait b ((p : Int) + 1) = (b : Int) + 2 * p + 2 := by
  unfold cWait
  rw [wr_id (x := 2 * ((p : Int) + 1)) (by omega), wr_id (by omega)]; omega
theorem MC.one (h : MC n (cv b n A) S Q o) {j k : Nat} (hj : j < n) (hk : k < n) (h1 : 10 ≤ S j 0) (h2 : 10 ≤ S k 0) : j = k := by
  have e1 := h.ownr j hj h1
  have e2 := h.ownr k hk h2
  rw [e1] at e2
  exact Option.some.inj e2
theorem MC.cpc {w : CV} (h : MC n w S Q o) : CPc n S := h.pcs
/-- what a move of slot j comes to -/
def CG (b n : Nat) (S : Nat → Nat → Int) (A : AR) (j : Nat) (x : AR × (Nat → Nat → Int) × Int) : Prop :=
  (∃ Q' o', MC n (cv b n x.1) (spPut x.2.1 j 0 x.2.2) Q' o') ∧ Op1 b (1 + 2 * n) A x.1 ∧ x.1.ops = A.ops + 1 ∧ (∀ k, k ≠ j → x.2.1 k 0 = S k 0)
theorem CG.in_ (h : MC n (cv b n A) S Q o) (hf : A.Fit) (hb : 1 ≤ b) (hn : n ≤ 32) (hr : b + (1 + 2 * n) ≤ A.taken + 1) {j : Nat} (hj : j < n) (h0 : 1 ≤ S j 0 ∧ S j 0 ≤ 5) : CG b n S A j (cIn b A S j) ∧ ((1 ≤ (cIn b A S j).2.2 ∧ (cIn b A S j).2.2 < 10) ∨ (cIn b A S j).2.2 = 10) := by
  have hl2 := hf.1; have hl3 := hf.2.1
  have hb' : b ≤ 4096 := by omega
  unfold CG cIn
  rcases (by omega : S j 0 = 1 ∨ S j 0 = 2 ∨ S j 0 = 3 ∨ S j 0 = 4 ∨ S j 0 = 5) with q | q | q | q | q
  · rw [if_pos q, cnext hb' hn hj]
    dsimp only
    have i1 : A.has ((b : Int) + 2 * j + 1) = true := has_iff.2 (by omega)
    obtain ⟨o1, o2⟩ := op_store (b := b) (m := 1 + 2 * n) (v := 0) hf i1 (by omega) (by omega)
    obtain ⟨c1, c2, c3⟩ := cv_next (B := A.store ((b : Int) + 2 * j + 1) 0) (v := 0) hj (fun k => get_store hf.1 i1)
    refine ⟨⟨⟨Q, o, h.early hj (by omega) (by omega) (fun k hk => by rw [c2, upd_ne _ _ hk]) (fun k hk => by rw [c3]) c1 (fun _ => by rw [c2, upd_eq]) (by omega)⟩, o1, o2, fun _ _ => by simp⟩, .inl ⟨by omega, by omega⟩⟩
  · rw [if_neg (by omega), if_pos q, cwait hb' hn hj]
    dsimp only
    have i1 : A.has ((b : Int) + 2 * j + 2) = true := has_iff.2 (by omega)
    obtain ⟨o1, o2⟩ := op_store (b := b) (m := 1 + 2 * n) (v := 1) hf i1 (by omega) (by omega)
    obtain ⟨c1, c2, c3⟩ := cv_wait (B := A.store ((b : Int) + 2 * j + 2) 1) (v := 1) hj (fun k => get_store hf.1 i1)
    refine ⟨⟨⟨Q, o, h.early hj (by omega) (by omega) (fun k hk => by rw [c2]) (fun k hk => by rw [c3, upd_ne _ _ hk]) c1 (by omega) (fun _ => ⟨by rw [c2]; exact h.p2 j hj q, by rw [c3, upd_eq]⟩)⟩, o1, o2, fun _ _ => by simp⟩, .inl ⟨by omega, by omega⟩⟩
  · rw [if_neg (by omega), if_neg (by omega), if_pos q]
    dsimp only
    have i1 : A.has (b : Int) = true := has_iff.2 (by omega)
    obtain ⟨o1, o2⟩ := op_swap (b := b) (m := 1 + 2 * n) (v := (j : Int) + 1) hf i1 (by omega) (by omega)
    obtain ⟨c1, c2, c3⟩ := cv_tail (n := n) (B := A.swap b ((j : Int) + 1)) (v := (j : Int) + 1) (fun k => get_swap hf.1 i1)
    obtain ⟨d1, d2⟩ := h.door hj q c1 c2 c3
    have ho : ∀ k, k ≠ j → spPut S j 1 (A.get b) k 0 = S k 0 := fun k hk => by rw [spat, if_neg (by simp [hk])]
    by_cases z : A.get b = 0
    · simp only [if_pos z]
      exact ⟨⟨⟨_, _, d1 z⟩, o1, o2, ho⟩, .inr (by simp)⟩
    · simp only [if_neg z]
      exact ⟨⟨⟨_, _, d2 z⟩, o1, o2, ho⟩, .inl ⟨by omega, by omega⟩⟩
  · rw [if_neg (by omega), if_neg (by omega), if_neg (by omega), if_pos q]
    obtain ⟨p, hp, e, hl⟩ := h.link hj q
    rw [e, cnext hb' hn hp]
    dsimp only
    have i1 : A.has ((b : Int) + 2 * p + 1) = true := has_iff.2 (by omega)
    obtain ⟨o1, o2⟩ := op_store (b := b) (m := 1 + 2 * n) (v := (j : Int) + 1) hf i1 (by omega) (by omega)
    obtain ⟨c1, c2, c3⟩ := cv_next (B := A.store ((b : Int) + 2 * p + 1) ((j : Int) + 1)) (v := (j : Int) + 1) hp (fun k => get_store hf.1 i1)
    exact ⟨⟨⟨Q, o, hl _ c1 c2 c3⟩, o1, o2, fun _ _ => by simp⟩, .inl ⟨by omega, by omega⟩⟩
  · rw [if_neg (by omega), if_neg (by omega), if_neg (by omega), if_neg (by omega), cwait hb' hn hj]
    dsimp only
    have i1 : A.has ((b : Int) + 2 * j + 2) = true := has_iff.2 (by omega)
    obtain ⟨o1, o2⟩ := op_load (b := b) (m := 1 + 2 * n) hf i1 (by omega) (by omega)
    have c : cv b n (A.load ((b : Int) + 2 * j + 2)) = cv b n A := cv_frame fun i _ _ => get_load
    have ew : (cv b n A).wt j = A.get ((b : Int) + 2 * j + 2) := if_pos hj
    by_cases z : A.get ((b : Int) + 2 * j + 2) = 0
    · simp only [if_pos z]
      refine ⟨⟨⟨Q, some j, ?_⟩, o1, o2, fun _ _ => by simp⟩, .inr (by simp)⟩
      show MC n (cv b n (A.load ((b : Int) + 2 * j + 2))) _ _ _
      rw [c]
      exact (h.enter hj q (by rw [ew]; exact z)).2 _ rfl rfl rfl
    · simp only [if_neg z]
      refine ⟨⟨⟨Q, o, ?_⟩, o1, o2, fun _ _ => by simp⟩, .inl ⟨by omega, by omega⟩⟩
      show MC n (cv b n (A.load ((b : Int) + 2 * j + 2))) (spPut S j 0 5) _ _
      rw [c, ← q, sp_self]
      exact h
theorem CG.out_ (h : MC n (cv b n A) S Q o) (hf : A.Fit) (hb : 1 ≤ b) (hn : n ≤ 32) (hr : b + (1 + 2 * n) ≤ A.taken + 1) {j : Nat} (hj : j < n) (h0 : 11 ≤ S j 0 ∧ S j 0 ≤ 14) : CG b n S A j (cOut b A S j) ∧ ((10 < (cOut b A S j).2.2) ∨ (cOut b A S j).2.2 = 0) := by
  have hl2 := hf.1; have hl3 := hf.2.1
  have hb' : b ≤ 4096 := by omega
  obtain rfl := h.ownr j hj (by omega)
  obtain ⟨⟨r, rfl⟩, hph⟩ := h.own2 j rfl
  have i1 : A.has ((b : Int) + 2 * j + 1) = true := has_iff.2 (by omega)
  have en : (cv b n A).nx j = A.get ((b : Int) + 2 * j + 1) := if_pos hj
  have c : cv b n (A.load ((b : Int) + 2 * j + 1)) = cv b n A := cv_frame fun i _ _ => get_load
  have hs : ∀ (v pc : Int), (∀ k, k ≠ j → ∀ t, spPut (spPut S j 1 v) j 0 pc k t = S k t) ∧ spPut (spPut S j 1 v) j 0 pc j 0 = pc ∧ spPut (spPut S j 1 v) j 0 pc j 1 = v := fun v pc => ⟨fun k hk t => by rw [spat, spat, if_neg (by simp [hk]), if_neg (by simp [hk])], by rw [spat, if_pos (by simp)], by rw [spat, if_neg (by simp), spat, if_pos (by simp)]⟩
  have ho : ∀ v k, k ≠ j → spPut S j 1 v k 0 = S k 0 := fun v k hk => by rw [spat, if_neg (by simp [hk])]
  -- what is seen of who stands behind
  have hload : ∀ pc : Int, (pc = 12 ∨ (pc = 13 ∧ (j :: r) ≠ [j])) → CG b n S A j (A.load ((b : Int) + 2 * j + 1), spPut S j 1 (A.get ((b : Int) + 2 * j + 1)), if A.get ((b : Int) + 2 * j + 1) = 0 then pc else 14) ∧ (10 < (if A.get ((b : Int) + 2 * j + 1) = 0 then pc else 14) ∨ (if A.get ((b : Int) + 2 * j + 1) = 0 then pc else 14) = 0) := by
    intro pc hpc
    unfold CG
    dsimp only
    obtain ⟨o1, o2⟩ := op_load (b := b) (m := 1 + 2 * n) hf i1 (by omega) (by omega)
    by_cases z : A.get ((b : Int) + 2 * j + 1) = 0
    · simp only [if_pos z]
      refine ⟨⟨⟨j :: r, some j, ?_⟩, o1, o2, ho _⟩, .inl (by omega)⟩
      show MC n (cv b n (A.load ((b : Int) + 2 * j + 1))) _ _ _
      rw [c]
      obtain ⟨s1, s2, s3⟩ := hs (A.get ((b : Int) + 2 * j + 1)) pc
      refine h.own s1 ?_ rfl rfl rfl
      rcases hpc with e | ⟨e, e2⟩
      · exact .inl (.inr (.inr (by rw [← e]; exact s2)))
      · exact .inr (.inl ⟨by rw [← e]; exact s2, e2⟩)
    · simp only [if_neg z]
      refine ⟨⟨⟨j :: r, some j, ?_⟩, o1, o2, ho _⟩, .inl (by omega)⟩
      show MC n (cv b n (A.load ((b : Int) + 2 * j + 1))) _ _ _
      rw [c]
      obtain ⟨s1, s2, s3⟩ := hs (A.get ((b : Int) + 2 * j + 1)) 14
      obtain ⟨q, r', e, en2, e5⟩ := h.ql.second (by rw [en]; exact z)
      have hqj : q ≠ j := fun e' => by subst e'; omega
      exact h.own s1 (.inr (.inr ⟨s2, q, r', by rw [e], by rw [s3, ← en]; exact en2, by rw [s1 q hqj]; exact e5⟩)) rfl rfl rfl
  unfold CG cOut
  rcases (by omega : S j 0 = 11 ∨ S j 0 = 12 ∨ S j 0 = 13 ∨ S j 0 = 14) with q | q | q | q
  · rw [if_neg (by omega), if_neg (by omega), cnext hb' hn hj]
    simp only [if_pos q]
    have := hload 12 (.inl rfl)
    unfold CG at this
    exact this
  · rw [if_pos q]
    dsimp only
    have i0 : A.has (b : Int) = true := has_iff.2 (by omega)
    obtain ⟨o1, o2⟩ := op_cas (b := b) (m := 1 + 2 * n) (o := (j : Int) + 1) (v := 0) hf i0 (by omega) (by omega)
    have g := fun k => get_cas (A := A) (i := (b : Int)) (o := (j : Int) + 1) (v := 0) (j := k) hf.1 i0
    cases z : A.casOk b ((j : Int) + 1) with
    | true =>
      have z' := (cas_ok i0).1 z
      simp only [if_true]
      have er : r = [] := lst_one h.nd (h.tl.symm.trans z')
      subst er
      obtain ⟨c1, c2, c3⟩ := cv_tail (b := b) (n := n) (A := A) (B := A.cas b ((j : Int) + 1) 0) (v := 0) (fun k => by rw [g]; by_cases e : k = b <;> simp [e, z'])
      exact ⟨⟨⟨[], none, h.quit c1 c2 (fun k _ => by rw [c3]) (fun a r' e => by simp at e)⟩, o1, o2, fun _ _ => by simp⟩, .inr (by simp)⟩
    | false =>
      have z' : A.get b ≠ (j : Int) + 1 := fun e => by rw [(cas_ok i0).2 e] at z; simp at z
      simp only [Bool.false_eq_true, if_false]
      have c' : cv b n (A.cas b ((j : Int) + 1) 0) = cv b n A := cv_frame fun i _ _ => by rw [g, if_neg (fun e => z' e.2)]
      refine ⟨⟨⟨j :: r, some j, ?_⟩, o1, o2, fun _ _ => by simp⟩, .inl (by omega)⟩
      show MC n (cv b n (A.cas b ((j : Int) + 1) 0)) _ _ _
      rw [c']
      have s1 : ∀ k, k ≠ j → ∀ t, spPut S j 0 13 k t = S k t := fun k hk t => by rw [spat, if_neg (by simp [hk])]
      refine h.own s1 (.inr (.inl ⟨by rw [spat, if_pos (by simp)], fun e => ?_⟩)) rfl rfl rfl
      have := h.tl
      rw [e] at this
      exact z' this
  · have hne : (j :: r) ≠ [j] := by
      rcases hph with h1 | ⟨_, h2⟩ | ⟨h1, _⟩
      · omega
      · exact h2
      · omega
    rw [if_neg (by omega), if_neg (by omega), cnext hb' hn hj]
    simp only [if_neg (show ¬ S j 0 = 11 by omega)]
    have := hload 13 (.inr ⟨rfl, hne⟩)
    unfold CG at this
    exact this
  · rw [if_neg (by omega), if_pos q]
    obtain ⟨p, r', e, e1, e5⟩ : ∃ q r', r = q :: r' ∧ S j 1 = (q : Int) + 1 ∧ S q 0 = 5 := by
      rcases hph with h1 | ⟨h1, _⟩ | ⟨_, p, r', e, e1, e5⟩
      · omega
      · omega
      · exact ⟨p, r', (List.cons.inj e).2, e1, e5⟩
    subst e
    have hp : p < n := h.lt p (by simp)
    rw [e1, cwait hb' hn hp]
    dsimp only
    have i2 : A.has ((b : Int) + 2 * p + 2) = true := has_iff.2 (by omega)
    obtain ⟨o1, o2⟩ := op_store (b := b) (m := 1 + 2 * n) (v := 0) hf i2 (by omega) (by omega)
    obtain ⟨c1, c2, c3⟩ := cv_wait (B := A.store ((b : Int) + 2 * p + 2) 0) (v := 0) hp (fun k => get_store hf.1 i2)
    refine ⟨⟨⟨p :: r', none, h.quit ?_ c2 (fun k hk => ?_) (fun a r'' e => ?_)⟩, o1, o2, fun _ _ => by simp⟩, .inr (by simp)⟩
    · rw [c1]; exact h.tl
    · rw [c3, upd_ne _ _ (by simpa using hk)]
    · obtain ⟨rfl, rfl⟩ := List.cons.inj e
      exact ⟨e5, by rw [c3, upd_eq]⟩
theorem MC.step (h : MC n (cv b n A) S Q o) (hf : A.Fit) (hl : A.ops < 1000000000) (hb : 1 ≤ b) (hn : n ≤ 32) (hr : b + (1 + 2 * n) ≤ A.taken + 1) {j : Nat} (hj : j < n) :
    (∃ Q' o', MC n (cv b n (cStepA n b S A j)) (cStepS n b S A j) Q' o') ∧ Op1 b (1 + 2 * n) A (cStepA n b S A j) ∧ (S j 0 = 1 → (cStepA n b S A j).ops = A.ops + 1) ∧ StepOk S (cStepS n b S A j) j (cStepR n b S A j) := by
  have hpc := h.pcs j hj
  unfold cStepA cStepS cStepR cMoves
  rw [sHas_nat hj]
  simp only [Bool.true_and, Int.toNat_natCast]
  by_cases q0 : S j 0 = 0
  · have e : (!(S j 0 == 0) && !(S j 0 == 10)) = false := by rw [q0]; rfl
    rw [e]
    simp only [Bool.false_eq_true, if_false, Bool.false_and]
    exact ⟨⟨Q, o, h⟩, Op1.refl _ _ _, by omega, ⟨fun _ _ => rfl, by omega, by omega, fun _ => ⟨rfl, rfl⟩⟩⟩
  by_cases q1 : S j 0 = 10
  · have e : (!(S j 0 == 0) && !(S j 0 == 10)) = false := by rw [q1]; rfl
    rw [e]
    simp only [Bool.false_eq_true, if_false, Bool.false_and]
    exact ⟨⟨Q, o, h⟩, Op1.refl _ _ _, by omega, ⟨fun _ _ => rfl, by omega, by omega, fun _ => ⟨rfl, rfl⟩⟩⟩
  have e : (!(S j 0 == 0) && !(S j 0 == 10)) = true := by simp [q0, q1]
  rw [e]
  simp only [if_true, Bool.true_and]
  unfold cGo
  by_cases q : S j 0 < 10
  · simp only [if_pos q]
    obtain ⟨⟨g1, g2, g3, g4⟩, g5⟩ := CG.in_ h hf hb hn hr hj (by omega)
    refine ⟨g1, g2, fun _ => g3, ⟨fun k hk => ?_, fun _ _ => ?_, by omega, by omega⟩⟩
    · rw [spat, if_neg (by simp [hk])]; exact g4 k hk
    · rw [spat, if_pos (by simp)]; exact ⟨by omega, by omega, by simp⟩
  · simp only [if_neg q]
    obtain ⟨⟨g1, g2, g3, g4⟩, g5⟩ := CG.out_ h hf hb hn hr hj (by omega)
    refine ⟨g1, g2, by omega, ⟨fun k hk => ?_, by omega, fun _ => ?_, by omega⟩⟩
    · rw [spat, if_neg (by simp [hk])]; exact g4 k hk
    · rw [spat, if_pos (by simp)]; exact ⟨by omega, by simp⟩
theorem MC.ask (h : MC n (cv b n A) S Q o) {j : Nat} (hj : j < n) (h0 : S j 0 = 0) : MC n (cv b n A) (spPut S j 0 1) Q o :=
  h.early hj (by omega) (by omega) (fun _ _ => rfl) (fun _ _ => rfl) rfl (by omega) (by omega)
theorem MC.leave (h : MC n (cv b n A) S Q o) {j : Nat} (hj : j < n) (h0 : S j 0 = 10) : MC n (cv b n A) (spPut S j 0 11) Q o := by
  obtain rfl := h.ownr j hj (by omega)
  exact h.own (fun k hk t => by rw [spat, if_neg (by simp [hk])]) (.inl (.inr (.inl (by rw [spat, if_pos (by simp)])))) rfl rfl rfl
theorem MC.zero {w : CV} (h0 : w.tl = 0) : MC n w (fun _ _ => 0) [] none :=
  { nd := by simp, lt := by simp, mem := fun _ _ h => by simp at h, idle := by simp, ownr := fun _ _ h => by simp at h, own2 := fun _ h => by simp at h, non := fun _ _ _ h => by simp at h, pcs := fun _ _ => .inl (by simp), tl := h0, ql := trivial, w1 := by simp, p2 := fun _ _ h => by simp at h, p3 := fun _ _ h => by simp at h }
end
end Go.Proofs.YteijjhahgabalaaGreat

/- The contract of Alone of package mcs. (Printed by gen_flat.py.) -/
namespace Go.Proofs.YteijjhahgabalaaGreat
open Go.RowKit
def cAlR (n tail : Nat) (S : Nat → Nat → Int) (A : AR) (i : Int) : Bool := kTurnOk n S i 10 && decide (A.get (cNext tail ((i.toNat : Int) + 1)) = 0)
def cAlA (n tail : Nat) (S : Nat → Nat → Int) (A : AR) (i : Int) : AR := if kTurnOk n S i 10 then A.load (cNext tail ((i.toNat : Int) + 1)) else A
section
variable {w w' : World} {lb sb ab wb tail n : Nat} {A A' : AR} {S : Nat → Nat → Int}
set_option maxRecDepth 100000 in
theorem cAlone_yes (h : McAt w lb sb ab wb tail n A S) {j : Nat} (hj : j < n) (hq : S j 0 = 10) : Calls Tryz.prog 194 #[.pointer (some ⟨lb, 0, none⟩), .int .i64 j] w fun e w' => e = .returned (.bool (A.get (cNext tail ((j : Int) + 1)) == 0)) ∧
    McAt w' lb sb ab wb tail n (A.load (cNext tail ((j : Int) + 1))) S ∧ Frm [ab, wb] w w' := by
  have HN := Lib.hid h.ne
  have HJ := Lib.hid hj
  have hn32 := h.n32
  have htb := h.tb
  have hr : spV n S j = .agg #[.int .i64 10, .int .i64 (S j 1), .int .i64 (S j 2), .int .i64 (S j 3)] := by unfold spV; rw [sHas_nat hj, if_pos rfl, ← hq]; rfl
  have hS := fun (W' : World) (hf : Frm [] w W') => cSpot_any (h.frm hf (by simp)) (j : Int)
  simp only [hr] at hS
  have HS := Lib.hid hS
  have fd := spotPcG
  have i1 : (j : Int) < n := by omega
  have HAW := Lib.hid h
  obtain ⟨W, rfl⟩ : ∃ W, W = w := ⟨_, rfl⟩
  have hne : Nonempty (HW (fun wx => Frm [ab, wb] W wx)) := ⟨⟨W, Frm.refl _ _⟩⟩
  have hz0 : ∀ q : HW (fun wx => Frm [ab, wb] W wx), q.w.cell? ⟨lb, 0, none⟩ = some (.pointer (some ⟨ab, 0, none⟩)) := fun q => (HAW.out.box.frm q.h (by simp; have := HN.out; omega)).cell (i := 0) rfl
  have hz1 : ∀ q : HW (fun wx => Frm [ab, wb] W wx), q.w.cell? ⟨lb, 1, none⟩ = some (.int .i64 tail) := fun q => (HAW.out.box.frm q.h (by simp; have := HN.out; omega)).cell (i := 1) rfl
  have hz2 : ∀ q : HW (fun wx => Frm [ab, wb] W wx), q.w.cell? ⟨lb, 2, none⟩ = some (.slice (some ⟨sb, 0, none⟩) n n) := fun q => (HAW.out.box.frm q.h (by simp; have := HN.out; omega)).cell (i := 2) rfl
  have hy1 : ∀ q : HW (fun wx => Frm [ab, wb] W wx), q.w.cell? ⟨sb, j * 4 + 1, none⟩ = some (.int .i64 (S j 1)) := fun q => (HAW.out.row.frm q.h (by simp; have := HN.out; omega)).cell (spC_getT n S HJ.out (by omega))
  have hy2 : ∀ q : HW (fun wx => Frm [ab, wb] W wx), q.w.cell? ⟨sb, j * 4 + 2, none⟩ = some (.int .i64 (S j 2)) := fun q => (HAW.out.row.frm q.h (by simp; have := HN.out; omega)).cell (spC_getT n S HJ.out (by omega))
  have HNX := Lib.hid (fun (W' : World) (hf : Frm [] W W') (y : Int) => cNext_any (HAW.out.frm hf (by simp)) y)
  clear h hS hr hq hj
  generalize hx : A.get (cNext tail ((j : Int) + 1)) = x
  have HX := Lib.hid hx
  clear hx
  go_enter Tryz.func194, Tryz.ntmps194
  go_wp2_with fail
  refine held_begin (S := fun wx => Frm [ab, wb] W wx) (by kernel_rfl) ?_
  refine held_row_at (fuel := 16) (is := [0, 1]) (.cons rfl (.cons rfl .nil)) (by kernel_rfl) (fun _ _ _ _ _ h => h) rfl (by kernel_rfl) (Frm.refl _ _).drew1 ?_
  intro K hK
  repeat (go_big_quiet_step (fail))
  refine wpQuiet_nil (hK _ ?_)
  clear hK K
  refine held_call (fuel := 15) (i := 2) rfl (by kernel_rfl) ?_
  go_wp2_with fail
  refine (HS.out _ ((Frm.refl _ _).drew1)).mono ?_; rintro e Ws ⟨rfl, hFs⟩; have HFs := Lib.hid ((((Frm.refl _ _).drew1 : Frm [] W W.drew)).trans hFs); clear hFs
  go_wp2_with fail
  refine onNormal_mk ⟨(HFs.out.mono (by simp)), ?_⟩
  refine held_row_at (fuel := 5) (is := [3, 4, 5, 6, 7, 8, 9, 10, 11, 12]) (.cons rfl (.cons rfl (.cons rfl (.cons rfl (.cons rfl (.cons rfl (.cons rfl (.cons rfl (.cons rfl (.cons rfl .nil)))))))))) (by kernel_rfl) (fun _ _ _ _ _ h => h) rfl (by kernel_rfl) (HFs.out.mono (by simp)) ?_
  intro K hK
  repeat (go_big_quiet_step (fail))
  refine wpQuiet_nil (hK _ ?_)
  clear hK K
  refine held_call (fuel := 4) (i := 13) rfl (by kernel_rfl) ?_
  go_wp2_with fail
  refine (HNX.out _ HFs.out _).mono ?_; rintro e w' ⟨rfl, rfl⟩
  go_wp2_with fail
  refine onNormal_mk ⟨(HFs.out.mono (by simp)), ?_⟩
  refine held_call (fuel := 3) (i := 14) rfl (by kernel_rfl) ?_
  go_wp2_with fail
  refine (Load_any (HAW.out.ar.frm (S := []) HFs.out (by simp) (by simp)) ((cNext tail ((j : Int) + 1)))).mono ?_; rw [HX.out]; rintro e w1 ⟨rfl, hA, hF⟩; have HF1 := Lib.hid ((HFs.out.mono (S' := [ab, wb]) (by simp)).trans hF); have H1 := Lib.hid (HAW.out.ar_ HF1.out hA); clear hA hF
  go_wp2_with fail
  refine onNormal_mk ⟨HF1.out, ?_⟩
  refine held_row_at (fuel := 0) (is := [15, 16, 17]) (.cons rfl (.cons rfl (.cons rfl .nil))) (by kernel_rfl) (fun _ _ _ _ _ h => h) rfl (by kernel_rfl) HF1.out ?_
  intro K hK
  repeat (go_big_quiet_step (fail))
  refine wpQuiet_nil (hK _ ?_)
  clear hK K
  refine held_end (by kernel_rfl) ?_
  go_wp2
  go_ret
  exact ⟨rfl, H1.out, HF1.out⟩
theorem cAlone_no (h : McAt w lb sb ab wb tail n A S) (i : Int) (hq : kTurnOk n S i 10 = false) : Calls Tryz.prog 194 #[.pointer (some ⟨lb, 0, none⟩), .int .i64 i] w fun e w' => e = .returned (.bool false) ∧ Frm [] w w' := by
  have hv : ∃ a b c p : Int, p ≠ 10 ∧ spV n S i = .agg #[.int .i64 p, .int .i64 a, .int .i64 b, .int .i64 c] := by
    unfold spV
    by_cases hh : sHas n i = true
    · rw [if_pos hh]; exact ⟨_, _, _, _, by unfold kTurnOk at hq; rw [hh] at hq; simpa using hq, rfl⟩
    · rw [if_neg hh]; exact ⟨0, 0, 0, 0, by omega, rfl⟩
  obtain ⟨a, b, c, p, p1, hr⟩ := hv
  have hS := fun (W' : World) (hf : Frm [] w W') => cSpot_any (h.frm hf (by simp)) i
  simp only [hr] at hS
  have HS := Lib.hid hS
  have fd := spotPcG
  have d1 : (p == 10) = false := by simpa using p1
  obtain ⟨W, rfl⟩ : ∃ W, W = w := ⟨_, rfl⟩
  have hne : Nonempty (HW (fun wx => Frm [] W wx)) := ⟨⟨W, Frm.refl _ _⟩⟩
  clear h hS hr hq p1
  go_enter Tryz.func194, Tryz.ntmps194
  go_wp2_with fail
  refine held_begin (S := fun wx => Frm [] W wx) (by kernel_rfl) ?_
  refine held_row_at (fuel := 16) (is := [0, 1]) (.cons rfl (.cons rfl .nil)) (by kernel_rfl) (fun _ _ _ _ _ h => h) rfl (by kernel_rfl) (Frm.refl _ _).drew1 ?_
  intro K hK
  repeat (go_big_quiet_step (fail))
  refine wpQuiet_nil (hK _ ?_)
  clear hK K
  refine held_call (fuel := 15) (i := 2) rfl (by kernel_rfl) ?_
  go_wp2_with fail
  refine (HS.out _ ((Frm.refl _ _).drew1)).mono ?_; rintro e Ws ⟨rfl, hFs⟩; have HFs := Lib.hid ((((Frm.refl _ _).drew1 : Frm [] W W.drew)).trans hFs); clear hFs
  go_wp2_with fail
  refine onNormal_mk ⟨HFs.out, ?_⟩
  refine held_row_at (fuel := 5) (is := [3, 4, 5, 6, 7, 8, 9, 10, 11, 12]) (.cons rfl (.cons rfl (.cons rfl (.cons rfl (.cons rfl (.cons rfl (.cons rfl (.cons rfl (.cons rfl (.cons rfl .nil)))))))))) (by kernel_rfl) (fun _ _ _ _ _ h => h) rfl (by kernel_rfl) HFs.out ?_
  intro K hK
  repeat (go_big_quiet_step (fail))
  refine wpQuiet_nil (hK _ ?_)
  clear hK K
  refine held_call (fuel := 4) (i := 13) rfl (by kernel_rfl) ?_
  go_wp2_with fail
  refine onNormal_mk ⟨HFs.out, ?_⟩
  refine held_call (fuel := 3) (i := 14) rfl (by kernel_rfl) ?_
  go_wp2_with fail
  refine onNormal_mk ⟨HFs.out, ?_⟩
  refine held_row_at (fuel := 0) (is := [15, 16, 17]) (.cons rfl (.cons rfl (.cons rfl .nil))) (by kernel_rfl) (fun _ _ _ _ _ h => h) rfl (by kernel_rfl) HFs.out ?_
  intro K hK
  repeat (go_big_quiet_step (fail))
  refine wpQuiet_nil (hK _ ?_)
  clear hK K
  refine held_end (by kernel_rfl) ?_
  go_wp2
  go_ret
  exact ⟨rfl, HFs.out⟩
theorem cAlone_any (h : McAt w lb sb ab wb tail n A S) (i : Int) : Calls Tryz.prog 194 #[.pointer (some ⟨lb, 0, none⟩), .int .i64 i] w fun e w' => e = .returned (.bool (cAlR n tail S A i)) ∧
    McAt w' lb sb ab wb tail n (cAlA n tail S A i) S ∧ Frm [sb, ab, wb] w w' := by
  unfold cAlR cAlA
  cases hq : kTurnOk n S i 10 with
  | false =>
    simp only [Bool.false_and, Bool.false_eq_true, if_false]
    exact (cAlone_no h i hq).mono fun e w' ⟨h1, h2⟩ => ⟨h1, h.frm h2 (by simp), h2.mono (by simp)⟩
  | true =>
    simp only [Bool.true_and, if_true]
    have hq' : sHas n i = true ∧ S i.toNat 0 = 10 := by unfold kTurnOk at hq; simpa using hq
    have hi' : 0 ≤ i ∧ i < (n : Int) := by have := hq'.1; unfold sHas at this; simpa using this
    obtain ⟨j, rfl⟩ := Int.eq_ofNat_of_zero_le hi'.1
    rw [Int.toNat_natCast] at hq' ⊢
    refine (cAlone_yes h (by omega : j < n) hq'.2).mono fun e w' ⟨h1, h2, h3⟩ => ⟨?_, h2, h3.mono (by simp)⟩
    rw [h1]
    exact ret_bool (by simp [BEq.beq])
end
end Go.Proofs.YteijjhahgabalaaGreat
