/- The contracts of package ticket. -/
import Derived.Test.YtmfeaancnkadbaaTasInv
import Derived.Test.YtmfeaancnkadbaaArenaAdd
import Derived.Test.YtmfeaancnkadbaaArenaLoad
import Derived.Test.YtmfeaancnkadbaaSeg
namespace Go.Proofs.Ytmfeaancnkadbaa
open Go.RowKit

structure KkAt (w : World) (lb ab sb next n : Nat) (S : Nat → Nat → Int) : Prop where
  box : HAt w lb [.slice (some ⟨sb, 0, none⟩) n n, .pointer (some ⟨ab, 0, none⟩), .int .i64 next] 85
  row : HAt w sb (spC n S) 30
  ne : lb ≠ sb
  n1 : 1 ≤ n
  n32 : n ≤ 32
  nx : next ≤ 4096
theorem KkAt.frm {w w' : World} {lb ab sb next n : Nat} {S : Nat → Nat → Int} (h : KkAt w lb ab sb next n S) {Z : List Nat} (hf : Frm Z w w') (h1 : lb ∉ Z) (h2 : sb ∉ Z) : KkAt w' lb ab sb next n S :=
  { h with box := h.box.frm hf h1, row := h.row.frm hf h2 }
theorem KkAt.put {w : World} {lb ab sb next n : Nat} {S : Nat → Nat → Int} (h : KkAt w lb ab sb next n S) (i : Nat) {t : Nat} (ht : t < 4) (v : Int) :
    KkAt (w.setCell ⟨sb, 4 * i + t, none⟩ (.int .i64 v)) lb ab sb next n (spPut S i t v) := by
  have hr := h.row.set (4 * i + t) (.int .i64 v)
  rw [spC_put n S ht v] at hr
  exact { h with box := h.box.other _ _ h.ne, row := hr }
theorem KkAt.put0 {w : World} {lb ab sb next n : Nat} {S : Nat → Nat → Int} (h : KkAt w lb ab sb next n S) (i : Nat) (v : Int) : KkAt (w.setCell ⟨sb, 4 * i, none⟩ (.int .i64 v)) lb ab sb next n (spPut S i 0 v) := h.put i (t := 0) (by omega) v
theorem KkAt.pc {w : World} {lb ab sb next n : Nat} {S : Nat → Nat → Int} (h : KkAt w lb ab sb next n S) {j : Nat} (hj : j < n) (t : Nat) (ht : t < 4) : w.cell? ⟨sb, 4 * j + t, none⟩ = some (.int .i64 (S j t)) := h.row.cell (spC_get n S hj ht)
theorem KkAt.pc0 {w : World} {lb ab sb next n : Nat} {S : Nat → Nat → Int} (h : KkAt w lb ab sb next n S) {j : Nat} (hj : j < n) : w.cell? ⟨sb, 4 * j, none⟩ = some (.int .i64 (S j 0)) := h.row.cell (spC_get n S (t := 0) hj (by omega))

def kTurnOk (n : Nat) (S : Nat → Nat → Int) (i pc : Int) : Bool := sHas n i && decide (S i.toNat 0 = pc)
def kTurn (n : Nat) (S : Nat → Nat → Int) (i pc nw : Int) : Nat → Nat → Int := if kTurnOk n S i pc then spPut S i.toNat 0 nw else S

theorem kOf_any (b : Nat) (w : World) : Calls Try.prog 44 #[.pointer (some ⟨b, 0, none⟩)] w fun e w' => e = .returned (.pointer (some ⟨b, 0, none⟩)) ∧ w = w' := by
  go_enter Try.func44, Try.ntmps44
  go_wp2
  go_ret
  exact ⟨rfl, rfl⟩

section
variable {w : World} {lb ab wb sb next n : Nat} {S : Nat → Nat → Int} {A : AR}
theorem krSlots_any (h : KkAt w lb ab sb next n S) : Calls Try.prog 58 #[.pointer (some ⟨lb, 0, none⟩)] w fun e w' => e = .returned (.int .i64 n) ∧ w = w' := by
  have c0 := h.box.cell (i := 0) rfl
  clear h
  go_enter Try.func58, Try.ntmps58
  go_wp2
  go_ret
  exact ⟨rfl, rfl⟩
theorem kSlots_any (h : KkAt w lb ab sb next n S) : Calls Try.prog 43 #[.pointer (some ⟨lb, 0, none⟩)] w fun e w' => e = .returned (.int .i64 n) ∧ w = w' := by
  have HS := Lib.hid (krSlots_any h)
  clear h
  go_enter Try.func43, Try.ntmps43
  go_wp2_with fail
  refine (kOf_any _ _).mono ?_
  rintro e w' ⟨rfl, rfl⟩
  go_wp2_with fail
  refine HS.out.mono ?_
  rintro e w' ⟨rfl, rfl⟩
  go_wp2
  go_ret
  exact ⟨rfl, rfl⟩
theorem kspot_no (h : KkAt w lb ab sb next n S) {i : Int} (hi : sHas n i = false) : Calls Try.prog 54 #[.pointer (some ⟨lb, 0, none⟩), .int .i64 i] w fun e w' => e = .returned (.pointer none) ∧ w = w' := by
  have HS := Lib.hid (krSlots_any h)
  clear h
  by_cases hneg : i < 0
  · have d1 : decide (i < 0) = true := by simpa using hneg
    clear hi
    go_enter Try.func54, Try.ntmps54
    go_wp2
    go_ret
    exact ⟨rfl, rfl⟩
  · have d1 : decide (i < 0) = false := by simpa using hneg
    have d2 : decide ((n : Int) ≤ i) = true := by unfold sHas at hi; simp at hi; simp; omega
    clear hi
    go_enter Try.func54, Try.ntmps54
    go_wp2_with fail
    refine HS.out.mono ?_
    rintro e w' ⟨rfl, rfl⟩
    go_wp2
    go_ret
    exact ⟨rfl, rfl⟩
theorem kspot_yes (h : KkAt w lb ab sb next n S) {i : Nat} (hi : i < n) : Calls Try.prog 54 #[.pointer (some ⟨lb, 0, none⟩), .int .i64 i] w fun e w' => e = .returned (.pointer (some ⟨sb, 4 * i, none⟩)) ∧ w = w' := by
  have HS := Lib.hid (krSlots_any h)
  have c0 := h.box.cell (i := 0) rfl
  have hn := h.n32
  clear h
  have d1 : decide ((i : Int) < 0) = false := by simp
  have d2 : decide ((n : Int) ≤ i) = false := by simp; omega
  have d3 : decide (n ≤ i) = false := by simp; omega
  have l1 : (i : Int) < n := by omega
  go_enter Try.func54, Try.ntmps54
  go_wp2_with fail
  refine HS.out.mono ?_
  rintro e w' ⟨rfl, rfl⟩
  go_wp2
  go_ret
  exact ⟨by simp, rfl⟩
theorem krSpot_any (h : KkAt w lb ab sb next n S) (i : Int) : Calls Try.prog 45 #[.pointer (some ⟨lb, 0, none⟩), .int .i64 i] w fun e w' => e = .returned (spV n S i) ∧ Frm [] w w' := by
  cases hi : sHas n i with
  | false =>
    have HS := Lib.hid (fun (W : World) (hf : Frm [] w W) => kspot_no (h.frm hf (by simp) (by simp)) hi)
    have hr : spV n S i = .agg #[.int .i64 0, .int .i64 0, .int .i64 0, .int .i64 0] := by unfold spV; rw [hi]; rfl
    rw [hr]
    clear h hr hi
    go_enter Try.func45, Try.ntmps45
    go_wp2_with fail
    refine (HS.out _ ((Frm.refl _ _).alloc _)).mono ?_
    rintro e w' ⟨rfl, rfl⟩
    go_wp2_with fail
    exact bodyPost_ret (v := .agg #[.int .i64 0, .int .i64 0, .int .i64 0, .int .i64 0]) (by simp [results, Try.results45, go_sem]) rfl ⟨rfl, (Frm.refl _ _).alloc _⟩
  | true =>
    have hi' : 0 ≤ i ∧ i < (n : Int) := by unfold sHas at hi; simpa using hi
    obtain ⟨j, rfl⟩ := Int.eq_ofNat_of_zero_le hi'.1
    have hj : j < n := by omega
    have HS := Lib.hid (fun (W : World) (hf : Frm [] w W) => kspot_yes (h.frm hf (by simp) (by simp)) hj)
    have hr : spV n S j = .agg #[.int .i64 (S j 0), .int .i64 (S j 1), .int .i64 (S j 2), .int .i64 (S j 3)] := by unfold spV; rw [hi]; rfl
    rw [hr]
    have hkk : ∀ wx, Frm [] w wx → wx.cell? ⟨sb, 4 * j, none⟩ = some (.int .i64 (S j 0)) ∧ wx.cell? ⟨sb, 4 * j + 1, none⟩ = some (.int .i64 (S j 1)) ∧ wx.cell? ⟨sb, 4 * j + 2, none⟩ = some (.int .i64 (S j 2)) ∧ wx.cell? ⟨sb, 4 * j + 3, none⟩ = some (.int .i64 (S j 3)) := fun wx hf =>
      ⟨(h.row.frm hf (by simp)).cell (spC_get n S (t := 0) hj (by omega)), (h.row.frm hf (by simp)).cell (spC_get n S (t := 1) hj (by omega)), (h.row.frm hf (by simp)).cell (spC_get n S (t := 2) hj (by omega)), (h.row.frm hf (by simp)).cell (spC_get n S (t := 3) hj (by omega))⟩
    have KK := Lib.hid hkk
    clear h hr hi hkk hi'
    go_enter Try.func45, Try.ntmps45
    go_wp2_with fail
    refine (HS.out _ ((Frm.refl _ _).alloc _)).mono ?_
    rintro e w' ⟨rfl, rfl⟩
    obtain ⟨c0, c1, c2, c3⟩ := KK.out _ ((Frm.refl [] w).alloc (.cells #[.int .i64 0, .int .i64 0, .int .i64 0, .int .i64 0] 30))
    go_wp2_with fail
    refine bodyPost_ret (v := .agg #[.int .i64 (S j 0), .int .i64 (S j 1), .int .i64 (S j 2), .int .i64 (S j 3)]) (by simp [results, Try.results45, go_sem]) rfl ⟨rfl, ?_⟩
    exact (Frm.refl _ _).alloc _
theorem spV_form (n : Nat) (S : Nat → Nat → Int) (i : Int) : ∃ a b c d : Int, spV n S i = .agg #[.int .i64 a, .int .i64 b, .int .i64 c, .int .i64 d] := by
  unfold spV
  split
  · exact ⟨_, _, _, _, rfl⟩
  · exact ⟨_, _, _, _, rfl⟩
theorem kSpot_any (h : KkAt w lb ab sb next n S) (i : Int) : Calls Try.prog 25 #[.pointer (some ⟨lb, 0, none⟩), .int .i64 i] w fun e w' => e = .returned (spV n S i) ∧ Frm [] w w' := by
  have hS := fun (W : World) (hf : Frm [] w W) => krSpot_any (h.frm hf (by simp) (by simp)) i
  obtain ⟨a, b, c, d, hv⟩ := spV_form n S i
  rw [hv] at hS ⊢
  have HS := Lib.hid hS
  clear h hS hv
  go_enter Try.func25, Try.ntmps25
  go_wp2_with fail
  refine (kOf_any _ _).mono ?_
  rintro e w' ⟨rfl, rfl⟩
  go_wp2_with fail
  have hz := World.size_alloc w (.cells #[.int .i64 0, .int .i64 0, .int .i64 0, .int .i64 0] 30)
  have hB : HAt (w.alloc (.cells #[.int .i64 0, .int .i64 0, .int .i64 0, .int .i64 0] 30)) w.heap.size [.int .i64 0, .int .i64 0, .int .i64 0, .int .i64 0] 30 := HAt.new w _ _
  refine (HS.out _ ((Frm.refl _ _).alloc _)).mono ?_
  rintro e w1 ⟨rfl, hF⟩
  have hB1 := hB.frm hF (by simp)
  have hG : Frm [] w w1 := ((Frm.refl [] w).alloc _).trans hF
  have b0 := hB1.cell (i := 0) rfl
  have b1 := hB1.cell (i := 1) rfl
  have b2 := hB1.cell (i := 2) rfl
  have b3 := hB1.cell (i := 3) rfl
  have bz := hB1.frozen
  have HG := Lib.hid hG
  have hlt := hB1.lt
  have hB2 := (((hB1.set 0 (.int .i64 a)).set 1 (.int .i64 b)).set 2 (.int .i64 c)).set 3 (.int .i64 d)
  have HB2 := Lib.hid hB2
  clear hF hB hB1 hG hz hB2
  have hG4 := (((HG.out.set ⟨w.heap.size, 0, none⟩ (.int .i64 a) (.inr (Nat.le_refl _))).set ⟨w.heap.size, 1, none⟩ (.int .i64 b) (.inr (Nat.le_refl _))).set ⟨w.heap.size, 2, none⟩ (.int .i64 c) (.inr (Nat.le_refl _))).set ⟨w.heap.size, 3, none⟩ (.int .i64 d) (.inr (Nat.le_refl _))
  have HG4 := Lib.hid hG4
  clear hG4
  go_wp2_with fail
  generalize (((w1.setCell ⟨w.heap.size, 0, none⟩ (.int .i64 a)).setCell ⟨w.heap.size, 1, none⟩ (.int .i64 b)).setCell ⟨w.heap.size, 2, none⟩ (.int .i64 c)).setCell ⟨w.heap.size, 3, none⟩ (.int .i64 d) = W2 at *
  have k0 := HB2.out.cell (i := 0) rfl
  have k1 := HB2.out.cell (i := 1) rfl
  have k2 := HB2.out.cell (i := 2) rfl
  have k3 := HB2.out.cell (i := 3) rfl
  exact bodyPost_ret (v := .agg #[.int .i64 a, .int .i64 b, .int .i64 c, .int .i64 d]) (by simp [results, Try.results25, go_sem, k0, k1, k2, k3]) rfl ⟨rfl, HG4.out⟩
theorem put_field' (S : Nat → Nat → Int) (i : Nat) {t u : Nat} (h : u ≠ t) {a : Int} : spPut S i t a i u = S i u := by unfold spPut; simp [h]
theorem kat_no (h : KkAt w lb ab sb next n S) {i pc : Int} (hq : kTurnOk n S i pc = false) : Calls Try.prog 57 #[.pointer (some ⟨lb, 0, none⟩), .int .i64 i, .int .i64 pc] w fun e w' => e = .returned (.pointer none) ∧ w = w' := by
  cases hi : sHas n i with
  | false =>
    have HS := Lib.hid (kspot_no h hi)
    clear h hq hi
    go_enter Try.func57, Try.ntmps57
    go_wp2_with fail
    refine HS.out.mono ?_
    rintro e w' ⟨rfl, rfl⟩
    go_wp2
    go_ret
    exact ⟨rfl, rfl⟩
  | true =>
    have hi' : 0 ≤ i ∧ i < (n : Int) := by unfold sHas at hi; simpa using hi
    obtain ⟨j, rfl⟩ := Int.eq_ofNat_of_zero_le hi'.1
    have hj : j < n := by omega
    have HS := Lib.hid (kspot_yes h hj)
    have c0 := h.pc0 hj
    have e1 : (S j 0 != pc) = true := by unfold kTurnOk at hq; rw [hi] at hq; simpa using hq
    generalize S j 0 = q at *
    clear h hq hi hi'
    go_enter Try.func57, Try.ntmps57
    go_wp2_with fail
    refine HS.out.mono ?_
    rintro e w' ⟨rfl, rfl⟩
    go_wp2
    go_ret
    exact ⟨rfl, rfl⟩
theorem kat_yes (h : KkAt w lb ab sb next n S) {j : Nat} (hj : j < n) {pc : Int} (hq : S j 0 = pc) : Calls Try.prog 57 #[.pointer (some ⟨lb, 0, none⟩), .int .i64 j, .int .i64 pc] w fun e w' => e = .returned (.pointer (some ⟨sb, 4 * j, none⟩)) ∧ w = w' := by
  have HS := Lib.hid (kspot_yes h hj)
  have c0 := h.pc0 hj
  rw [hq] at c0
  have e1 : (pc != pc) = false := by simp
  clear h hq
  go_enter Try.func57, Try.ntmps57
  go_wp2_with fail
  refine HS.out.mono ?_
  rintro e w' ⟨rfl, rfl⟩
  go_wp2
  go_ret
  exact ⟨rfl, rfl⟩
theorem kturn_any (h : KkAt w lb ab sb next n S) (i pc nw : Int) : Calls Try.prog 53 #[.pointer (some ⟨lb, 0, none⟩), .int .i64 i, .int .i64 pc, .int .i64 nw] w fun e w' => e = .returned (.bool (kTurnOk n S i pc)) ∧ KkAt w' lb ab sb next n (kTurn n S i pc nw) ∧ Frm [sb] w w' := by
  have H := Lib.hid h
  cases hq : kTurnOk n S i pc with
  | false =>
    have HA := Lib.hid (kat_no h hq)
    have hr : kTurn n S i pc nw = S := by unfold kTurn; rw [hq]; rfl
    rw [hr]
    clear h hq hr
    go_enter Try.func53, Try.ntmps53
    go_wp2_with fail
    refine HA.out.mono ?_
    rintro e w' ⟨rfl, rfl⟩
    go_wp2
    go_ret
    exact ⟨rfl, H.out, Frm.refl _ _⟩
  | true =>
    have hq' : sHas n i = true ∧ S i.toNat 0 = pc := by unfold kTurnOk at hq; simpa using hq
    have hi' : 0 ≤ i ∧ i < (n : Int) := by have := hq'.1; unfold sHas at this; simpa using this
    obtain ⟨j, rfl⟩ := Int.eq_ofNat_of_zero_le hi'.1
    have hj : j < n := by omega
    have ej : ((j : Int)).toNat = j := by omega
    have hpc : S j 0 = pc := by have := hq'.2; rwa [ej] at this
    have HA := Lib.hid (kat_yes h hj hpc)
    have hr : kTurn n S j pc nw = spPut S j 0 nw := by unfold kTurn; rw [hq, if_pos rfl, ej]
    rw [hr]
    have c0 := h.pc0 hj
    have hfz := h.row.frozen
    have HP := Lib.hid (h.put0 j nw)
    clear h hq hr hq' hi' hpc ej
    generalize S j 0 = q at *
    go_enter Try.func53, Try.ntmps53
    go_wp2_with fail
    refine HA.out.mono ?_
    rintro e w' ⟨rfl, rfl⟩
    go_wp2
    go_ret
    exact ⟨rfl, HP.out, (Frm.refl [sb] w).set ⟨sb, 4 * j, none⟩ _ (.inl (by simp))⟩
theorem kAsk_any (h : KkAt w lb ab sb next n S) (i : Int) : Calls Try.prog 39 #[.pointer (some ⟨lb, 0, none⟩), .int .i64 i] w fun e w' => e = .returned (.bool (kTurnOk n S i 0)) ∧ KkAt w' lb ab sb next n (kTurn n S i 0 1) ∧ Frm [sb] w w' := by
  have HT := Lib.hid (kturn_any h i 0 1)
  clear h
  go_enter Try.func39, Try.ntmps39
  go_wp2_with fail
  refine (kOf_any _ _).mono ?_
  rintro e w' ⟨rfl, rfl⟩
  go_wp2_with fail
  refine HT.out.mono ?_
  rintro e w' ⟨rfl, hK, hF⟩
  have HK := Lib.hid hK
  have HF := Lib.hid hF
  clear hK hF
  go_wp2
  go_ret
  exact ⟨rfl, HK.out, HF.out⟩
theorem kLeave_any (h : KkAt w lb ab sb next n S) (i : Int) : Calls Try.prog 42 #[.pointer (some ⟨lb, 0, none⟩), .int .i64 i] w fun e w' => e = .returned (.bool (kTurnOk n S i 10)) ∧ KkAt w' lb ab sb next n (kTurn n S i 10 11) ∧ Frm [sb] w w' := by
  have HT := Lib.hid (kturn_any h i 10 11)
  clear h
  go_enter Try.func42, Try.ntmps42
  go_wp2_with fail
  refine (kOf_any _ _).mono ?_
  rintro e w' ⟨rfl, rfl⟩
  go_wp2_with fail
  refine HT.out.mono ?_
  rintro e w' ⟨rfl, hK, hF⟩
  have HK := Lib.hid hK
  have HF := Lib.hid hF
  clear hK hF
  go_wp2
  go_ret
  exact ⟨rfl, HK.out, HF.out⟩
/-- is nobody seen to wait? -/
def kAlR (n next : Nat) (S : Nat → Nat → Int) (A : AR) (i : Int) : Bool := kTurnOk n S i 10 && decide (A.get next = wrap64 (S i.toNat 1 + 1))
def kAlA (n next : Nat) (S : Nat → Nat → Int) (A : AR) (i : Int) : AR := if kTurnOk n S i 10 then A.load next else A
theorem kAlone_no (h : KkAt w lb ab sb next n S) (i : Int) (hq : kTurnOk n S i 10 = false) : Calls Try.prog 41 #[.pointer (some ⟨lb, 0, none⟩), .int .i64 i] w fun e w' => e = .returned (.bool false) ∧ Frm [] w w' := by
  have HA := Lib.hid (kat_no h hq)
  have hne : Nonempty (HW (fun wx => Frm [] w wx)) := ⟨⟨w, Frm.refl _ _⟩⟩
  clear h hq
  go_enter Try.func41, Try.ntmps41
  go_wp2_with fail
  refine (kOf_any _ _).mono ?_
  rintro e w' ⟨rfl, rfl⟩
  go_wp2_with fail
  refine HA.out.mono ?_
  rintro e w' ⟨rfl, rfl⟩
  go_wp2_with fail
  refine held_begin (S := fun wx => Frm [] w wx) (by kernel_rfl) ?_
  refine held_row_at (fuel := 4) (is := [0, 1, 2, 3, 4, 5, 6, 7, 8, 9, 10, 12, 13, 14, 15, 16]) (.cons rfl (.cons rfl (.cons rfl (.cons rfl (.cons rfl (.cons rfl (.cons rfl (.cons rfl (.cons rfl (.cons rfl (.cons rfl (.cons rfl (.cons rfl (.cons rfl (.cons rfl (.cons rfl .nil)))))))))))))))) (by kernel_rfl) (fun _ _ _ _ _ h => h) rfl (by kernel_rfl) (Frm.refl _ _).drew1 ?_
  intro K hK
  repeat (go_big_quiet_step (fail))
  refine wpQuiet_nil (hK _ ?_)
  clear hK K
  refine held_call (fuel := 3) (i := 11) rfl (by kernel_rfl) ?_
  go_wp2_with fail
  refine onNormal_mk ⟨(Frm.refl _ _).drew1, ?_⟩
  refine held_row_at (fuel := 0) (is := [17, 18, 19]) (.cons rfl (.cons rfl (.cons rfl .nil))) (by kernel_rfl) (fun _ _ _ _ _ h => h) rfl (by kernel_rfl) (Frm.refl _ _).drew1 ?_
  intro K hK
  repeat (go_big_quiet_step (fail))
  refine wpQuiet_nil (hK _ ?_)
  clear hK K
  refine held_end (by kernel_rfl) ?_
  go_wp2
  go_ret
  exact ⟨rfl, (Frm.refl _ _).drew1⟩
theorem kAlone_yes (h : KkAt w lb ab sb next n S) (hA : ArAt w ab wb A) (hne : lb ≠ ab ∧ lb ≠ wb ∧ sb ≠ ab ∧ sb ≠ wb) {j : Nat} (hj : j < n) (hq : S j 0 = 10) : Calls Try.prog 41 #[.pointer (some ⟨lb, 0, none⟩), .int .i64 j] w fun e w' => e = .returned (.bool (A.get next == wrap64 (S j 1 + 1))) ∧ KkAt w' lb ab sb next n S ∧ ArAt w' ab wb (A.load next) ∧ Frm [ab, wb] w w' := by
  obtain ⟨n1, n2, n3, n4⟩ := hne
  have HAT := Lib.hid (kat_yes h hj hq)
  have hnx := h.nx
  have hne : Nonempty (HW (fun wx => Frm [ab, wb] w wx)) := ⟨⟨w, Frm.refl _ _⟩⟩
  have hz0 : ∀ q : HW (fun wx => Frm [ab, wb] w wx), q.w.cell? ⟨lb, 1, none⟩ = some (.pointer (some ⟨ab, 0, none⟩)) := fun q => (h.box.frm q.h (by simp; omega)).cell (i := 1) rfl
  have hz1 : ∀ q : HW (fun wx => Frm [ab, wb] w wx), q.w.cell? ⟨lb, 2, none⟩ = some (.int .i64 next) := fun q => (h.box.frm q.h (by simp; omega)).cell (i := 2) rfl
  have hz2 : ∀ q : HW (fun wx => Frm [ab, wb] w wx), q.w.cell? ⟨sb, 4 * j + 1, none⟩ = some (.int .i64 (S j 1)) := fun q => (h.frm q.h (by simp; omega) (by simp; omega)).pc hj 1 (by omega)
  have HL := Lib.hid (Load_any (hA.frm (S := []) ((Frm.refl _ w).drew1) (by simp) (by simp)) next)
  have HK := Lib.hid h
  have HN := Lib.hid (And.intro n1 (And.intro n2 (And.intro n3 n4)))
  clear h hA hq n1 n2 n3 n4
  generalize S j 1 = a at *
  generalize A.get next = x at *
  go_enter Try.func41, Try.ntmps41
  go_wp2_with fail
  refine (kOf_any _ _).mono ?_
  rintro e w' ⟨rfl, rfl⟩
  go_wp2_with fail
  refine HAT.out.mono ?_
  rintro e w' ⟨rfl, rfl⟩
  go_wp2_with fail
  refine held_begin (S := fun wx => Frm [ab, wb] w wx) (by kernel_rfl) ?_
  refine held_row_at (fuel := 4) (is := [0, 1, 2, 3, 4, 5, 6, 7, 8, 9, 10, 12, 13, 14, 15, 16]) (.cons rfl (.cons rfl (.cons rfl (.cons rfl (.cons rfl (.cons rfl (.cons rfl (.cons rfl (.cons rfl (.cons rfl (.cons rfl (.cons rfl (.cons rfl (.cons rfl (.cons rfl (.cons rfl .nil)))))))))))))))) (by kernel_rfl) (fun _ _ _ _ _ h => h) rfl (by kernel_rfl) (Frm.refl _ _).drew1 ?_
  intro K hK
  repeat (go_big_quiet_step (fail))
  refine wpQuiet_nil (hK _ ?_)
  clear hK K
  refine held_call (fuel := 3) (i := 11) rfl (by kernel_rfl) ?_
  go_wp2_with fail
  refine HL.out.mono ?_; rintro e w1 ⟨rfl, hA, hF⟩; have HA1 := Lib.hid hA; have HF1 := Lib.hid (((Frm.refl [ab, wb] w).drew1).trans hF); clear hA hF
  go_wp2_with fail
  refine onNormal_mk ⟨HF1.out, ?_⟩
  refine held_row_at (fuel := 0) (is := [17, 18, 19]) (.cons rfl (.cons rfl (.cons rfl .nil))) (by kernel_rfl) (fun _ _ _ _ _ h => h) rfl (by kernel_rfl) HF1.out ?_
  intro K hK
  repeat (go_big_quiet_step (fail))
  refine wpQuiet_nil (hK _ ?_)
  clear hK K
  refine held_end (by kernel_rfl) ?_
  go_wp2
  go_ret
  exact ⟨rfl, HK.out.frm HF1.out (by simp; have := HN.out; omega) (by simp; have := HN.out; omega), HA1.out, HF1.out⟩
theorem kAlone_any (h : KkAt w lb ab sb next n S) (hA : ArAt w ab wb A) (hne : lb ≠ ab ∧ lb ≠ wb ∧ sb ≠ ab ∧ sb ≠ wb) (i : Int) : Calls Try.prog 41 #[.pointer (some ⟨lb, 0, none⟩), .int .i64 i] w fun e w' => e = .returned (.bool (kAlR n next S A i)) ∧ KkAt w' lb ab sb next n S ∧ ArAt w' ab wb (kAlA n next S A i) ∧ Frm [sb, ab, wb] w w' := by
  unfold kAlR kAlA
  cases hq : kTurnOk n S i 10 with
  | false => exact (kAlone_no h i hq).mono fun e w' ⟨h1, h2⟩ => ⟨h1, h.frm h2 (by simp) (by simp), hA.frm h2 (by simp) (by simp), h2.mono (by simp)⟩
  | true =>
    have hq' : sHas n i = true ∧ S i.toNat 0 = 10 := by unfold kTurnOk at hq; simpa using hq
    have hi' : 0 ≤ i ∧ i < (n : Int) := by have := hq'.1; unfold sHas at this; simpa using this
    obtain ⟨j, rfl⟩ := Int.eq_ofNat_of_zero_le hi'.1
    have ej : ((j : Int)).toNat = j := by omega
    refine (kAlone_yes h hA hne (by omega : j < n) (by have := hq'.2; rwa [ej] at this)).mono fun e w' ⟨h1, h2, h3, h4⟩ => ⟨?_, h2, h3, h4.mono (by simp)⟩
    rw [h1, ej]
    exact ret_bool (by simp [BEq.beq])

def kStepR (n next : Nat) (S : Nat → Nat → Int) (A : AR) (i : Int) : Bool := sHas n i && (if S i.toNat 0 = 2 then decide (A.get (next + 1) = S i.toNat 1) else decide (S i.toNat 0 = 11))
def kStepS (n next : Nat) (S : Nat → Nat → Int) (A : AR) (i : Int) : Nat → Nat → Int :=
  if sHas n i then
    (if S i.toNat 0 = 1 then spPut (spPut S i.toNat 1 (wrap64 (A.addRes next 1 - 1))) i.toNat 0 2
     else if S i.toNat 0 = 2 then (if A.get (next + 1) = S i.toNat 1 then spPut S i.toNat 0 10 else S)
     else if S i.toNat 0 = 11 then spPut S i.toNat 0 0 else S)
  else S
def kStepA (n next : Nat) (S : Nat → Nat → Int) (A : AR) (i : Int) : AR :=
  if sHas n i then (if S i.toNat 0 = 1 then A.add next 1 else if S i.toNat 0 = 2 then A.load (next + 1) else if S i.toNat 0 = 11 then A.store (next + 1) (wrap64 (S i.toNat 1 + 1)) else A) else A

theorem kStep_idle (h : KkAt w lb ab sb next n S) (i : Int) (hq : sHas n i = false ∨ (S i.toNat 0 ≠ 1 ∧ S i.toNat 0 ≠ 2 ∧ S i.toNat 0 ≠ 11)) : Calls Try.prog 40 #[.pointer (some ⟨lb, 0, none⟩), .int .i64 i] w fun e w' => e = .returned (.bool false) ∧ w = w' := by
  cases hi : sHas n i with
  | false =>
    have HS := Lib.hid (kspot_no h hi)
    clear h hq hi
    go_enter Try.func40, Try.ntmps40
    go_wp2_with fail
    refine (kOf_any _ _).mono ?_
    rintro e w' ⟨rfl, rfl⟩
    go_wp2_with fail
    refine HS.out.mono ?_
    rintro e w' ⟨rfl, rfl⟩
    go_wp2
    go_ret
    exact ⟨rfl, rfl⟩
  | true =>
    have hi' : 0 ≤ i ∧ i < (n : Int) := by unfold sHas at hi; simpa using hi
    obtain ⟨j, rfl⟩ := Int.eq_ofNat_of_zero_le hi'.1
    have hj : j < n := by omega
    have HS := Lib.hid (kspot_yes h hj)
    have c0 := h.pc0 hj
    rw [hi] at hq
    rw [show ((j : Int).toNat) = j from by omega] at hq
    obtain ⟨q1, q2, q3⟩ := hq.resolve_left (by simp)
    generalize S j 0 = pc at *
    have d1 : (pc == 1) = false := by simpa using q1
    have d2 : (pc == 2) = false := by simpa using q2
    have d3 : (pc == 11) = false := by simpa using q3
    clear h hq hi q1 q2 q3 hi'
    go_enter Try.func40, Try.ntmps40
    go_wp2_with fail
    refine (kOf_any _ _).mono ?_
    rintro e w' ⟨rfl, rfl⟩
    go_wp2_with fail
    refine HS.out.mono ?_
    rintro e w' ⟨rfl, rfl⟩
    go_wp2
    go_ret
    exact ⟨rfl, rfl⟩
theorem kStep_ask (h : KkAt w lb ab sb next n S) (hA : ArAt w ab wb A) (hne : lb ≠ ab ∧ lb ≠ wb ∧ sb ≠ ab ∧ sb ≠ wb) {j : Nat} (hj : j < n) (hq : S j 0 = 1) : Calls Try.prog 40 #[.pointer (some ⟨lb, 0, none⟩), .int .i64 j] w fun e w' => e = .returned (.bool false) ∧
    KkAt w' lb ab sb next n (spPut (spPut S j 1 (wrap64 (A.addRes next 1 - 1))) j 0 2) ∧ ArAt w' ab wb (A.add next 1) ∧ Frm [sb, ab, wb] w w' := by
  obtain ⟨n1, n2, n3, n4⟩ := hne
  have HS := Lib.hid (kspot_yes h hj)
  have hnx := h.nx
  have HN := Lib.hid (And.intro n1 (And.intro n2 (And.intro n3 n4)))
  have c0 := h.pc0 hj
  rw [hq] at c0
  have hne : Nonempty (HW (fun wx => Frm [sb, ab, wb] w wx)) := ⟨⟨w, Frm.refl _ _⟩⟩
  have hz0 : ∀ q : HW (fun wx => Frm [sb, ab, wb] w wx), q.w.cell? ⟨lb, 1, none⟩ = some (.pointer (some ⟨ab, 0, none⟩)) := fun q => (h.box.frm q.h (by simp; have := h.ne; omega)).cell (i := 1) rfl
  have hz1 : ∀ q : HW (fun wx => Frm [sb, ab, wb] w wx), q.w.cell? ⟨lb, 2, none⟩ = some (.int .i64 next) := fun q => (h.box.frm q.h (by simp; have := h.ne; omega)).cell (i := 2) rfl
  have HAD := Lib.hid (Add_any (hA.frm (S := []) ((Frm.refl _ w).drew1) (by simp) (by simp)) next 1)
  have HK := Lib.hid h
  have HQ := Lib.hid hq
  clear h hA hq n1 n2 n3 n4
  generalize A.addRes next 1 = x at *
  go_enter Try.func40, Try.ntmps40
  go_wp2_with fail
  refine (kOf_any _ _).mono ?_
  rintro e w' ⟨rfl, rfl⟩
  go_wp2_with fail
  refine HS.out.mono ?_
  rintro e w' ⟨rfl, rfl⟩
  go_wp2_with fail
  refine held_begin (S := fun wx => Frm [sb, ab, wb] w wx) (by kernel_rfl) ?_
  refine held_row_at (fuel := 5) (is := [0, 1, 2, 3, 4, 5, 6, 7, 8]) (.cons rfl (.cons rfl (.cons rfl (.cons rfl (.cons rfl (.cons rfl (.cons rfl (.cons rfl (.cons rfl .nil))))))))) (by kernel_rfl) (fun _ _ _ _ _ h => h) rfl (by kernel_rfl) (Frm.refl _ _).drew1 ?_
  intro K hK
  repeat (go_big_quiet_step (fail))
  refine wpQuiet_nil (hK _ ?_)
  clear hK K
  refine held_call (fuel := 4) (i := 9) rfl (by kernel_rfl) ?_
  go_wp2_with fail
  refine HAD.out.mono ?_; rintro e w1 ⟨rfl, hA, hF⟩; have HA1 := Lib.hid hA; have HF1 := Lib.hid (((Frm.refl [ab, wb] w).drew1).trans hF); have hK1 := HK.out.frm HF1.out (by simp; have := HN.out; omega) (by simp; have := HN.out; omega); have k1 := hK1.pc hj 1 (by omega); have kz := hK1.row.frozen; have HK1 := Lib.hid hK1; clear hA hF hK1
  go_wp2_with fail
  refine onNormal_mk ⟨HF1.out.mono (by simp), ?_⟩
  refine held_row_at (fuel := 1) (is := [10, 11, 12]) (.cons rfl (.cons rfl (.cons rfl .nil))) (by kernel_rfl) (fun _ _ _ _ _ h => h) rfl (by kernel_rfl) (HF1.out.mono (by simp)) ?_
  intro K hK
  repeat (go_big_quiet_step (fail))
  refine wpQuiet_nil (hK _ ?_)
  clear hK K
  refine held_call (fuel := 0) (i := 13) rfl (by kernel_rfl) ?_
  go_wp2_with fail
  refine onNormal_mk ⟨(HF1.out.mono (S' := [sb, ab, wb]) (by simp)).set _ _ (.inl (by simp)), ?_⟩
  refine held_end (by kernel_rfl) ?_
  have hK2 := HK1.out.put j (t := 1) (by omega) (wrap64 (x - 1))
  have HF2 := Lib.hid ((HF1.out.mono (S' := [sb, ab, wb]) (by simp)).set ⟨sb, 4 * j + 1, none⟩ (.int .i64 (wrap64 (x - 1))) (.inl (by simp)))
  have HA2 := Lib.hid (HA1.out.frm ((Frm.refl [sb] w1).set ⟨sb, 4 * j + 1, none⟩ (.int .i64 (wrap64 (x - 1))) (.inl (by simp))) (by simp; have := HN.out; omega) (by simp; have := HN.out; omega))
  clear k1 kz HK1 hz0 hz1 hne
  generalize w1.setCell ⟨sb, 4 * j + 1, none⟩ (.int .i64 (wrap64 (x - 1))) = W2 at *
  have hpc : spPut S j 1 (wrap64 (x - 1)) j 0 = 1 := by unfold spPut; simp [HQ.out]
  have hok : kTurnOk n (spPut S j 1 (wrap64 (x - 1))) j 1 = true := by unfold kTurnOk sHas; rw [show ((j : Int)).toNat = j from by omega, hpc]; simp; omega
  have hT := kturn_any hK2 j 1 2
  unfold kTurn at hT
  rw [hok, if_pos rfl, show ((j : Int)).toNat = j from by omega] at hT
  have HT := Lib.hid hT
  clear hT hok hpc hK2
  go_wp2_with fail
  refine HT.out.mono ?_
  rintro e w3 ⟨rfl, hK, hF⟩
  have HK3 := Lib.hid hK
  have HA3 := Lib.hid (HA2.out.frm hF (by simp; have := HN.out; omega) (by simp; have := HN.out; omega))
  have HF3 := Lib.hid (HF2.out.trans (hF.mono (by simp)))
  clear hK hF
  go_wp2
  go_ret
  exact ⟨rfl, HK3.out, HA3.out, HF3.out⟩
theorem kStep_hit (h : KkAt w lb ab sb next n S) (hA : ArAt w ab wb A) (hne : lb ≠ ab ∧ lb ≠ wb ∧ sb ≠ ab ∧ sb ≠ wb) {j : Nat} (hj : j < n) (hq : S j 0 = 2) (hg : A.get (next + 1) = S j 1) : Calls Try.prog 40 #[.pointer (some ⟨lb, 0, none⟩), .int .i64 j] w fun e w' => e = .returned (.bool true) ∧
    KkAt w' lb ab sb next n (spPut S j 0 10) ∧ ArAt w' ab wb (A.load (next + 1)) ∧ Frm [sb, ab, wb] w w' := by
  obtain ⟨n1, n2, n3, n4⟩ := hne
  have HS := Lib.hid (kspot_yes h hj)
  have hnx := h.nx
  have HN := Lib.hid (And.intro n1 (And.intro n2 (And.intro n3 n4)))
  have c0 := h.pc0 hj
  rw [hq] at c0
  have e1 : (A.get (next + 1) == S j 1) = true := by simpa using hg
  have z1 := h.pc hj 1 (by omega)
  have hga : A.get (next + 1) = S j 1 := hg
  have HL := Lib.hid (Load_any (hA.frm (S := []) ((Frm.refl _ w).drew1) (by simp) (by simp)) (next + 1))
  have HK := Lib.hid h
  have HQ := Lib.hid hq
  have b1 := h.box
  have HB := Lib.hid b1
  have hlne := h.ne
  clear h hA hq hg b1
  generalize haa : S j 1 = a at *
  have HAA := Lib.hid haa
  generalize A.get (next + 1) = x at *
  clear haa
  have HGA := Lib.hid hga
  clear hga
  have hne : Nonempty (HW (fun wx => Frm [sb, ab, wb] w wx ∧ wx.cell? ⟨sb, 4 * j + 1, none⟩ = some (.int .i64 a))) := ⟨⟨w, Frm.refl _ _, z1⟩⟩
  have hz0 : ∀ q : HW (fun wx => Frm [sb, ab, wb] w wx ∧ wx.cell? ⟨sb, 4 * j + 1, none⟩ = some (.int .i64 a)), q.w.cell? ⟨lb, 1, none⟩ = some (.pointer (some ⟨ab, 0, none⟩)) := fun q => (HB.out.frm q.h.1 (by simp; omega)).cell (i := 1) rfl
  have hz1 : ∀ q : HW (fun wx => Frm [sb, ab, wb] w wx ∧ wx.cell? ⟨sb, 4 * j + 1, none⟩ = some (.int .i64 a)), q.w.cell? ⟨lb, 2, none⟩ = some (.int .i64 next) := fun q => (HB.out.frm q.h.1 (by simp; omega)).cell (i := 2) rfl
  have hz2 : ∀ q : HW (fun wx => Frm [sb, ab, wb] w wx ∧ wx.cell? ⟨sb, 4 * j + 1, none⟩ = some (.int .i64 a)), q.w.cell? ⟨sb, 4 * j + 1, none⟩ = some (.int .i64 a) := fun q => q.h.2
  have Z1 := Lib.hid z1
  clear z1 n1 n2 n3 n4 hlne
  go_enter Try.func40, Try.ntmps40
  go_wp2_with fail
  refine (kOf_any _ _).mono ?_
  rintro e w' ⟨rfl, rfl⟩
  go_wp2_with fail
  refine HS.out.mono ?_
  rintro e w' ⟨rfl, rfl⟩
  go_wp2_with fail
  refine held_begin (S := fun wx => Frm [sb, ab, wb] w wx ∧ wx.cell? ⟨sb, 4 * j + 1, none⟩ = some (.int .i64 a)) (by kernel_rfl) ?_
  refine held_row_at (fuel := 10) (is := [0, 1, 2, 3, 4, 5, 6, 7, 8, 10, 11, 12, 13]) (.cons rfl (.cons rfl (.cons rfl (.cons rfl (.cons rfl (.cons rfl (.cons rfl (.cons rfl (.cons rfl (.cons rfl (.cons rfl (.cons rfl (.cons rfl .nil))))))))))))) (by kernel_rfl) (fun _ _ _ _ _ h => h) rfl (by kernel_rfl) ⟨(Frm.refl _ _).drew1, Z1.out⟩ ?_
  intro K hK
  repeat (go_big_quiet_step (fail))
  refine wpQuiet_nil (hK _ ?_)
  clear hK K
  refine held_call (fuel := 9) (i := 9) rfl (by kernel_rfl) ?_
  go_wp2_with fail
  refine HL.out.mono ?_; rintro e w1 ⟨rfl, hA, hF⟩; have HA1 := Lib.hid hA; have HF1 := Lib.hid (((Frm.refl [ab, wb] w).drew1).trans hF); have HK1 := Lib.hid (HK.out.frm HF1.out (by simp; have := HN.out; omega) (by simp; have := HN.out; omega)); clear hA hF
  go_wp2_with fail
  refine onNormal_mk ⟨⟨HF1.out.mono (by simp), by have := HK1.out.pc hj 1 (by omega); rwa [HAA.out] at this⟩, ?_⟩
  refine held_row_at (fuel := 3) (is := [14, 15, 16, 17, 18, 19]) (.cons rfl (.cons rfl (.cons rfl (.cons rfl (.cons rfl (.cons rfl .nil)))))) (by kernel_rfl) (fun _ _ _ _ _ h => h) rfl (by kernel_rfl) ⟨HF1.out.mono (by simp), by have := HK1.out.pc hj 1 (by omega); rwa [HAA.out] at this⟩ ?_
  intro K hK
  repeat (go_big_quiet_step (fail))
  refine wpQuiet_nil (hK _ ?_)
  clear hK K
  refine held_call (fuel := 2) (i := 20) rfl (by kernel_rfl) ?_
  go_wp2_with fail
  have hok : kTurnOk n S j 2 = true := by (unfold kTurnOk sHas; rw [show ((j : Int)).toNat = j from by omega, HQ.out]; simp; omega)
  have hT := kturn_any HK1.out j 2 10
  unfold kTurn at hT
  rw [hok, if_pos rfl, show ((j : Int)).toNat = j from by omega] at hT
  refine hT.mono ?_; rintro e w3 ⟨rfl, hK, hF⟩; have HK3 := Lib.hid hK; have HA3 := Lib.hid (HA1.out.frm hF (by simp; have := HN.out; omega) (by simp; have := HN.out; omega)); have HF3 := Lib.hid ((HF1.out.mono (S' := [sb, ab, wb]) (by simp)).trans (hF.mono (by simp))); clear hK hF hT hok
  go_wp2_with fail
  refine onNormal_mk ⟨⟨HF3.out, by have := HK3.out.pc hj 1 (by omega); rwa [put_field' S j (by omega), HAA.out] at this⟩, ?_⟩
  refine held_row_at (fuel := 0) (is := [21, 22]) (.cons rfl (.cons rfl .nil)) (by kernel_rfl) (fun _ _ _ _ _ h => h) rfl (by kernel_rfl) ⟨HF3.out, by have := HK3.out.pc hj 1 (by omega); rwa [put_field' S j (by omega), HAA.out] at this⟩ ?_
  intro K hK
  repeat (go_big_quiet_step (fail))
  refine wpQuiet_nil (hK _ ?_)
  clear hK K
  refine held_end (by kernel_rfl) ?_
  go_wp2
  go_ret
  exact ⟨rfl, HK3.out, HA3.out, HF3.out⟩
theorem kStep_miss (h : KkAt w lb ab sb next n S) (hA : ArAt w ab wb A) (hne : lb ≠ ab ∧ lb ≠ wb ∧ sb ≠ ab ∧ sb ≠ wb) {j : Nat} (hj : j < n) (hq : S j 0 = 2) (hg : ¬ A.get (next + 1) = S j 1) : Calls Try.prog 40 #[.pointer (some ⟨lb, 0, none⟩), .int .i64 j] w fun e w' => e = .returned (.bool false) ∧
    KkAt w' lb ab sb next n S ∧ ArAt w' ab wb (A.load (next + 1)) ∧ Frm [sb, ab, wb] w w' := by
  obtain ⟨n1, n2, n3, n4⟩ := hne
  have HS := Lib.hid (kspot_yes h hj)
  have hnx := h.nx
  have HN := Lib.hid (And.intro n1 (And.intro n2 (And.intro n3 n4)))
  have c0 := h.pc0 hj
  rw [hq] at c0
  have e1 : (A.get (next + 1) == S j 1) = false := by simpa using hg
  have z1 := h.pc hj 1 (by omega)
  have HL := Lib.hid (Load_any (hA.frm (S := []) ((Frm.refl _ w).drew1) (by simp) (by simp)) (next + 1))
  have HK := Lib.hid h
  have HQ := Lib.hid hq
  have b1 := h.box
  have HB := Lib.hid b1
  have hlne := h.ne
  clear h hA hq hg b1
  generalize haa : S j 1 = a at *
  have HAA := Lib.hid haa
  generalize A.get (next + 1) = x at *
  clear haa
  have hne : Nonempty (HW (fun wx => Frm [ab, wb] w wx)) := ⟨⟨w, Frm.refl _ _⟩⟩
  have hz0 : ∀ q : HW (fun wx => Frm [ab, wb] w wx), q.w.cell? ⟨lb, 1, none⟩ = some (.pointer (some ⟨ab, 0, none⟩)) := fun q => (HB.out.frm q.h (by simp; omega)).cell (i := 1) rfl
  have hz1 : ∀ q : HW (fun wx => Frm [ab, wb] w wx), q.w.cell? ⟨lb, 2, none⟩ = some (.int .i64 next) := fun q => (HB.out.frm q.h (by simp; omega)).cell (i := 2) rfl
  have hz2 : ∀ q : HW (fun wx => Frm [ab, wb] w wx), q.w.cell? ⟨sb, 4 * j + 1, none⟩ = some (.int .i64 a) := fun q => by have := (HK.out.frm q.h (by simp; omega) (by simp; omega)).pc hj 1 (by omega); rwa [HAA.out] at this
  have Z1 := Lib.hid z1
  clear z1 n1 n2 n3 n4 hlne
  go_enter Try.func40, Try.ntmps40
  go_wp2_with fail
  refine (kOf_any _ _).mono ?_
  rintro e w' ⟨rfl, rfl⟩
  go_wp2_with fail
  refine HS.out.mono ?_
  rintro e w' ⟨rfl, rfl⟩
  go_wp2_with fail
  refine held_begin (S := fun wx => Frm [ab, wb] w wx) (by kernel_rfl) ?_
  refine held_row_at (fuel := 10) (is := [0, 1, 2, 3, 4, 5, 6, 7, 8, 10, 11, 12, 13]) (.cons rfl (.cons rfl (.cons rfl (.cons rfl (.cons rfl (.cons rfl (.cons rfl (.cons rfl (.cons rfl (.cons rfl (.cons rfl (.cons rfl (.cons rfl .nil))))))))))))) (by kernel_rfl) (fun _ _ _ _ _ h => h) rfl (by kernel_rfl) (Frm.refl _ _).drew1 ?_
  intro K hK
  repeat (go_big_quiet_step (fail))
  refine wpQuiet_nil (hK _ ?_)
  clear hK K
  refine held_call (fuel := 9) (i := 9) rfl (by kernel_rfl) ?_
  go_wp2_with fail
  refine HL.out.mono ?_; rintro e w1 ⟨rfl, hA, hF⟩; have HA1 := Lib.hid hA; have HF1 := Lib.hid (((Frm.refl [ab, wb] w).drew1).trans hF); have HK1 := Lib.hid (HK.out.frm HF1.out (by simp; have := HN.out; omega) (by simp; have := HN.out; omega)); clear hA hF
  go_wp2_with fail
  refine onNormal_mk ⟨HF1.out, ?_⟩
  refine held_row_at (fuel := 3) (is := [14, 15, 16, 17, 18, 19]) (.cons rfl (.cons rfl (.cons rfl (.cons rfl (.cons rfl (.cons rfl .nil)))))) (by kernel_rfl) (fun _ _ _ _ _ h => h) rfl (by kernel_rfl) HF1.out ?_
  intro K hK
  repeat (go_big_quiet_step (fail))
  refine wpQuiet_nil (hK _ ?_)
  clear hK K
  refine held_call (fuel := 2) (i := 20) rfl (by kernel_rfl) ?_
  go_wp2_with fail
  refine onNormal_mk ⟨HF1.out, ?_⟩
  refine held_row_at (fuel := 0) (is := [21, 22]) (.cons rfl (.cons rfl .nil)) (by kernel_rfl) (fun _ _ _ _ _ h => h) rfl (by kernel_rfl) HF1.out ?_
  intro K hK
  repeat (go_big_quiet_step (fail))
  refine wpQuiet_nil (hK _ ?_)
  clear hK K
  refine held_end (by kernel_rfl) ?_
  go_wp2
  go_ret
  exact ⟨rfl, HK1.out, HA1.out, HF1.out.mono (by simp)⟩
theorem kStep_free (h : KkAt w lb ab sb next n S) (hA : ArAt w ab wb A) (hne : lb ≠ ab ∧ lb ≠ wb ∧ sb ≠ ab ∧ sb ≠ wb) {j : Nat} (hj : j < n) (hq : S j 0 = 11) : Calls Try.prog 40 #[.pointer (some ⟨lb, 0, none⟩), .int .i64 j] w fun e w' => e = .returned (.bool true) ∧
    KkAt w' lb ab sb next n (spPut S j 0 0) ∧ ArAt w' ab wb (A.store (next + 1) (wrap64 (S j 1 + 1))) ∧ Frm [sb, ab, wb] w w' := by
  obtain ⟨n1, n2, n3, n4⟩ := hne
  have HS := Lib.hid (kspot_yes h hj)
  have hnx := h.nx
  have HN := Lib.hid (And.intro n1 (And.intro n2 (And.intro n3 n4)))
  have c0 := h.pc0 hj
  rw [hq] at c0
  have hne : Nonempty (HW (fun wx => Frm [ab, wb] w wx)) := ⟨⟨w, Frm.refl _ _⟩⟩
  have hz0 : ∀ q : HW (fun wx => Frm [ab, wb] w wx), q.w.cell? ⟨lb, 1, none⟩ = some (.pointer (some ⟨ab, 0, none⟩)) := fun q => (h.box.frm q.h (by simp; omega)).cell (i := 1) rfl
  have hz1 : ∀ q : HW (fun wx => Frm [ab, wb] w wx), q.w.cell? ⟨lb, 2, none⟩ = some (.int .i64 next) := fun q => (h.box.frm q.h (by simp; omega)).cell (i := 2) rfl
  have hz2 : ∀ q : HW (fun wx => Frm [ab, wb] w wx), q.w.cell? ⟨sb, 4 * j + 1, none⟩ = some (.int .i64 (S j 1)) := fun q => (h.frm q.h (by simp; omega) (by simp; omega)).pc hj 1 (by omega)
  have HL := Lib.hid (Store_any (hA.frm (S := []) ((Frm.refl _ w).drew1) (by simp) (by simp)) (next + 1) (wrap64 (S j 1 + 1)))
  have HK := Lib.hid h
  have HQ := Lib.hid hq
  clear h hA hq n1 n2 n3 n4
  generalize S j 1 = a at *
  go_enter Try.func40, Try.ntmps40
  go_wp2_with fail
  refine (kOf_any _ _).mono ?_
  rintro e w' ⟨rfl, rfl⟩
  go_wp2_with fail
  refine HS.out.mono ?_
  rintro e w' ⟨rfl, rfl⟩
  go_wp2_with fail
  refine held_begin (S := fun wx => Frm [ab, wb] w wx) (by kernel_rfl) ?_
  refine held_row_at (fuel := 1) (is := [0, 1, 2, 3, 4, 5, 6, 7, 8, 9, 10, 11, 12, 13]) (.cons rfl (.cons rfl (.cons rfl (.cons rfl (.cons rfl (.cons rfl (.cons rfl (.cons rfl (.cons rfl (.cons rfl (.cons rfl (.cons rfl (.cons rfl (.cons rfl .nil)))))))))))))) (by kernel_rfl) (fun _ _ _ _ _ h => h) rfl (by kernel_rfl) (Frm.refl _ _).drew1 ?_
  intro K hK
  repeat (go_big_quiet_step (fail))
  refine wpQuiet_nil (hK _ ?_)
  clear hK K
  refine held_call (fuel := 0) (i := 14) rfl (by kernel_rfl) ?_
  go_wp2_with fail
  refine HL.out.mono ?_; rintro e w1 ⟨rfl, hA, hF⟩; have HA1 := Lib.hid hA; have HF1 := Lib.hid (((Frm.refl [ab, wb] w).drew1).trans hF); have HK1 := Lib.hid (HK.out.frm HF1.out (by simp; have := HN.out; omega) (by simp; have := HN.out; omega)); clear hA hF
  go_wp2_with fail
  refine onNormal_mk ⟨HF1.out, ?_⟩
  refine held_end (by kernel_rfl) ?_
  have hok : kTurnOk n S j 11 = true := by unfold kTurnOk sHas; rw [show ((j : Int)).toNat = j from by omega, HQ.out]; simp; omega
  have hT := kturn_any HK1.out j 11 0
  unfold kTurn at hT
  rw [hok, if_pos rfl, show ((j : Int)).toNat = j from by omega] at hT
  have HT := Lib.hid hT
  clear hT hok hz0 hz1 hz2 hne
  go_wp2_with fail
  refine HT.out.mono ?_
  rintro e w3 ⟨rfl, hK, hF⟩
  have HK3 := Lib.hid hK
  have HA3 := Lib.hid (HA1.out.frm hF (by simp; have := HN.out; omega) (by simp; have := HN.out; omega))
  have HF3 := Lib.hid ((HF1.out.mono (S' := [sb, ab, wb]) (by simp)).trans (hF.mono (by simp)))
  clear hK hF
  go_wp2
  go_ret
  exact ⟨rfl, HK3.out, HA3.out, HF3.out⟩

theorem kStep_any (h : KkAt w lb ab sb next n S) (hA : ArAt w ab wb A) (hne : lb ≠ ab ∧ lb ≠ wb ∧ sb ≠ ab ∧ sb ≠ wb) (i : Int) : Calls Try.prog 40 #[.pointer (some ⟨lb, 0, none⟩), .int .i64 i] w fun e w' => e = .returned (.bool (kStepR n next S A i)) ∧
    KkAt w' lb ab sb next n (kStepS n next S A i) ∧ ArAt w' ab wb (kStepA n next S A i) ∧ Frm [sb, ab, wb] w w' := by
  have hne' := hne
  obtain ⟨n1, n2, n3, n4⟩ := hne
  cases hi : sHas n i with
  | false =>
    refine (kStep_idle h i (.inl hi)).mono fun e w' ⟨g1, g2⟩ => ?_
    subst g1 g2
    exact ⟨by unfold kStepR; rw [hi]; rfl, by unfold kStepS; rw [hi]; exact h, by unfold kStepA; rw [hi]; exact hA, Frm.refl _ _⟩
  | true =>
    have hi' : 0 ≤ i ∧ i < (n : Int) := by unfold sHas at hi; simpa using hi
    obtain ⟨j, rfl⟩ := Int.eq_ofNat_of_zero_le hi'.1
    have hj : j < n := by omega
    have ej : ((j : Int)).toNat = j := by omega
    unfold kStepR kStepS kStepA
    rw [hi, ej]
    simp only [Bool.true_and, if_true]
    by_cases q1 : S j 0 = 1
    · have q2 : ¬ S j 0 = 2 := by omega
      have q3 : ¬ S j 0 = 11 := by omega
      simp only [if_pos q1, if_neg q2, decide_eq_false q3]
      exact kStep_ask h hA hne' hj q1
    · simp only [if_neg q1]
      by_cases q2 : S j 0 = 2
      · simp only [if_pos q2]
        by_cases hg : A.get (next + 1) = S j 1
        · simp only [if_pos hg, decide_eq_true hg]
          exact kStep_hit h hA hne' hj q2 hg
        · simp only [if_neg hg, decide_eq_false hg]
          exact kStep_miss h hA hne' hj q2 hg
      · simp only [if_neg q2]
        by_cases q3 : S j 0 = 11
        · simp only [if_pos q3, decide_eq_true q3]
          exact kStep_free h hA hne' hj q3
        · simp only [if_neg q3, decide_eq_false q3]
          refine (kStep_idle h j (.inr ?_)).mono fun e w' ⟨g1, g2⟩ => ?_
          · rw [ej]; exact ⟨q1, q2, q3⟩
          · subst g1 g2
            exact ⟨rfl, h, hA, Frm.refl _ _⟩
end
end Go.Proofs.Ytmfeaancnkadbaa
