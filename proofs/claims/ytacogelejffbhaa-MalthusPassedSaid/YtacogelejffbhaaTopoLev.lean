/- Topologies: the program's own levels, and what it asks of the library. -/
import Derived.Test.YtacogelejffbhaaTopoProg
namespace Go.Proofs.Ytacogelejffbhaa
open Go.RowKit

theorem tDeep_neg (P : List Int) (k : Nat) {x : Int} (h : x < 0) : tDeep P k x = 0 := by
  cases k with
  | zero => rfl
  | succ k => unfold tDeep; rw [if_neg (by omega)]
theorem tDeep_stable {P : List Int} (ht : tTree P) : ∀ v : Nat, v < P.length → ∀ k, v + 1 ≤ k → tDeep P k v = tDeep P (v + 1) v := by
  intro v
  induction v using Nat.strongRecOn with
  | _ v ih =>
    intro hv k hk
    obtain ⟨k, rfl⟩ : ∃ k', k = k' + 1 := ⟨k - 1, by omega⟩
    have e : ∀ k, tDeep P (k + 1) v = 1 + tDeep P k (P[v]?.getD 0) := fun k => by
      rw [tDeep, if_pos (by omega)]; simp
    rw [e, e]
    by_cases h0 : v = 0
    · subst h0; rw [ht.1, tDeep_neg _ _ (by omega), tDeep_neg _ _ (by omega)]
    · obtain ⟨h1, h2⟩ := ht.2 v (by omega) hv
      obtain ⟨p, hp⟩ := Int.eq_ofNat_of_zero_le h1
      rw [hp] at h2 ⊢
      rw [ih p (by omega) (by omega) k (by omega), ih p (by omega) (by omega) v (by omega)]
theorem tDeep_step {P : List Int} (ht : tTree P) {v : Nat} (hv : v < P.length) : tDeep P P.length v = 1 + tDeep P P.length (P[v]?.getD 0) := by
  obtain ⟨n, hn⟩ : ∃ n, P.length = n + 1 := ⟨P.length - 1, by omega⟩
  have e : tDeep P (n + 1) v = 1 + tDeep P n (P[v]?.getD 0) := by
    rw [tDeep, if_pos (by omega)]; simp
  rw [hn, e]
  congr 1
  by_cases h0 : v = 0
  · subst h0; rw [ht.1, tDeep_neg _ _ (by omega), tDeep_neg _ _ (by omega)]
  · obtain ⟨h1, h2⟩ := ht.2 v (by omega) hv
    obtain ⟨p, hp⟩ := Int.eq_ofNat_of_zero_le h1
    rw [hp] at h2 ⊢
    rw [tDeep_stable ht p (by omega) n (by omega), tDeep_stable ht p (by omega) (n + 1) (by omega)]
def levF (P : List Int) (k v : Nat) : Int := if v < k then (tDeep P P.length v : Int) else 0
section
variable {w : World} {b1 : Nat} {v : Value} {P : List Int}
theorem levels_ok (hx : RowAt w b1 v P) (hn : P.length ≤ 100) (ht : tTree P) : Calls Try.prog 75 #[v] w fun e w' => ∃ g, e = .returned (.slice (some ⟨g, 0, none⟩) P.length P.length) ∧ w.heap.size ≤ g ∧ HAt w' g (insR P.length (fun v => (tDeep P P.length v : Int))) 3 ∧ Frm [] w w' := by
  have HR := Lib.hid (fun (W : World) (hf : Frm [] w W) => hx.frm hf (by simp))
  obtain ⟨a, cap, rfl, -, -⟩ := hx
  have HT := Lib.hid ht
  have mk := mkInsR P.length (by omega)
  clear ht
  go_enter Try.func75, Try.ntmps75
  go_upto_region 2 with fail
  generalize hW : World.alloc _ _ = W
  have hB : HAt W w.heap.size (insR P.length (fun _ => 0)) 3 := by subst hW; exact HAt.new w _ _
  have hF : Frm [] w W := by subst hW; exact (Frm.refl _ _).alloc _
  have HB := Lib.hid hB
  have HF := Lib.hid hF
  clear hW hB hF mk
  go_wp2_with fail
  go_loopw [11] (fun iv wx => ∃ k : Nat, iv = .int .i64 k ∧ k ≤ P.length ∧ HAt wx w.heap.size (insR P.length (levF P k)) 3 ∧ Frm [] w wx) (fun iv _ => P.length - (intOf iv).toNat)
  case atStart => exact ⟨0, rfl, by omega, HB.out, HF.out⟩
  case round =>
    obtain ⟨k, rfl, hk, hB, hF⟩ := hrel
    have HB1 := Lib.hid hB
    have HF1 := Lib.hid hF
    clear hB hF
    by_cases hlt : k < P.length
    · have e0 : decide ((k : Int) < P.length) = true := by simpa using hlt
      have e0' : decide (k < P.length) = true := by simpa using hlt
      have l1 : (k : Int) < P.length := by omega
      have hR := HR.out _ HF1.out
      obtain ⟨a2, cap2, he, -, hcx⟩ := hR
      obtain ⟨b, off, hbb, rfl, hc⟩ := hcx (by omega)
      obtain ⟨rfl, rfl⟩ : a = some ⟨b, off, none⟩ ∧ cap = cap2 := by simpa using he
      have c1 := hc k hlt
      have hp := fun h1 : 1 ≤ k => HT.out.2 k h1 hlt
      have h0 := HT.out.1
      have hs := tDeep_step HT.out hlt
      have hz := HB1.out.frozen
      have ck := HB1.out.cell (i := k) (insR_get _ hlt)
      -- behind the first store
      have hb1 := HB1.out.set k (.int .i64 1)
      rw [insR_set (g := fun v => if v = k then 1 else levF P k v) (by simp) (fun i _ hne => by simp [hne])] at hb1
      have HB2 := Lib.hid hb1
      have HF2 := Lib.hid (HF1.out.set ⟨w.heap.size, k, none⟩ (.int .i64 1) (.inr (Nat.le_refl _)))
      generalize hq : P[k]?.getD 0 = p at *
      by_cases n1 : 0 ≤ p
      · obtain ⟨j, rfl⟩ := Int.eq_ofNat_of_zero_le n1
        have hk0 : 1 ≤ k := by
          by_cases e : k = 0
          · subst e; rw [h0] at hq; omega
          · omega
        have hj := hp hk0
        have l2 : (j : Int) < P.length := by omega
        have g0 : decide (0 ≤ (j : Int)) = true := by simp
        have cj := HB2.out.cell (i := j) (insR_get _ (by omega))
        have hz2 := HB2.out.frozen
        have ck2 := HB2.out.cell (i := k) (insR_get _ hlt)
        have ej : (if j = k then (1 : Int) else levF P k j) = (tDeep P P.length j : Int) := by
          rw [if_neg (by omega)]; unfold levF; rw [if_pos (by omega)]
        rw [ej] at cj
        have hd1 : tDeep P P.length j ≤ 100 := by have := tDeep_le P P.length j; omega
        have hb2 := HB2.out.set k (.int .i64 ((tDeep P P.length j : Int) + 1))
        rw [insR_set (g := levF P (k + 1)) (by unfold levF; rw [if_pos (by omega), hs]; omega) (fun i _ hne => by unfold levF; rw [if_neg hne]; by_cases h : i < k; rw [if_pos (by omega), if_pos h]; rw [if_neg (by omega), if_neg h])] at hb2
        have HB3 := Lib.hid hb2
        have HF3 := Lib.hid (HF2.out.set ⟨w.heap.size, k, none⟩ (.int .i64 ((tDeep P P.length j : Int) + 1)) (.inr (Nat.le_refl _)))
        clear hc hcx he hq hs hp h0 hj n1 hb1 hb2 ej
        generalize tDeep P P.length j = dj at *
        go_upto_region 6 with fail
        generalize (wr.setCell ⟨w.heap.size, k, none⟩ (.int .i64 1)) = W1 at *
        go_wp2_with fail
        go_roundw
        case rel => exact ⟨k + 1, by go_num, by omega, HB3.out, HF3.out⟩
        case measure => simp [intOf]; omega
      · have g0 : decide (0 ≤ p) = false := by simpa using n1
        have e1 : insR P.length (fun v => if v = k then (1 : Int) else levF P k v) = insR P.length (levF P (k + 1)) := by
          unfold insR
          apply List.map_congr_left
          intro i _
          congr 1
          show (if i = k then (1 : Int) else levF P k i) = levF P (k + 1) i
          unfold levF
          by_cases e : i = k
          · subst e; rw [if_pos rfl, if_pos (by omega), hs, tDeep_neg _ _ (by omega)]; rfl
          · rw [if_neg e]
            by_cases h : i < k
            · rw [if_pos h, if_pos (by omega)]
            · rw [if_neg h, if_neg (by omega)]
        rw [e1] at HB2
        clear hc hcx he hq hs hp h0 e1 n1 hb1
        go_wp2_with fail
        go_roundw
        case rel => exact ⟨k + 1, by go_num, by omega, HB2.out, HF2.out⟩
        case measure => simp [intOf]; omega
    · have e0 : decide ((k : Int) < P.length) = false := by simpa using hlt
      have e0' : decide (k < P.length) = false := by simpa using hlt
      have hke : k = P.length := by omega
      have HB2 := Lib.hid HB1.out
      have e1 : insR P.length (levF P k) = insR P.length (fun v => (tDeep P P.length v : Int)) := by
        unfold insR
        apply List.map_congr_left
        intro i hi
        unfold levF
        rw [if_pos (by have := List.mem_range.1 hi; omega)]
      rw [e1] at HB2
      clear hke e1
      go_wp2
      go_ret
      exact ⟨w.heap.size, rfl, Nat.le_refl _, HB2.out, HF1.out⟩
theorem index_in {E : List Int} {x : Int} (hx : RowAt w b1 v E) (hn : E.length ≤ 100) (hm : x ∈ E) : Calls Try.prog 85 #[v, .int .i64 x] w fun e w' => (∃ r : Nat, e = .returned (.int .i64 r)) ∧ w = w' := by
  obtain ⟨a, cap, rfl, -, hcx⟩ := hx
  have HX := Lib.hid hcx
  have HM := Lib.hid hm
  clear hcx hm
  go_enter Try.func85, Try.ntmps85
  go_wp2_with fail
  go_loopw [8] (fun iv wx => ∃ k : Nat, iv = .int .i64 k ∧ k ≤ E.length ∧ (∀ i, i < k → E[i]?.getD 0 ≠ x) ∧ w = wx) (fun iv _ => E.length - (intOf iv).toNat)
  case atStart => exact ⟨0, rfl, by omega, fun i hi => by omega, rfl⟩
  case round =>
    obtain ⟨k, rfl, hk, hj, rfl⟩ := hrel
    have HJ := Lib.hid hj
    clear hj
    by_cases hlt : k < E.length
    · have e0 : decide ((k : Int) < E.length) = true := by simpa using hlt
      have e0' : decide (k < E.length) = true := by simpa using hlt
      have l1 : (k : Int) < E.length := by omega
      obtain ⟨b, off, _, rfl, hc⟩ := HX.out (by omega)
      have c1 := hc k hlt
      clear hc
      generalize hy : E[k]?.getD 0 = y at *
      have HY := Lib.hid hy
      clear hy
      by_cases hxy : x = y
      · have d1 : (x == y) = true := by simpa using hxy
        clear hxy
        go_wp2
        go_ret
        exact ⟨⟨k, rfl⟩, rfl⟩
      · have d1 : (x == y) = false := by simpa using hxy
        have HXY := Lib.hid hxy
        clear hxy
        go_wp2_with fail
        go_roundw
        case rel =>
          refine ⟨k + 1, by go_num, by omega, fun i hi => ?_, by trivial⟩
          by_cases e : i = k
          · subst e; rw [HY.out]; exact fun e => HXY.out e.symm
          · exact HJ.out i (by omega)
        case measure => simp [intOf]; omega
    · exfalso
      obtain ⟨i, hi⟩ := List.getElem?_of_mem HM.out
      have := (List.getElem?_eq_some_iff.1 hi).1
      exact HJ.out i (by omega) (by rw [hi]; rfl)
theorem contains_in {E : List Int} {x : Int} (hx : RowAt w b1 v E) (hn : E.length ≤ 100) (hm : x ∈ E) : Calls Try.prog 78 #[v, .int .i64 x] w fun e w' => e = .returned (.bool true) ∧ w = w' := by
  have HI := Lib.hid (index_in hx hn hm)
  obtain ⟨a, cap, rfl, -, -⟩ := hx
  clear hm
  go_enter Try.func78, Try.ntmps78
  go_wp2_with fail
  refine HI.out.mono ?_
  rintro e w' ⟨⟨r, rfl⟩, rfl⟩
  have d1 : decide ((0 : Int) ≤ r) = true := by simp
  go_wp2
  go_ret
  exact ⟨rfl, rfl⟩
theorem check1_in {E : List Int} {x : Int} {eb : Nat} (hx : RowAt w b1 v E) (hn : E.length ≤ 100) (hm : x ∈ E) (hc : w.cell? ⟨eb, 0, none⟩ = some v) : Calls Try.prog 77 #[.int .i64 x, .pointer (some ⟨eb, 0, none⟩)] w fun e w' => e = .returned (.bool false) ∧ w = w' := by
  have HI := Lib.hid (contains_in hx hn hm)
  obtain ⟨a, cap, rfl, -, -⟩ := hx
  clear hm
  go_enter Try.func77, Try.ntmps77
  go_wp2_with fail
  refine HI.out.mono ?_
  rintro e w' ⟨rfl, rfl⟩
  go_wp2
  go_ret
  exact ⟨rfl, rfl⟩
end
end Go.Proofs.Ytacogelejffbhaa
