/- The contracts of the ring document's answer: At, Cut, Find over a row. -/
import Derived.Test.YteapniipkpijkaaRingOrder
namespace Go.Proofs.Yteapniipkpijkaa
open Go.RowKit

theorem rAt_no {W : World} {base : Nat} {v : Value} {xs : List Int} (h : RowAt W base v xs) {i : Int} (hi : i < 0 ∨ (xs.length : Int) ≤ i) :
    Calls Try.prog 26 #[v, .int .i64 i] W fun e w' => e = .returned (.tuple #[.int .i64 0, .bool false]) ∧ W = w' := by
  obtain ⟨a, cap, rfl, -, -⟩ := h
  by_cases hn : i < 0
  · clear hi
    go_enter Try.func26, Try.ntmps26
    go_wp2
    go_ret2
    exact ⟨rfl, rfl⟩
  · have hge : (xs.length : Int) ≤ i := by omega
    clear hi
    go_enter Try.func26, Try.ntmps26
    go_wp2
    go_ret2
    exact ⟨rfl, rfl⟩
theorem rAt_yes {W : World} {base : Nat} {v : Value} {xs : List Int} (h : RowAt W base v xs) {i : Nat} (hi : i < xs.length) :
    Calls Try.prog 26 #[v, .int .i64 i] W fun e w' => e = .returned (.tuple #[.int .i64 (xs[i]?.getD 0), .bool true]) ∧ W = w' := by
  obtain ⟨a, cap, rfl, -, h3⟩ := h
  obtain ⟨b, off, -, rfl, hc⟩ := h3 (by omega)
  have c0 := hc i hi
  have l1 : (i : Int) < xs.length := by omega
  have HC := Lib.hid hc
  clear hc h3
  generalize xs[i]?.getD 0 = x at *
  go_enter Try.func26, Try.ntmps26
  go_wp2
  go_ret2
  exact ⟨rfl, rfl⟩

def eqI (z : Int) : Int → Bool := fun k => k == z
theorem findI_snoc {p : Int → Bool} : ∀ {ini : List Int} {rest : List Int} {k : Int}, (∀ y ∈ ini, p y = false) → findI p (ini ++ rest) k = findI p rest (k + ini.length)
  | [], rest, k, _ => by simp
  | y :: l, rest, k, h => by
    rw [List.cons_append, findI, h y (by simp)]
    simp only [Bool.false_eq_true, if_false]
    rw [findI_snoc (fun z hz => h z (by simp [hz]))]
    congr 1
    simp; omega
set_option maxHeartbeats 1000000 in
theorem rFind_any {W : World} {base : Nat} {v : Value} {xs : List Int} (h : RowAt W base v xs) (z : Int) :
    Calls Try.prog 30 #[v, .int .i64 z] W fun e w' => e = .returned (.int .i64 (findI (eqI z) xs 0)) ∧ W = w' := by
  obtain ⟨a, cap, rfl, hl, h3⟩ := h
  unfold maxLen at hl
  have H3 := Lib.hid h3
  clear h3
  go_enter Try.func30, Try.ntmps30
  go_wp2
  go_loop [5] (fun i => ∃ k : Nat, i = .int .i64 k ∧ k ≤ xs.length ∧ ∀ y ∈ xs.take k, eqI z y = false) (fun i => xs.length - (intOf i).toNat)
  case atStart => exact ⟨0, rfl, Nat.zero_le _, by simp⟩
  case round =>
    obtain ⟨k, rfl, hk, hpre⟩ := hrel
    have HP := Lib.hid hpre
    clear hpre
    by_cases hlt : k < xs.length
    · have l1 : (k : Int) < xs.length := by omega
      obtain ⟨b, off, -, rfl, hc⟩ := H3.out (by omega)
      have c0 := hc k hlt
      have hx : xs[k]?.getD 0 = xs[k] := by simp [hlt]
      have hst : xs.take (k + 1) = xs.take k ++ [xs[k]] := List.take_succ_eq_append_getElem hlt
      have hsp : xs = xs.take k ++ xs[k] :: xs.drop (k + 1) := by rw [List.getElem_cons_drop, List.take_append_drop]
      rw [hx] at c0
      have HST := Lib.hid hst
      have HSP := Lib.hid hsp
      clear hc hst hsp hx
      generalize xs[k] = x at *
      by_cases hxz : x = z
      · have e1 : (x == z) = true := by simpa using hxz
        have hv : findI (eqI z) xs 0 = k := by
          rw [HSP.out, findI_at HP.out (by unfold eqI; exact e1)]
          simp; omega
        have HV := Lib.hid hv
        clear hv hxz
        go_wp2
        go_ret
        exact ⟨by rw [HV.out]; rfl, rfl⟩
      · have e1 : (x == z) = false := by simpa using hxz
        clear hxz
        go_wp2
        go_round
        case rel => exact ⟨k + 1, by go_num, by omega, by rw [HST.out]; intro y hy; rcases List.mem_append.1 hy with h | h; exact HP.out y h; (simp at h; subst h; exact e1)⟩
        case measure => simp [intOf]; omega
    · have l1 : ¬ (k : Int) < xs.length := by omega
      have hv : findI (eqI z) xs 0 = -1 := findI_none fun y hy => HP.out y (by rw [List.take_of_length_le (by omega)]; exact hy)
      have HV := Lib.hid hv
      clear hv
      go_wp2
      go_ret
      exact ⟨by rw [HV.out]; rfl, rfl⟩

theorem cut_ne {xs : List Int} {i k : Nat} (hk : k < xs.length) (h : k ≠ i) : (xs.take (k + 1)).eraseIdx i = (xs.take k).eraseIdx i ++ [xs[k]] := by
  rw [List.take_succ_eq_append_getElem hk]
  rcases Nat.lt_or_ge i k with h' | h'
  · rw [List.eraseIdx_append_of_lt_length (by simp; omega)]
  · rw [List.eraseIdx_of_length_le (by simp; omega), List.eraseIdx_of_length_le (by simp; omega)]
theorem cut_eq {xs : List Int} {k : Nat} (hk : k < xs.length) : (xs.take (k + 1)).eraseIdx k = (xs.take k).eraseIdx k := by
  rw [List.take_succ_eq_append_getElem hk, List.eraseIdx_append_of_length_le (by simp; omega), List.eraseIdx_of_length_le (l := xs.take k) (by simp; omega)]
  have : k - (xs.take k).length = 0 := by simp; omega
  rw [this]; simp

theorem rCut_no {W : World} {base : Nat} {v : Value} {xs : List Int} (h : RowAt W base v xs) {i : Int} (hi : i < 0 ∨ (xs.length : Int) ≤ i) :
    Calls Try.prog 23 #[v, .int .i64 i] W fun e w' => e = .returned (.tuple #[v, .int .i64 0, .bool false]) ∧ W = w' := by
  have HA := Lib.hid (rAt_no h hi)
  obtain ⟨a, cap, rfl, -, -⟩ := h
  clear hi
  go_enter Try.func23, Try.ntmps23
  go_wp2_with fail
  refine HA.out.mono ?_
  rintro e w' ⟨rfl, rfl⟩
  go_wp2
  exact bodyPost_ret (v := .tuple #[.slice a xs.length cap, .int .i64 0, .bool false]) (by simp [results, Try.results23, go_sem]) rfl ⟨rfl, rfl⟩

set_option maxHeartbeats 2000000 in
theorem rCut_yes {W : World} {base : Nat} {v : Value} {xs : List Int} (ho : Own W base v xs) (hl : xs.length ≤ 1000) {i : Nat} (hi : i < xs.length) :
    Calls Try.prog 23 #[v, .int .i64 i] W fun e w' => ∃ v', e = .returned (.tuple #[v', .int .i64 (xs[i]?.getD 0), .bool true]) ∧ Own w' W.heap.size v' (xs.eraseIdx i) ∧ Frm [] W w' := by
  have HA := Lib.hid (rAt_yes ho.row hi)
  obtain ⟨a, cap, rfl, -, h3⟩ := ho.row
  obtain ⟨b, off, -, rfl, hc⟩ := h3 (by omega)
  have hblt : b < W.heap.size := (own_lt ho (g := b) (by simp [Value.ownBlock])).2
  have HC := Lib.hid hc
  clear ho
  obtain ⟨i0, hi0, hz0, hz1, hz2⟩ := info_parts intInfo
  have HIN := Lib.hid (And.intro hi0 (And.intro hz0 (And.intro hz1 hz2)))
  clear hi0 hz0 hz1 hz2 hc h3
  generalize hX : xs[i]?.getD 0 = X at *
  have HX := Lib.hid hX
  clear hX
  go_enter Try.func23, Try.ntmps23
  go_wp2_with fail
  refine HA.out.mono ?_
  rintro e w' ⟨rfl, rfl⟩
  go_wp2
  go_loopw [9, 10] (fun out kv wx => ∃ k : Nat, kv = .int .i64 k ∧ k ≤ xs.length ∧ Own wx W.heap.size out ((xs.take k).eraseIdx i) ∧ Frm [] W wx) (fun _ kv _ => xs.length - (intOf kv).toNat)
  case atStart => exact ⟨0, rfl, Nat.zero_le _, by simpa using Own.nil _ _, Frm.refl _ _⟩
  case round =>
    obtain ⟨k, rfl, hk, hO, hF⟩ := hrel
    have HO := Lib.hid hO
    have HF := Lib.hid hF
    have hle : ((xs.take k).eraseIdx i).length ≤ 1000 := by
      have := List.length_eraseIdx_le (xs.take k) i
      simp at this; omega
    have hsz := hF.size
    obtain ⟨oa, ocap, rfl⟩ := own_form hO
    clear hO hF
    by_cases hlt : k < xs.length
    · have l1 : (k : Int) < xs.length := by omega
      by_cases hki : k = i
      · have e1 : ((k : Int) != (i : Int)) = false := by simp; omega
        have e2 : (k != i) = false := by simp; omega
        have HO2 : Hid (Own wr W.heap.size (.slice oa ((xs.take k).eraseIdx i).length ocap) ((xs.take (k + 1)).eraseIdx i)) := Lib.hid (by subst hki; rw [cut_eq hlt]; exact HO.out)
        clear hki
        go_wp2
        go_roundw
        case rel => exact ⟨k + 1, by go_num, by omega, HO2.out, HF.out⟩
        case measure => simp [intOf]; omega
      · have e1 : ((k : Int) != (i : Int)) = true := by simp; omega
        have e2 : (k != i) = true := by simp; omega
        have c0 := HF.out.cell (HC.out k hlt) (by simp)
        have hx : xs[k]?.getD 0 = xs[k] := by simp [hlt]
        have hst := cut_ne hlt hki
        rw [hx] at c0
        have HST := Lib.hid hst
        clear hx hst hki
        generalize xs[k] = y at *
        generalize hcur : (xs.take k).eraseIdx i = cur at *
        have HCUR := Lib.hid hcur
        clear hcur
        go_wp2_with (at_builtin; go_must (refine wpList_append_own _ rfl _ _ 34 rfl W.heap.size 3 i0 (.int .i64 0) 1 8 Try.underlying34 HIN.out.1 HIN.out.2.1 HIN.out.2.2.1 HIN.out.2.2.2 rfl (by decide) _ _ _ rfl (HO.out.alloc _) ⟨wr.heap.size, 0, none⟩ 1 1 [.int .i64 y] rfl rfl (cell_one_new _ _ _) (by simp [Value.oneCell']) (by unfold maxLen; omega) (by omega) (by rw [World.size_alloc]; omega) ?_; intro out' w1 hown' hgrow _; have HO6 := Lib.hid (own_step rfl hown' hgrow (own_block HO.out) HF.out (Nat.le_refl _)); clear hown' hgrow))
        go_roundw
        case rel => exact ⟨k + 1, by go_num, by omega, by rw [HST.out]; exact HO6.out.1, HO6.out.2⟩
        case measure => simp [intOf]; omega
    · have l1 : ¬ (k : Int) < xs.length := by omega
      have HE : Hid ((xs.take k).eraseIdx i = xs.eraseIdx i) := Lib.hid (by rw [List.take_of_length_le (by omega)])
      go_wp2
      refine bodyPost_ret (v := .tuple #[.slice oa ((xs.take k).eraseIdx i).length ocap, .int .i64 X, .bool true]) (by simp [results, Try.results23, go_sem]) rfl ⟨_, rfl, ?_, HF.out⟩
      rw [HE.out] at HO ⊢
      exact HO.out
end Go.Proofs.Yteapniipkpijkaa
