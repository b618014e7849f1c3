/- Topologies: the program's own parts: tree, inner, levels, leaves. -/
import Derived.Test.YtacogelejffbhaaTopoSmall
import Derived.Maps.AppendAt
namespace Go.Proofs.Ytacogelejffbhaa
open Go.RowKit

theorem boolInfo : (Try.prog.info? 4).map (fun i => (i.zero, i.size, i.bytes)) = some (some (.bool false), 1, 1) := by kernel_rfl
/-- a row of ints, of flags -/
def insR (n : Nat) (f : Nat → Int) : List Value := (List.range n).map fun i => Value.int .i64 (f i)
def bosR (n : Nat) (f : Nat → Bool) : List Value := (List.range n).map fun i => Value.bool (f i)
theorem insR_get {n : Nat} (f : Nat → Int) {i : Nat} (h : i < n) : (insR n f)[i]? = some (.int .i64 (f i)) := by unfold insR; simp [h]
theorem bosR_get {n : Nat} (f : Nat → Bool) {i : Nat} (h : i < n) : (bosR n f)[i]? = some (.bool (f i)) := by unfold bosR; simp [h]
theorem insR_set {n : Nat} {f g : Nat → Int} {i : Nat} {v : Int} (hi : g i = v) (hg : ∀ k, k < n → k ≠ i → g k = f k) : (insR n f).set i (.int .i64 v) = insR n g := by
  apply List.ext_getElem?
  intro k
  rw [List.getElem?_set]
  unfold insR
  by_cases h : k < n
  · by_cases e : i = k
    · subst e; simp [h, hi]
    · simp [e, h, hg k h (fun e' => e e'.symm)]
  · simp [h]; intro _; omega
theorem bosR_set {n : Nat} {f g : Nat → Bool} {i : Nat} {v : Bool} (hi : g i = v) (hg : ∀ k, k < n → k ≠ i → g k = f k) : (bosR n f).set i (.bool v) = bosR n g := by
  apply List.ext_getElem?
  intro k
  rw [List.getElem?_set]
  unfold bosR
  by_cases h : k < n
  · by_cases e : i = k
    · subst e; simp [h, hi]
    · simp [e, h, hg k h (fun e' => e e'.symm)]
  · simp [h]; intro _; omega
theorem mkInsR (n : Nat) (hn : n ≤ 1000000) (W : World) : (Instr.makeSlice 30 (.int .i64 n) (.int .i64 n)).run Try.prog W = .ok (.slice (some ⟨W.heap.size, 0, none⟩) n n) (W.alloc (.cells (insR n (fun _ => 0)).toArray 3)) := by
  obtain ⟨i0, hi, hz0, hz1, hz2⟩ := info_parts intInfo
  rw [run_make W 30 3 i0 (.int .i64 0) Try.underlying30 hi hz0 .i64 .i64 n n (by omega) (by omega) (by rw [hz2]; omega) (by omega)]
  have e : madeCells (Value.int .i64 0).cells (((n : Int).toNat) * i0.size) = (insR n (fun _ => 0)).toArray := by
    apply Array.ext'
    rw [hz1]
    show (madeCells #[Value.int .i64 0] _).toList = _
    rw [toList_madeCells_one]
    simp only [insR]
    apply List.ext_getElem?
    intro i
    by_cases h : i < n
    · simp [h]
    · simp [h]
  rw [e]
  simp
theorem mkBosR (n : Nat) (hn : n ≤ 1000000) (W : World) : (Instr.makeSlice 109 (.int .i64 n) (.int .i64 n)).run Try.prog W = .ok (.slice (some ⟨W.heap.size, 0, none⟩) n n) (W.alloc (.cells (bosR n (fun _ => false)).toArray 4)) := by
  obtain ⟨i0, hi, hz0, hz1, hz2⟩ := info_parts boolInfo
  rw [run_make W 109 4 i0 (.bool false) Try.underlying109 hi hz0 .i64 .i64 n n (by omega) (by omega) (by rw [hz2]; omega) (by omega)]
  have e : madeCells (Value.bool false).cells (((n : Int).toNat) * i0.size) = (bosR n (fun _ => false)).toArray := by
    apply Array.ext'
    rw [hz1]
    show (madeCells #[Value.bool false] _).toList = _
    rw [toList_madeCells_one]
    simp only [bosR]
    apply List.ext_getElem?
    intro i
    by_cases h : i < n
    · simp [h]
    · simp [h]
  rw [e]
  simp

section
variable {w : World} {b1 : Nat} {v : Value} {P : List Int}
theorem tree_ok (hx : RowAt w b1 v P) (hn : P.length ≤ 100) (ht : tTree P) : Calls Try.prog 73 #[v] w fun e w' => e = .returned (.bool true) ∧ w = w' := by
  obtain ⟨a, cap, rfl, -, hcx⟩ := hx
  have HX := Lib.hid hcx
  have HT := Lib.hid ht
  clear hcx ht
  go_enter Try.func73, Try.ntmps73
  go_wp2_with fail
  go_loopw [7] (fun iv wx => ∃ k : Nat, iv = .int .i64 k ∧ k ≤ P.length ∧ w = wx) (fun iv _ => P.length - (intOf iv).toNat)
  case atStart => exact ⟨0, rfl, by omega, rfl⟩
  case round =>
    obtain ⟨k, rfl, hk, rfl⟩ := hrel
    by_cases hlt : k < P.length
    · have e0 : decide ((k : Int) < P.length) = true := by simpa using hlt
      have e0' : decide (k < P.length) = true := by simpa using hlt
      have l1 : (k : Int) < P.length := by omega
      obtain ⟨b, off, _, rfl, hc⟩ := HX.out (by omega)
      have c1 := hc k hlt
      clear hc
      by_cases k0 : k = 0
      · subst k0
        rw [HT.out.1] at c1
        simp only [Nat.add_zero] at c1
        go_wp2_with fail
        go_roundw
        case rel => exact ⟨1, by go_num, by omega, by trivial⟩
        case measure => simp [intOf]; omega
      · have f0 : ((k : Int) == 0) = false := by simp; omega
        have f1 : decide ((0 : Int) < k) = true := by simp; omega
        have f2 : (k == 0) = false := by simpa using k0
        have f3 : decide (0 < k) = true := by simp; omega
        have hp := HT.out.2 k (by omega) hlt
        generalize P[k]?.getD 0 = p at *
        have g0 : decide (p < 0) = false := by simp; omega
        have g1 : decide ((k : Int) ≤ p) = false := by simp; omega
        clear hp
        go_wp2_with fail
        go_roundw
        case rel => exact ⟨k + 1, by go_num, by omega, by trivial⟩
        case measure => simp [intOf]; omega
    · have e0 : decide ((k : Int) < P.length) = false := by simpa using hlt
      have e0' : decide (k < P.length) = false := by simpa using hlt
      go_wp2
      go_ret
      exact ⟨rfl, rfl⟩
/-- is a number among the first ones? -/
def inFirst (P : List Int) (k : Nat) (v : Nat) : Bool := decide ((v : Int) ∈ P.take k)
theorem inFirst_succ {P : List Int} {k : Nat} (hk : k < P.length) (v : Nat) : inFirst P (k + 1) v = (inFirst P k v || decide (P[k]?.getD 0 = (v : Int))) := by
  unfold inFirst
  rw [List.take_succ_eq_append_getElem hk, List.getElem?_eq_getElem hk]
  simp only [Option.getD_some]
  rw [Bool.eq_iff_iff]
  simp only [decide_eq_true_eq, Bool.or_eq_true, List.mem_append, List.mem_singleton]
  exact or_congr Iff.rfl ⟨fun h => h.symm, fun h => h.symm⟩
theorem inner_ok (hx : RowAt w b1 v P) (hn : P.length ≤ 100) (ht : tTree P) : Calls Try.prog 83 #[v] w fun e w' => ∃ g, e = .returned (.slice (some ⟨g, 0, none⟩) P.length P.length) ∧ w.heap.size ≤ g ∧ HAt w' g (bosR P.length (fun v => decide ((v : Int) ∈ P))) 4 ∧ Frm [] w w' := by
  have HR := Lib.hid (fun (W : World) (hf : Frm [] w W) => hx.frm hf (by simp))
  obtain ⟨a, cap, rfl, -, -⟩ := hx
  have HT := Lib.hid ht
  have mk := mkBosR P.length (by omega)
  clear ht
  go_enter Try.func83, Try.ntmps83
  go_upto_region 2 with fail
  generalize hW : World.alloc _ _ = W
  have hB : HAt W w.heap.size (bosR P.length (fun _ => false)) 4 := by subst hW; exact HAt.new w _ _
  have hF : Frm [] w W := by subst hW; exact (Frm.refl _ _).alloc _
  have HB := Lib.hid hB
  have HF := Lib.hid hF
  clear hW hB hF mk
  go_wp2_with fail
  go_loopw [11] (fun iv wx => ∃ k : Nat, iv = .int .i64 k ∧ k ≤ P.length ∧ HAt wx w.heap.size (bosR P.length (inFirst P k)) 4 ∧ Frm [] w wx) (fun iv _ => P.length - (intOf iv).toNat)
  case atStart => exact ⟨0, rfl, by omega, HB.out, HF.out⟩
  case round =>
    obtain ⟨k, rfl, hk, hB, hF⟩ := hrel
    have HB1 := Lib.hid hB
    have HF1 := Lib.hid hF
    clear hB hF
    by_cases hlt : k < P.length
    · have e0 : decide ((k : Int) < P.length) = true := by simpa using hlt
      have e0' : decide (k < P.length) = true := by simpa using hlt
      have l1 : (k : Int) < P.length := by omega
      have hR := HR.out _ HF1.out
      obtain ⟨a2, cap2, he, -, hcx⟩ := hR
      obtain ⟨b, off, _, rfl, hc⟩ := hcx (by omega)
      obtain ⟨rfl, rfl⟩ : a = some ⟨b, off, none⟩ ∧ cap = cap2 := by simpa using he
      have c1 := hc k hlt
      have hp := fun h1 : 1 ≤ k => HT.out.2 k h1 hlt
      have h0 := HT.out.1
      have hs := fun v => inFirst_succ hlt v
      generalize hq : P[k]?.getD 0 = p at *
      have HQ := Lib.hid hq
      have HS := Lib.hid hs
      by_cases n1 : 0 ≤ p
      · obtain ⟨j, rfl⟩ := Int.eq_ofNat_of_zero_le n1
        have hk0 : 1 ≤ k := by
          by_cases e : k = 0
          · subst e; rw [h0] at hq; omega
          · omega
        have hj := hp hk0
        have l2 : (j : Int) < P.length := by omega
        have g0 : decide (0 ≤ (j : Int)) = true := by simp
        have hb : HAt (wr.setCell ⟨w.heap.size, j, none⟩ (.bool true)) w.heap.size (bosR P.length (inFirst P (k + 1))) 4 := by
          have h3 := HB1.out.set j (.bool true)
          rwa [bosR_set (g := inFirst P (k + 1)) (by rw [HS.out]; simp) (fun i _ hne => by rw [HS.out]; simp; intro e; exact absurd e.symm (by omega))] at h3
        have HB2 := Lib.hid hb
        have HF2 := Lib.hid (HF1.out.set ⟨w.heap.size, j, none⟩ (.bool true) (.inr (Nat.le_refl _)))
        have hz := HB1.out.frozen j
        have ck := HB1.out.cell (i := j) (bosR_get _ (by omega))
        clear hc hcx he hq hs hp h0 hj hb n1
        go_wp2_with fail
        go_roundw
        case rel => exact ⟨k + 1, by go_num, by omega, HB2.out, HF2.out⟩
        case measure => simp [intOf]; omega
      · have g0 : decide (0 ≤ p) = false := by simpa using n1
        have e1 : bosR P.length (inFirst P (k + 1)) = bosR P.length (inFirst P k) := by
          unfold bosR
          apply List.map_congr_left
          intro i _
          rw [HS.out]
          simp; intro e; omega
        have HB2 := Lib.hid HB1.out
        rw [← e1] at HB2
        clear hc hcx he hq hs hp h0 e1 n1
        go_wp2_with fail
        go_roundw
        case rel => exact ⟨k + 1, by go_num, by omega, HB2.out, HF1.out⟩
        case measure => simp [intOf]; omega
    · have e0 : decide ((k : Int) < P.length) = false := by simpa using hlt
      have e0' : decide (k < P.length) = false := by simpa using hlt
      have hke : k = P.length := by omega
      have HB2 := Lib.hid HB1.out
      rw [hke] at HB2
      unfold inFirst at HB2
      simp only [List.take_length] at HB2
      clear hke
      go_wp2
      go_ret
      exact ⟨w.heap.size, rfl, Nat.le_refl _, HB2.out, HF1.out⟩
/-- the places without others below them -/
def tEnds (P : List Int) (k : Nat) : List Int := ((List.range k).filter (fun v : Nat => !decide ((v : Int) ∈ P))).map (fun v : Nat => (v : Int))
set_option maxHeartbeats 1000000 in
theorem leaves_ok (hx : RowAt w b1 v P) (hn : P.length ≤ 100) (ht : tTree P) : Calls Try.prog 74 #[v] w fun e w' => ∃ u, e = .returned u ∧ Own w' w.heap.size u (tEnds P P.length) ∧ Frm [] w w' := by
  obtain ⟨i0, hi, hz0, hz1, hz2⟩ := info_parts intInfo
  have HI := Lib.hid (And.intro hi (And.intro hz0 (And.intro hz1 hz2)))
  have HN := Lib.hid (inner_ok hx hn ht)
  obtain ⟨a, cap, rfl, -, -⟩ := hx
  clear ht hi hz0 hz1 hz2
  go_enter Try.func74, Try.ntmps74
  go_wp2_with fail
  refine HN.out.mono ?_
  rintro e w1 ⟨g, rfl, hg, hB, hF⟩
  have HB := Lib.hid hB
  have HF := Lib.hid hF
  have hgl := hB.lt
  have hsz := hF.size
  clear hB hF
  go_wp2_with fail
  go_loopw [3, 9] (fun vv i wr => ∃ (k : Nat) (v : Value), v = vv ∧ i = .int .i64 k ∧ k ≤ P.length ∧ Own wr w1.heap.size v (tEnds P k) ∧ Frm [] w1 wr) (fun _ i _ => P.length - (intOf i).toNat)
  case atStart => exact ⟨0, _, rfl, rfl, Nat.zero_le _, Own.nil _ _, Frm.refl _ _⟩
  case round =>
    obtain ⟨k, v, rfl, rfl, hk, hO, hF⟩ := hrel
    have hsz2 := hF.size
    by_cases hlt : k < P.length
    · have e0 : decide ((k : Int) < P.length) = true := by simpa using hlt
      have e0' : decide (k < P.length) = true := by simpa using hlt
      have l1 : (k : Int) < P.length := by omega
      have cb := (HB.out.frm hF (by simp)).cell (i := k) (bosR_get _ hlt)
      have HO := Lib.hid hO
      have HF2 := Lib.hid hF
      have HBL := Lib.hid (own_block hO)
      have hns : tEnds P (k + 1) = if decide ((k : Int) ∈ P) then tEnds P k else tEnds P k ++ [(k : Int)] := by
        unfold tEnds; rw [List.range_succ, List.filter_append, List.map_append]
        by_cases h : (k : Int) ∈ P <;> simp [h]
      have HNS := Lib.hid hns
      clear hO hF hns
      cases hd : decide ((k : Int) ∈ P) with
      | true =>
        rw [hd] at cb HNS
        clear hd
        go_wp2_with fail
        go_roundw
        case rel => exact ⟨k + 1, _, rfl, by go_num, by omega, by rw [HNS.out]; exact HO.out, HF2.out⟩
        case measure => simp [intOf]; omega
      | false =>
        rw [hd] at cb HNS
        clear hd
        have hlen : (tEnds P k).length ≤ k := by unfold tEnds; rw [List.length_map]; exact Nat.le_trans (List.length_filter_le _ _) (by simp)
        have HOW := Lib.hid (HO.out.at (n := (tEnds P k).length) rfl)
        generalize hll : (tEnds P k).length = ll at *
        go_wp2_with (at_builtin; refine wpList_append_own _ rfl _ _ 30 rfl w1.heap.size 3 i0 (.int .i64 0) 1 8 Try.underlying30 HI.out.1 HI.out.2.1 HI.out.2.2.1 HI.out.2.2.2 rfl (by decide) _ _ _ rfl (HOW.out.alloc _) ⟨wr.heap.size, 0, none⟩ 1 1 [.int .i64 k] rfl rfl ?c1 ?c2 ?c3 ?c4 ?c5 ?_)
        case c1 => exact cell_one_new _ _ _
        case c2 => simp [Value.oneCell']
        case c3 => unfold maxLen; omega
        case c4 => omega
        case c5 => simp; omega
        intro v' w2 hown' hgrow _
        obtain ⟨g1, g2⟩ := own_step hll hown' hgrow HBL.out HF2.out (Nat.le_refl _)
        have G1 := Lib.hid (show Own w2 w1.heap.size v' (tEnds P (k + 1)) by rw [HNS.out]; exact g1)
        have G2 := Lib.hid g2
        clear g1 g2 hown' hgrow HOW HO HF2 cb hll
        go_wp2
        go_roundw
        case rel => exact ⟨k + 1, _, rfl, by go_num, by omega, G1.out, G2.out⟩
        case measure => simp [intOf]; omega
    · have e0 : decide ((k : Int) < P.length) = false := by simpa using hlt
      have e0' : decide (k < P.length) = false := by simpa using hlt
      have hke : k = P.length := by omega
      have HK := Lib.hid hke
      have HO := Lib.hid hO
      have HF2 := Lib.hid hF
      clear hke hO hF
      go_wp2
      go_ret
      exact ⟨_, rfl, by rw [← HK.out]; exact HO.out.base hsz, HF.out.trans HF2.out⟩
end
end Go.Proofs.Ytacogelejffbhaa
