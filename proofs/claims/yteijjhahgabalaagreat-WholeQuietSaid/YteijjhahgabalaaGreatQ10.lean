/- Topologies: the program's own parts: tree, inner, levels, leaves. -/
import Derived.Maps.AppendAt
import Derived.Test.YteijjhahgabalaaGreatQ09
namespace Go.Proofs.YteijjhahgabalaaGreat
open Go.RowKit

theorem boolInfo : (Tryz.prog.info? 4).map (fun i => (i.zero, i.size, i.bytes)) = some (some (.bool false), 1, 1) := by kernel_rfl
/-- a row of ints, of flags -/
def insR (n : Nat) (f : Nat → Int) : List Value := (List.range n).map fun i => Value.int .i64 (f i)
def bosR (n : Nat) (f : Nat → Bool) : List Value := (List.range n).map fun i => Value.bool (f i)
theorem insR_get {n : Nat} (f : Nat → Int) {i : Nat} (h : i < n) : (insR n f)[i]? = some (.int .i64 (f i)) := by unfold insR; simp [h]
theorem bosR_get {n : Nat} (f : Nat → Bool) {i : Nat} (h : i < n) : (bosR n f)[i]? = some (.bool (f i)) := by unfold bosR; simp [h]
theorem insR_set {n : Nat} {f g : Nat → Int} {i : Nat} {v : Int} (hi : g i = v) (hg : ∀ k, k < n → k ≠ i → g k = f k) : (insR n f).set i (.int .i64 v) = insR n g := by
  apply List.ext_getElem?
  intro k
  rw [List.getElem?_set]
  unfold insR
  by_cases h : k < n
  · by_cases e : i = k
    · subst e; simp [h, hi]
    · simp [e, h, hg k h (fun e' => e e'.symm)]
  · simp [h]; intro _; omega
theorem bosR_set {n : Nat} {f g : Nat → Bool} {i : Nat} {v : Bool} (hi : g i = v) (hg : ∀ k, k < n → k ≠ i → g k = f k) : (bosR n f).set i (.bool v) = bosR n g := by
  apply List.ext_getElem?
  intro k
  rw [List.getElem?_set]
  unfold bosR
  by_cases h : k < n
  · by_cases e : i = k
    · subst e; simp [h, hi]
    · simp [e, h, hg k h (fun e' => e e'.symm)]
  · simp [h]; intro _; omega
theorem mkInsR (n : Nat) (hn : n ≤ 1000000) (W : World) : (Instr.makeSlice 22 (.int .i64 n) (.int .i64 n)).run Tryz.prog W = .ok (.slice (some ⟨W.heap.size, 0, none⟩) n n) (W.alloc (.cells (insR n (fun _ => 0)).toArray 3)) := by
  obtain ⟨i0, hi, hz0, hz1, hz2⟩ := info_parts intInfo
  rw [run_make W 22 3 i0 (.int .i64 0) Tryz.underlying22 hi hz0 .i64 .i64 n n (by omega) (by omega) (by rw [hz2]; omega) (by omega)]
  have e : madeCells (Value.int .i64 0).cells (((n : Int).toNat) * i0.size) = (insR n (fun _ => 0)).toArray := by
    apply Array.ext'
    rw [hz1]
    show (madeCells #[Value.int .i64 0] _).toList = _
    rw [toList_madeCells_one]
    simp only [insR]
    apply List.ext_getElem?
    intro i
    by_cases h : i < n
    · simp [h]
    · simp [h]
  rw [e]
  simp
theorem mkBosR (n : Nat) (hn : n ≤ 1000000) (W : World) : (Instr.makeSlice 49 (.int .i64 n) (.int .i64 n)).run Tryz.prog W = .ok (.slice (some ⟨W.heap.size, 0, none⟩) n n) (W.alloc (.cells (bosR n (fun _ => false)).toArray 4)) := by
  obtain ⟨i0, hi, hz0, hz1, hz2⟩ := info_parts boolInfo
  rw [run_make W 49 4 i0 (.bool false) Tryz.underlying49 hi hz0 .i64 .i64 n n (by omega) (by omega) (by rw [hz2]; omega) (by omega)]
  have e : madeCells (Value.bool false).cells (((n : Int).toNat) * i0.size) = (bosR n (fun _ => false)).toArray := by
    apply Array.ext'
    rw [hz1]
    show (madeCells #[Value.bool false] _).toList = _
    rw [toList_madeCells_one]
    simp only [bosR]
    apply List.ext_getElem?
    intro i
    by_cases h : i < n
    · simp [h]
    · simp [h]
  rw [e]
  simp

section
variable {w : World} {b1 : Nat} {v : Value} {P : List Int}
theorem tree_ok (hx : RowAt w b1 v P) (hn : P.length ≤ 100) (ht : tTree P) : Calls Tryz.prog 66 #[v] w fun e w' => e = .returned (.bool true) ∧ w = w' := by
  obtain ⟨a, cap, rfl, -, hcx⟩ := hx
  have HX := Lib.hid hcx
  have HT := Lib.hid ht
  clear hcx ht
  go_enter Tryz.func66, Tryz.ntmps66
  go_wp2_with fail
  go_loopw [7] (fun iv wx => ∃ k : Nat, iv = .int .i64 k ∧ k ≤ P.length ∧ w = wx) (fun iv _ => P.length - (intOf iv).toNat)
  case atStart => exact ⟨0, rfl, by omega, rfl⟩
  case round =>
    obtain ⟨k, rfl, hk, rfl⟩ := hrel
    by_cases hlt : k < P.length
    · have e0 : decide ((k : Int) < P.length) = true := by simpa using hlt
      have e0' : decide (k < P.length) = true := by simpa using hlt
      have l1 : (k : Int) < P.length := by omega
      obtain ⟨b, off, _, rfl, hc⟩ := HX.out (by omega)
      have c1 := hc k hlt
      clear hc
      by_cases k0 : k = 0
      · subst k0
        rw [HT.out.1] at c1
        simp only [Nat.add_zero] at c1
        go_wp2_with fail
        go_roundw
        case rel => exact ⟨1, by go_num, by omega, by trivial⟩
        case measure => simp [intOf]; omega
      · have f0 : ((k : Int) == 0) = false := by simp; omega
        have f1 : decide ((0 : Int) < k) = true := by simp; omega
        have f2 : (k == 0) = false := by simpa using k0
        have f3 : decide (0 < k) = true := by simp; omega
        have hp := HT.out.2 k (by omega) hlt
        generalize P[k]?.getD 0 = p at *
        have g0 : decide (p < 0) = false := by simp; omega
        have g1 : decide ((k : Int) ≤ p) = false := by simp; omega
        clear hp
        go_wp2_with fail
        go_roundw
        case rel => exact ⟨k + 1, by go_num, by omega, by trivial⟩
        case measure => simp [intOf]; omega
    · have e0 : decide ((k : Int) < P.length) = false := by simpa using hlt
      have e0' : decide (k < P.length) = false := by simpa using hlt
      go_wp2
      go_ret
      exact ⟨rfl, rfl⟩
/-- is a number among the first ones? -/
def inFirst (P : List Int) (k : Nat) (v : Nat) : Bool := decide ((v : Int) ∈ P.take k)
theorem inFirst_succ {P : List Int} {k : Nat} (hk : k < P.length) (v : Nat) : inFirst P (k + 1) v = (inFirst P k v || decide (P[k]?.getD 0 = (v : Int))) := by
  unfold inFirst
  rw [List.take_succ_eq_append_getElem hk, List.getElem?_eq_getElem hk]
  simp only [Option.getD_some]
  rw [Bool.eq_iff_iff]
  simp only [decide_eq_true_eq, Bool.or_eq_true, List.mem_append, List.mem_singleton]
  exact or_congr Iff.rfl ⟨fun h => h.symm, fun h => h.symm⟩
theorem inner_ok (hx : RowAt w b1 v P) (hn : P.length ≤ 100) (ht : tTree P) : Calls Tryz.prog 82 #[v] w fun e w' => ∃ g, e = .returned (.slice (some ⟨g, 0, none⟩) P.length P.length) ∧ w.heap.size ≤ g ∧ HAt w' g (bosR P.length (fun v => decide ((v : Int) ∈ P))) 4 ∧ Frm [] w w' := by
  have HR := Lib.hid (fun (W : World) (hf : Frm [] w W) => hx.frm hf (by simp))
  obtain ⟨a, cap, rfl, -, -⟩ := hx
  have HT := Lib.hid ht
  have mk := mkBosR P.length (by omega)
  clear ht
  go_enter Tryz.func82, Tryz.ntmps82
  go_upto_region 2 with fail
  generalize hW : World.alloc _ _ = W
  have hB : HAt W w.heap.size (bosR P.length (fun _ => false)) 4 := by subst hW; exact HAt.new w _ _
  have hF : Frm [] w W := by subst hW; exact (Frm.refl _ _).alloc _
  have HB := Lib.hid hB
  have HF := Lib.hid hF
  clear hW hB hF mk
  go_wp2_with fail
  go_loopw [11] (fun iv wx => ∃ k : Nat, iv = .int .i64 k ∧ k ≤ P.length ∧ HAt wx w.heap.size (bosR P.length (inFirst P k)) 4 ∧ Frm [] w wx) (fun iv _ => P.length - (intOf iv).toNat)
  case atStart => exact ⟨0, rfl, by omega, HB.out, HF.out⟩
  case round =>
    obtain ⟨k, rfl, hk, hB, hF⟩ := hrel
    have HB1 := Lib.hid hB
    have HF1 := Lib.hid hF
    clear hB hF
    by_cases hlt : k < P.length
    · have e0 : decide ((k : Int) < P.length) = true := by simpa using hlt
      have e0' : decide (k < P.length) = true := by simpa using hlt
      have l1 : (k : Int) < P.length := by omega
      have hR := HR.out _ HF1.out
      obtain ⟨a2, cap2, he, -, hcx⟩ := hR
      obtain ⟨b, off, _, rfl, hc⟩ := hcx (by omega)
      obtain ⟨rfl, rfl⟩ : a = some ⟨b, off, none⟩ ∧ cap = cap2 := by simpa using he
      have c1 := hc k hlt
      have hp := fun h1 : 1 ≤ k => HT.out.2 k h1 hlt
      have h0 := HT.out.1
      have hs := fun v => inFirst_succ hlt v
      generalize hq : P[k]?.getD 0 = p at *
      have HQ := Lib.hid hq
      have HS := Lib.hid hs
      by_cases n1 : 0 ≤ p
      · obtain ⟨j, rfl⟩ := Int.eq_ofNat_of_zero_le n1
        have hk0 : 1 ≤ k := by
          by_cases e : k = 0
          · subst e; rw [h0] at hq; omega
          · omega
        have hj := hp hk0
        have l2 : (j : Int) < P.length := by omega
        have g0 : decide (0 ≤ (j : Int)) = true := by simp
        have hb : HAt (wr.setCell ⟨w.heap.size, j, none⟩ (.bool true)) w.heap.size (bosR P.length (inFirst P (k + 1))) 4 := by
          have h3 := HB1.out.set j (.bool true)
          rwa [bosR_set (g := inFirst P (k + 1)) (by rw [HS.out]; simp) (fun i _ hne => by rw [HS.out]; simp; intro e; exact absurd e.symm (by omega))] at h3
        have HB2 := Lib.hid hb
        have HF2 := Lib.hid (HF1.out.set ⟨w.heap.size, j, none⟩ (.bool true) (.inr (Nat.le_refl _)))
        have hz := HB1.out.frozen j
        have ck := HB1.out.cell (i := j) (bosR_get _ (by omega))
        clear hc hcx he hq hs hp h0 hj hb n1
        go_wp2_with fail
        go_roundw
        case rel => exact ⟨k + 1, by go_num, by omega, HB2.out, HF2.out⟩
        case measure => simp [intOf]; omega
      · have g0 : decide (0 ≤ p) = false := by simpa using n1
        have e1 : bosR P.length (inFirst P (k + 1)) = bosR P.length (inFirst P k) := by
          unfold bosR
          apply List.map_congr_left
          intro i _
          rw [HS.out]
          simp; intro e; omega
        have HB2 := Lib.hid HB1.out
        rw [← e1] at HB2
        clear hc hcx he hq hs hp h0 e1 n1
        go_wp2_with fail
        go_roundw
        case rel => exact ⟨k + 1, by go_num, by omega, HB2.out, HF1.out⟩
        case measure => simp [intOf]; omega
    · have e0 : decide ((k : Int) < P.length) = false := by simpa using hlt
      have e0' : decide (k < P.length) = false := by simpa using hlt
      have hke : k = P.length := by omega
      have HB2 := Lib.hid HB1.out
      rw [hke] at HB2
      unfold inFirst at HB2
      simp only [List.take_length] at HB2
      clear hke
      go_wp2
      go_ret
      exact ⟨w.heap.size, rfl, Nat.le_refl _, HB2.out, HF1.out⟩
/-- the places without others below them -/
def tEnds (P : List Int) (k : Nat) : List Int := ((List.range k).filter (fun v : Nat => !decide ((v : Int) ∈ P))).map (fun v : Nat => (v : Int))
set_option maxHeartbeats 1000000 in
theorem leaves_ok (hx : RowAt w b1 v P) (hn : P.length ≤ 100) (ht : tTree P) : Calls Tryz.prog 67 #[v] w fun e w' => ∃ u, e = .returned u ∧ Own w' w.heap.size u (tEnds P P.length) ∧ Frm [] w w' := by
  obtain ⟨i0, hi, hz0, hz1, hz2⟩ := info_parts intInfo
  have HI := Lib.hid (And.intro hi (And.intro hz0 (And.intro hz1 hz2)))
  have HN := Lib.hid (inner_ok hx hn ht)
  obtain ⟨a, cap, rfl, -, -⟩ := hx
  clear ht hi hz0 hz1 hz2
  go_enter Tryz.func67, Tryz.ntmps67
  go_wp2_with fail
  refine HN.out.mono ?_
  rintro e w1 ⟨g, rfl, hg, hB, hF⟩
  have HB := Lib.hid hB
  have HF := Lib.hid hF
  have hgl := hB.lt
  have hsz := hF.size
  clear hB hF
  go_wp2_with fail
  go_loopw [3, 9] (fun vv i wr => ∃ (k : Nat) (v : Value), v = vv ∧ i = .int .i64 k ∧ k ≤ P.length ∧ Own wr w1.heap.size v (tEnds P k) ∧ Frm [] w1 wr) (fun _ i _ => P.length - (intOf i).toNat)
  case atStart => exact ⟨0, _, rfl, rfl, Nat.zero_le _, Own.nil _ _, Frm.refl _ _⟩
  case round =>
    obtain ⟨k, v, rfl, rfl, hk, hO, hF⟩ := hrel
    have hsz2 := hF.size
    by_cases hlt : k < P.length
    · have e0 : decide ((k : Int) < P.length) = true := by simpa using hlt
      have e0' : decide (k < P.length) = true := by simpa using hlt
      have l1 : (k : Int) < P.length := by omega
      have cb := (HB.out.frm hF (by simp)).cell (i := k) (bosR_get _ hlt)
      have HO := Lib.hid hO
      have HF2 := Lib.hid hF
      have HBL := Lib.hid (own_block hO)
      have hns : tEnds P (k + 1) = if decide ((k : Int) ∈ P) then tEnds P k else tEnds P k ++ [(k : Int)] := by
        unfold tEnds; rw [List.range_succ, List.filter_append, List.map_append]
        by_cases h : (k : Int) ∈ P <;> simp [h]
      have HNS := Lib.hid hns
      clear hO hF hns
      cases hd : decide ((k : Int) ∈ P) with
      | true =>
        rw [hd] at cb HNS
        clear hd
        go_wp2_with fail
        go_roundw
        case rel => exact ⟨k + 1, _, rfl, by go_num, by omega, by rw [HNS.out]; exact HO.out, HF2.out⟩
        case measure => simp [intOf]; omega
      | false =>
        rw [hd] at cb HNS
        clear hd
        have hlen : (tEnds P k).length ≤ k := by unfold tEnds; rw [List.length_map]; exact Nat.le_trans (List.length_filter_le _ _) (by simp)
        have HOW := Lib.hid (HO.out.at (n := (tEnds P k).length) rfl)
        generalize hll : (tEnds P k).length = ll at *
        go_wp2_with (at_builtin; refine wpList_append_own _ rfl _ _ 22 rfl w1.heap.size 3 i0 (.int .i64 0) 1 8 Tryz.underlying22 HI.out.1 HI.out.2.1 HI.out.2.2.1 HI.out.2.2.2 rfl (by decide) _ _ _ rfl (HOW.out.alloc _) ⟨wr.heap.size, 0, none⟩ 1 1 [.int .i64 k] rfl rfl ?c1 ?c2 ?c3 ?c4 ?c5 ?_)
        case c1 => exact cell_one_new _ _ _
        case c2 => simp [Value.oneCell']
        case c3 => unfold maxLen; omega
        case c4 => omega
        case c5 => simp; omega
        intro v' w2 hown' hgrow _
        obtain ⟨g1, g2⟩ := own_step hll hown' hgrow HBL.out HF2.out (Nat.le_refl _)
        have G1 := Lib.hid (show Own w2 w1.heap.size v' (tEnds P (k + 1)) by rw [HNS.out]; exact g1)
        have G2 := Lib.hid g2
        clear g1 g2 hown' hgrow HOW HO HF2 cb hll
        go_wp2
        go_roundw
        case rel => exact ⟨k + 1, _, rfl, by go_num, by omega, G1.out, G2.out⟩
        case measure => simp [intOf]; omega
    · have e0 : decide ((k : Int) < P.length) = false := by simpa using hlt
      have e0' : decide (k < P.length) = false := by simpa using hlt
      have hke : k = P.length := by omega
      have HK := Lib.hid hke
      have HO := Lib.hid hO
      have HF2 := Lib.hid hF
      clear hke hO hF
      go_wp2
      go_ret
      exact ⟨_, rfl, by rw [← HK.out]; exact HO.out.base hsz, HF.out.trans HF2.out⟩
end
end Go.Proofs.YteijjhahgabalaaGreat

/- Topologies: the program's own levels, and what it asks of the library. -/
namespace Go.Proofs.YteijjhahgabalaaGreat
open Go.RowKit

theorem tDeep_neg (P : List Int) (k : Nat) {x : Int} (h : x < 0) : tDeep P k x = 0 := by
  cases k with
  | zero => rfl
  | succ k => unfold tDeep; rw [if_neg (by omega)]
theorem tDeep_stable {P : List Int} (ht : tTree P) : ∀ v : Nat, v < P.length → ∀ k, v + 1 ≤ k → tDeep P k v = tDeep P (v + 1) v := by
  intro v
  induction v using Nat.strongRecOn with
  | _ v ih =>
    intro hv k hk
    obtain ⟨k, rfl⟩ : ∃ k', k = k' + 1 := ⟨k - 1, by omega⟩
    have e : ∀ k, tDeep P (k + 1) v = 1 + tDeep P k (P[v]?.getD 0) := fun k => by
      rw [tDeep, if_pos (by omega)]; simp
    rw [e, e]
    by_cases h0 : v = 0
    · subst h0; rw [ht.1, tDeep_neg _ _ (by omega), tDeep_neg _ _ (by omega)]
    · obtain ⟨h1, h2⟩ := ht.2 v (by omega) hv
      obtain ⟨p, hp⟩ := Int.eq_ofNat_of_zero_le h1
      rw [hp] at h2 ⊢
      rw [ih p (by omega) (by omega) k (by omega), ih p (by omega) (by omega) v (by omega)]
theorem tDeep_step {P : List Int} (ht : tTree P) {v : Nat} (hv : v < P.length) : tDeep P P.length v = 1 + tDeep P P.length (P[v]?.getD 0) := by
  obtain ⟨n, hn⟩ : ∃ n, P.length = n + 1 := ⟨P.length - 1, by omega⟩
  have e : tDeep P (n + 1) v = 1 + tDeep P n (P[v]?.getD 0) := by
    rw [tDeep, if_pos (by omega)]; simp
  rw [hn, e]
  congr 1
  by_cases h0 : v = 0
  · subst h0; rw [ht.1, tDeep_neg _ _ (by omega), tDeep_neg _ _ (by omega)]
  · obtain ⟨h1, h2⟩ := ht.2 v (by omega) hv
    obtain ⟨p, hp⟩ := Int.eq_ofNat_of_zero_le h1
    rw [hp] at h2 ⊢
    rw [tDeep_stable ht p (by omega) n (by omega), tDeep_stable ht p (by omega) (n + 1) (by omega)]
def levF (P : List Int) (k v : Nat) : Int := if v < k then (tDeep P P.length v : Int) else 0
section
variable {w : World} {b1 : Nat} {v : Value} {P : List Int}
theorem levels_ok (hx : RowAt w b1 v P) (hn : P.length ≤ 100) (ht : tTree P) : Calls Tryz.prog 68 #[v] w fun e w' => ∃ g, e = .returned (.slice (some ⟨g, 0, none⟩) P.length P.length) ∧ w.heap.size ≤ g ∧ HAt w' g (insR P.length (fun v => (tDeep P P.length v : Int))) 3 ∧ Frm [] w w' := by
  have HR := Lib.hid (fun (W : World) (hf : Frm [] w W) => hx.frm hf (by simp))
  obtain ⟨a, cap, rfl, -, -⟩ := hx
  have HT := Lib.hid ht
  have mk := mkInsR P.length (by omega)
  clear ht
  go_enter Tryz.func68, Tryz.ntmps68
  go_upto_region 2 with fail
  generalize hW : World.alloc _ _ = W
  have hB : HAt W w.heap.size (insR P.length (fun _ => 0)) 3 := by subst hW; exact HAt.new w _ _
  have hF : Frm [] w W := by subst hW; exact (Frm.refl _ _).alloc _
  have HB := Lib.hid hB
  have HF := Lib.hid hF
  clear hW hB hF mk
  go_wp2_with fail
  go_loopw [11] (fun iv wx => ∃ k : Nat, iv = .int .i64 k ∧ k ≤ P.length ∧ HAt wx w.heap.size (insR P.length (levF P k)) 3 ∧ Frm [] w wx) (fun iv _ => P.length - (intOf iv).toNat)
  case atStart => exact ⟨0, rfl, by omega, HB.out, HF.out⟩
  case round =>
    obtain ⟨k, rfl, hk, hB, hF⟩ := hrel
    have HB1 := Lib.hid hB
    have HF1 := Lib.hid hF
    clear hB hF
    by_cases hlt : k < P.length
    · have e0 : decide ((k : Int) < P.length) = true := by simpa using hlt
      have e0' : decide (k < P.length) = true := by simpa using hlt
      have l1 : (k : Int) < P.length := by omega
      have hR := HR.out _ HF1.out
      obtain ⟨a2, cap2, he, -, hcx⟩ := hR
      obtain ⟨b, off, hbb, rfl, hc⟩ := hcx (by omega)
      obtain ⟨rfl, rfl⟩ : a = some ⟨b, off, none⟩ ∧ cap = cap2 := by simpa using he
      have c1 := hc k hlt
      have hp := fun h1 : 1 ≤ k => HT.out.2 k h1 hlt
      have h0 := HT.out.1
      have hs := tDeep_step HT.out hlt
      have hz := HB1.out.frozen
      have ck := HB1.out.cell (i := k) (insR_get _ hlt)
      -- behind the first store
      have hb1 := HB1.out.set k (.int .i64 1)
      rw [insR_set (g := fun v => if v = k then 1 else levF P k v) (by simp) (fun i _ hne => by simp [hne])] at hb1
      have HB2 := Lib.hid hb1
      have HF2 := Lib.hid (HF1.out.set ⟨w.heap.size, k, none⟩ (.int .i64 1) (.inr (Nat.le_refl _)))
      generalize hq : P[k]?.getD 0 = p at *
      by_cases n1 : 0 ≤ p
      · obtain ⟨j, rfl⟩ := Int.eq_ofNat_of_zero_le n1
        have hk0 : 1 ≤ k := by
          by_cases e : k = 0
          · subst e; rw [h0] at hq; omega
          · omega
        have hj := hp hk0
        have l2 : (j : Int) < P.length := by omega
        have g0 : decide (0 ≤ (j : Int)) = true := by simp
        have cj := HB2.out.cell (i := j) (insR_get _ (by omega))
        have hz2 := HB2.out.frozen
        have ck2 := HB2.out.cell (i := k) (insR_get _ hlt)
        have ej : (if j = k then (1 : Int) else levF P k j) = (tDeep P P.length j : Int) := by
          rw [if_neg (by omega)]; unfold levF; rw [if_pos (by omega)]
        rw [ej] at cj
        have hd1 : tDeep P P.length j ≤ 100 := by have := tDeep_le P P.length j; omega
        have hb2 := HB2.out.set k (.int .i64 ((tDeep P P.length j : Int) + 1))
        rw [insR_set (g := levF P (k + 1)) (by unfold levF; rw [if_pos (by omega), hs]; omega) (fun i _ hne => by unfold levF; rw [if_neg hne]; by_cases h : i < k; rw [if_pos (by omega), if_pos h]; rw [if_neg (by omega), if_neg h])] at hb2
        have HB3 := Lib.hid hb2
        have HF3 := Lib.hid (HF2.out.set ⟨w.heap.size, k, none⟩ (.int .i64 ((tDeep P P.length j : Int) + 1)) (.inr (Nat.le_refl _)))
        clear hc hcx he hq hs hp h0 hj n1 hb1 hb2 ej
        generalize tDeep P P.length j = dj at *
        go_upto_region 6 with fail
        generalize (wr.setCell ⟨w.heap.size, k, none⟩ (.int .i64 1)) = W1 at *
        go_wp2_with fail
        go_roundw
        case rel => exact ⟨k + 1, by go_num, by omega, HB3.out, HF3.out⟩
        case measure => simp [intOf]; omega
      · have g0 : decide (0 ≤ p) = false := by simpa using n1
        have e1 : insR P.length (fun v => if v = k then (1 : Int) else levF P k v) = insR P.length (levF P (k + 1)) := by
          unfold insR
          apply List.map_congr_left
          intro i _
          congr 1
          show (if i = k then (1 : Int) else levF P k i) = levF P (k + 1) i
          unfold levF
          by_cases e : i = k
          · subst e; rw [if_pos rfl, if_pos (by omega), hs, tDeep_neg _ _ (by omega)]; rfl
          · rw [if_neg e]
            by_cases h : i < k
            · rw [if_pos h, if_pos (by omega)]
            · rw [if_neg h, if_neg (by omega)]
        rw [e1] at HB2
        clear hc hcx he hq hs hp h0 e1 n1 hb1
        go_wp2_with fail
        go_roundw
        case rel => exact ⟨k + 1, by go_num, by omega, HB2.out, HF2.out⟩
        case measure => simp [intOf]; omega
    · have e0 : decide ((k : Int) < P.length) = false := by simpa using hlt
      have e0' : decide (k < P.length) = false := by simpa using hlt
      have hke : k = P.length := by omega
      have HB2 := Lib.hid HB1.out
      have e1 : insR P.length (levF P k) = insR P.length (fun v => (tDeep P P.length v : Int)) := by
        unfold insR
        apply List.map_congr_left
        intro i hi
        unfold levF
        rw [if_pos (by have := List.mem_range.1 hi; omega)]
      rw [e1] at HB2
      clear hke e1
      go_wp2
      go_ret
      exact ⟨w.heap.size, rfl, Nat.le_refl _, HB2.out, HF1.out⟩
theorem index_in {E : List Int} {x : Int} (hx : RowAt w b1 v E) (hn : E.length ≤ 100) (hm : x ∈ E) : Calls Tryz.prog 84 #[v, .int .i64 x] w fun e w' => (∃ r : Nat, e = .returned (.int .i64 r)) ∧ w = w' := by
  obtain ⟨a, cap, rfl, -, hcx⟩ := hx
  have HX := Lib.hid hcx
  have HM := Lib.hid hm
  clear hcx hm
  go_enter Tryz.func84, Tryz.ntmps84
  go_wp2_with fail
  go_loopw [8] (fun iv wx => ∃ k : Nat, iv = .int .i64 k ∧ k ≤ E.length ∧ (∀ i, i < k → E[i]?.getD 0 ≠ x) ∧ w = wx) (fun iv _ => E.length - (intOf iv).toNat)
  case atStart => exact ⟨0, rfl, by omega, fun i hi => by omega, rfl⟩
  case round =>
    obtain ⟨k, rfl, hk, hj, rfl⟩ := hrel
    have HJ := Lib.hid hj
    clear hj
    by_cases hlt : k < E.length
    · have e0 : decide ((k : Int) < E.length) = true := by simpa using hlt
      have e0' : decide (k < E.length) = true := by simpa using hlt
      have l1 : (k : Int) < E.length := by omega
      obtain ⟨b, off, _, rfl, hc⟩ := HX.out (by omega)
      have c1 := hc k hlt
      clear hc
      generalize hy : E[k]?.getD 0 = y at *
      have HY := Lib.hid hy
      clear hy
      by_cases hxy : x = y
      · have d1 : (x == y) = true := by simpa using hxy
        clear hxy
        go_wp2
        go_ret
        exact ⟨⟨k, rfl⟩, rfl⟩
      · have d1 : (x == y) = false := by simpa using hxy
        have HXY := Lib.hid hxy
        clear hxy
        go_wp2_with fail
        go_roundw
        case rel =>
          refine ⟨k + 1, by go_num, by omega, fun i hi => ?_, by trivial⟩
          by_cases e : i = k
          · subst e; rw [HY.out]; exact fun e => HXY.out e.symm
          · exact HJ.out i (by omega)
        case measure => simp [intOf]; omega
    · exfalso
      obtain ⟨i, hi⟩ := List.getElem?_of_mem HM.out
      have := (List.getElem?_eq_some_iff.1 hi).1
      exact HJ.out i (by omega) (by rw [hi]; rfl)
theorem contains_in {E : List Int} {x : Int} (hx : RowAt w b1 v E) (hn : E.length ≤ 100) (hm : x ∈ E) : Calls Tryz.prog 71 #[v, .int .i64 x] w fun e w' => e = .returned (.bool true) ∧ w = w' := by
  have HI := Lib.hid (index_in hx hn hm)
  obtain ⟨a, cap, rfl, -, -⟩ := hx
  clear hm
  go_enter Tryz.func71, Tryz.ntmps71
  go_wp2_with fail
  refine HI.out.mono ?_
  rintro e w' ⟨⟨r, rfl⟩, rfl⟩
  have d1 : decide ((0 : Int) ≤ r) = true := by simp
  go_wp2
  go_ret
  exact ⟨rfl, rfl⟩
theorem check1_in {E : List Int} {x : Int} {eb : Nat} (hx : RowAt w b1 v E) (hn : E.length ≤ 100) (hm : x ∈ E) (hc : w.cell? ⟨eb, 0, none⟩ = some v) : Calls Tryz.prog 70 #[.int .i64 x, .pointer (some ⟨eb, 0, none⟩)] w fun e w' => e = .returned (.bool false) ∧ w = w' := by
  have HI := Lib.hid (contains_in hx hn hm)
  obtain ⟨a, cap, rfl, -, -⟩ := hx
  clear hm
  go_enter Tryz.func70, Tryz.ntmps70
  go_wp2_with fail
  refine HI.out.mono ?_
  rintro e w' ⟨rfl, rfl⟩
  go_wp2
  go_ret
  exact ⟨rfl, rfl⟩
end
end Go.Proofs.YteijjhahgabalaaGreat

/- Topologies: the program's own Check lets pass what may be. -/
namespace Go.Proofs.YteijjhahgabalaaGreat
open Go.RowKit

section
variable {P : Program} {md : Region.Mode} {ops : Array Oper} {Q : Exit → Act → World → Prop} {S : World → Prop}
/-- two are ready: either may come first -/
theorem held_two {i j : Nat} {o1 o2 : Oper} {fuel : Nat} {listed : Array Bool} {a : Act} {w : World} (hi : pick ops.toList i = some o1) (hj : pick ops.toList j = some o2) (hr : Region.ready md ops listed = [i, j])
    (h1 : wpList P ops (onNormal Q (fun a' w' => S w' ∧ wpAnyH P md ops Q S fuel (listed.setIfInBounds i true) a' w')) [o1] a w)
    (h2 : wpList P ops (onNormal Q (fun a' w' => S w' ∧ wpAnyH P md ops Q S fuel (listed.setIfInBounds j true) a' w')) [o2] a w) : wpAnyH P md ops Q S (fuel + 1) listed a w := by
  refine wpAnyH_all hr (by simp) fun k hk => ?_
  obtain ⟨o, hi, h⟩ : ∃ o, pick ops.toList k = some o ∧ wpList P ops (onNormal Q (fun a' w' => S w' ∧ wpAnyH P md ops Q S fuel (listed.setIfInBounds k true) a' w')) [o] a w := by
    rcases List.mem_cons.1 hk with e | hk
    · subst e; exact ⟨_, hi, h1⟩
    · have e : k = j := by simpa using hk
      subst e; exact ⟨_, hj, h2⟩
  have hi := pick_arr hi
  unfold wpOp
  simp only [hi]
  simp only [wpList] at h
  have key : ∀ a' w', onNormal Q (fun a' w' => S w' ∧ wpAnyH P md ops Q S fuel (listed.setIfInBounds k true) a' w') .normal a' w' → S w' ∧ wpAnyH P md ops Q S fuel (listed.setIfInBounds k true) a' w' := fun _ _ h => h.1 rfl
  split
  · rename_i hw
    rw [if_pos hw] at h
    rcases h with h | ⟨h1, a1, w1, h2⟩
    · left
      unfold Oper.wp at *
      generalize (execOp a.eval o).run P w = r at *
      cases r with
      | ok n w' =>
        cases n <;> simp only [Oper.upon] at h ⊢
        case value u => exact key _ _ h
        case skip => exact key _ _ h
        case defer d => exact key _ _ h
        case enter f args =>
          refine Calls.mono h fun e w'' he => ?_
          cases e with
          | returned u => exact key _ _ he
          | panicked c => exact he.2 (by simp)
          | outgrown => obtain ⟨a1, w1, h2⟩ := he; exact ⟨a1, w1, h2.2 (by simp)⟩
        case row row args => exact Rows.mono h fun u w'' he => key _ _ he
      | halt x w' =>
        cases x <;> simp only [Oper.upon] at h ⊢
        case panic u => exact h.2 (by simp)
    · exact .inr ⟨h1, a1, w1, h2.2 (by simp)⟩
  · rename_i hw
    rw [if_neg hw] at h
    exact key _ _ h
end
section
variable {w : World} {b1 : Nat} {v : Value}
theorem indexFunc_no {E T : List Int} {u : Value} {eb b2 : Nat} (hx : RowAt w b1 v T) (hy : RowAt w b2 u E) (hn : E.length ≤ 100) (hT : T.length ≤ 100) (hm : ∀ t ∈ T, t ∈ E) (hc : w.cell? ⟨eb, 0, none⟩ = some u) : Calls Tryz.prog 83 #[v, .func (.func 70) #[] #[.pointer (some ⟨eb, 0, none⟩)]] w fun e w' => e = .returned (.int .i64 (-1)) ∧ w = w' := by
  have HC := Lib.hid (fun (x : Int) (h : x ∈ T) => check1_in hy hn (hm x h) hc)
  obtain ⟨a, cap, rfl, -, hcx⟩ := hx
  have HX := Lib.hid hcx
  clear hcx hy hm hc
  go_enter Tryz.func83, Tryz.ntmps83
  go_wp2_with fail
  go_loopw [8] (fun iv wx => ∃ k : Nat, iv = .int .i64 k ∧ k ≤ T.length ∧ w = wx) (fun iv _ => T.length - (intOf iv).toNat)
  case atStart => exact ⟨0, rfl, by omega, rfl⟩
  case round =>
    obtain ⟨k, rfl, hk, rfl⟩ := hrel
    by_cases hlt : k < T.length
    · have e0 : decide ((k : Int) < T.length) = true := by simpa using hlt
      have e0' : decide (k < T.length) = true := by simpa using hlt
      have l1 : (k : Int) < T.length := by omega
      obtain ⟨b, off, _, rfl, hc⟩ := HX.out (by omega)
      have c1 := hc k hlt
      have hmem : T[k]?.getD 0 ∈ T := by rw [List.getElem?_eq_getElem hlt]; exact List.getElem_mem _
      have HCC := Lib.hid (HC.out _ hmem)
      clear hc hmem
      generalize T[k]?.getD 0 = x at *
      go_wp2_with (go_at_call 70; refine HCC.out.mono ?_; rintro e w' ⟨rfl, rfl⟩)
      go_roundw
      case rel => exact ⟨k + 1, by go_num, by omega, by trivial⟩
      case measure => simp [intOf]; omega
    · have e0 : decide ((k : Int) < T.length) = false := by simpa using hlt
      have e0' : decide (k < T.length) = false := by simpa using hlt
      go_wp2
      go_ret
      exact ⟨rfl, rfl⟩
theorem containsFunc_no {E T : List Int} {u : Value} {eb b2 : Nat} (hx : RowAt w b1 v T) (hy : RowAt w b2 u E) (hn : E.length ≤ 100) (hT : T.length ≤ 100) (hm : ∀ t ∈ T, t ∈ E) (hc : w.cell? ⟨eb, 0, none⟩ = some u) : Calls Tryz.prog 69 #[v, .func (.func 70) #[] #[.pointer (some ⟨eb, 0, none⟩)]] w fun e w' => e = .returned (.bool false) ∧ w = w' := by
  have HI := Lib.hid (indexFunc_no hx hy hn hT hm hc)
  obtain ⟨a, cap, rfl, -, -⟩ := hx
  clear hy hm hc
  go_enter Tryz.func69, Tryz.ntmps69
  go_wp2_with fail
  refine HI.out.mono ?_
  rintro e w' ⟨rfl, rfl⟩
  go_wp2
  go_ret
  exact ⟨rfl, rfl⟩
end
theorem tEnds_mem {P : List Int} {x : Int} (h : x ∈ tEnds P P.length) : ∃ v : Nat, x = v ∧ v < P.length ∧ tLeaf P v = true := by
  unfold tEnds at h
  simp at h
  obtain ⟨v, ⟨h1, h2⟩, rfl⟩ := h
  exact ⟨v, rfl, h1, by unfold tLeaf; simp [h1, h2]⟩
theorem tEnds_of {P : List Int} {x : Int} (h : tLeaf P x = true) : x ∈ tEnds P P.length := by
  unfold tLeaf at h
  simp at h
  obtain ⟨v, rfl⟩ := Int.eq_ofNat_of_zero_le h.1.1
  unfold tEnds
  simp
  exact ⟨v, ⟨by omega, h.2⟩, rfl⟩
end Go.Proofs.YteijjhahgabalaaGreat
