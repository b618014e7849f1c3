/- The contracts of package path: what a topology says of its threads, found when it is asked for first. -/
import Derived.Test.YteijjhahgabalaaGreatQ19
import Derived.Test.YteijjhahgabalaaGreatQ13
import Derived.Test.YteijjhahgabalaaGreatQ17
import Derived.Test.YteijjhahgabalaaGreatQ09
import Derived.Test.YteijjhahgabalaaGreatQ03
import Derived.Test.YteijjhahgabalaaGreatQ10
namespace Go.Proofs.YteijjhahgabalaaGreat
open Go.RowKit
/-- a leaf's number among the leaves -/
def tE (P : List Int) : List Int := tEnds P P.length
def tNd (P : List Int) (x : Int) : Nat := (tE P).idxOf x
/-- the numbers of the first k threads among those of their leaves -/
def tSlots (T : List Int) (k : Nat) : List Int := (List.range k).map fun i => ((T.take i).count (T[i]?.getD 0) : Int)
theorem tSlots_succ (T : List Int) (k : Nat) : tSlots T (k + 1) = tSlots T k ++ [((T.take k).count (T[k]?.getD 0) : Int)] := by unfold tSlots; rw [List.range_succ, List.map_append]; rfl
theorem idx_at {E : List Int} {x : Int} {k : Nat} (hk : k < E.length) (he : E[k]?.getD 0 = x) (hj : ∀ i, i < k → E[i]?.getD 0 ≠ x) : E.idxOf x = k := by
  induction E generalizing k with
  | nil => simp at hk
  | cons a E ih =>
    cases k with
    | zero =>
      have : a = x := by simpa using he
      subst this
      simp
    | succ k =>
      have h0 : a ≠ x := by simpa using hj 0 (by omega)
      rw [List.idxOf_cons]
      have : (a == x) = false := by simpa using h0
      rw [this]
      simp only [cond_false]
      rw [ih (by simpa using hk) (by simpa using he) (fun i hi => by simpa using hj (i + 1) (by omega))]
section
variable {w : World} {b1 : Nat} {v : Value}
theorem index_eq {E : List Int} {x : Int} (hx : RowAt w b1 v E) (hn : E.length ≤ 100) (hm : x ∈ E) : Calls Tryz.prog 84 #[v, .int .i64 x] w fun e w' => e = .returned (.int .i64 (E.idxOf x)) ∧ w = w' := by
  obtain ⟨a, cap, rfl, -, hcx⟩ := hx
  have HX := Lib.hid hcx
  have HM := Lib.hid hm
  have hI := fun (k : Nat) (hk : k < E.length) (he : E[k]?.getD 0 = x) hj => idx_at hk he hj
  have HI := Lib.hid hI
  clear hcx hm hI
  go_enter Tryz.func84, Tryz.ntmps84
  go_wp2_with fail
  go_loopw [8] (fun iv wx => ∃ k : Nat, iv = .int .i64 k ∧ k ≤ E.length ∧ (∀ i, i < k → E[i]?.getD 0 ≠ x) ∧ w = wx) (fun iv _ => E.length - (intOf iv).toNat)
  case atStart => exact ⟨0, rfl, by omega, fun i hi => by omega, rfl⟩
  case round =>
    obtain ⟨k, rfl, hk, hj, rfl⟩ := hrel
    have HJ := Lib.hid hj
    clear hj
    by_cases hlt : k < E.length
    · have e0 : decide ((k : Int) < E.length) = true := by simpa using hlt
      have e0' : decide (k < E.length) = true := by simpa using hlt
      have l1 : (k : Int) < E.length := by omega
      obtain ⟨b, off, _, rfl, hc⟩ := HX.out (by omega)
      have c1 := hc k hlt
      clear hc
      generalize hy : E[k]?.getD 0 = y at *
      have HY := Lib.hid hy
      clear hy
      by_cases hxy : x = y
      · have d1 : (x == y) = true := by simpa using hxy
        have HXY := Lib.hid hxy
        clear hxy
        go_wp2
        go_ret
        exact ⟨ret_int (by rw [HI.out k hlt (by rw [HY.out, HXY.out]) HJ.out]), rfl⟩
      · have d1 : (x == y) = false := by simpa using hxy
        have HXY := Lib.hid hxy
        clear hxy
        go_wp2_with fail
        go_roundw
        case rel =>
          refine ⟨k + 1, by go_num, by omega, fun i hi => ?_, by trivial⟩
          by_cases e : i = k
          · subst e; rw [HY.out]; exact fun e => HXY.out e.symm
          · exact HJ.out i (by omega)
        case measure => simp [intOf]; omega
    · exfalso
      obtain ⟨i, hi⟩ := List.getElem?_of_mem HM.out
      have := (List.getElem?_eq_some_iff.1 hi).1
      exact HJ.out i (by omega) (by rw [hi]; rfl)
theorem HAt.differ {w : World} {b b' : Nat} {vs vs' : List Value} {T T' : TypeId} (h : HAt w b vs T) (h' : HAt w b' vs' T') (ht : T ≠ T') : b ≠ b' := by
  rintro rfl
  unfold HAt at h h'
  rw [h] at h'
  have := Option.some.inj h'
  injection this with _ h2
  exact ht h2
/-- a row of ints that lies in a block of its own -/
def IR (w : World) (g : Nat) (v : Value) (zs : List Int) : Prop := ∃ cap cur, v = .slice (some ⟨g, 0, none⟩) zs.length cap ∧ HAt w g cur 3 ∧ zs.length ≤ maxLen ∧ ∀ i, i < zs.length → cur[i]? = some (.int .i64 (zs[i]?.getD 0))
theorem IR.frm {w' : World} {g : Nat} {zs : List Int} (h : IR w g v zs) {Z : List Nat} (hf : Frm Z w w') (hz : g ∉ Z) : IR w' g v zs := by
  obtain ⟨cap, cur, h1, h2, h3⟩ := h
  exact ⟨cap, cur, h1, h2.frm hf hz, h3⟩
theorem IR.row {g : Nat} {zs : List Int} (h : IR w g v zs) : RowAt w 0 v zs := by
  obtain ⟨cap, cur, h1, h2, h3, h4⟩ := h
  refine ⟨some ⟨g, 0, none⟩, cap, h1, h3, fun _ => ⟨g, 0, Nat.zero_le _, rfl, fun i hi => ?_⟩⟩
  rw [Nat.zero_add]
  exact h2.cell (h4 i hi)
theorem IR.lt {g : Nat} {zs : List Int} (h : IR w g v zs) : g < w.heap.size := by
  obtain ⟨cap, cur, h1, h2, h3⟩ := h
  exact h2.lt
theorem IR.of_rows {zs : List Int} {B : Nat} (hn : zs ≠ []) (h : w.ownsRow B 3 1 v zs.length (zs.map (Value.int .i64))) : ∃ g, B ≤ g ∧ IR w g v zs ∧ v.ownBlock = some g := by
  obtain ⟨h1, h2⟩ := h
  rcases h2 with ⟨_, h2⟩ | ⟨g, cap, cur, hv, hb, hh, hk, hc1, hc2, htk⟩
  · exact absurd (List.length_eq_zero_iff.1 h2) hn
  · refine ⟨g, hb, ⟨cap, cur.toList, hv, by unfold HAt; simpa using hh, by omega, fun i hi => ?_⟩, by rw [hv]; rfl⟩
    have h3 : (cur.toList.take (zs.length * 1))[i]? = (zs.map (Value.int .i64))[i]? := by rw [htk]
    rw [List.getElem?_take_of_lt (by omega), List.getElem?_map] at h3
    rw [h3]
    simp [hi]
theorem tE_mem {P T : List Int} (hs : TOk P T) {x : Int} (hx : x ∈ T) : x ∈ tE P := tEnds_of (hs.ends x hx)
theorem tE_le (P : List Int) : (tE P).length ≤ P.length := by
  unfold tE tEnds
  rw [List.length_map]
  exact Nat.le_trans (List.length_filter_le _ _) (by simp)
theorem Leaves_ok {b2 : Nat} {u : Value} {P T : List Int} (hx : RowAt w b1 v P) (hy : RowAt w b2 u T) (hs : TOk P T) :
    Calls Tryz.prog 113 #[.agg #[v, u]] w fun e w' => ∃ r, e = .returned r ∧ Own w' w.heap.size r (tE P) ∧ Frm [] w w' := by
  have HC := Lib.hid (fun (W : World) (hf : Frm [] w W) => pCheck_ok W (hx.frm hf (by simp)) (hy.frm hf (by simp)) hs)
  have HL := Lib.hid (fun (W : World) (hf : Frm [] w W) => leaves_ok (hx.frm hf (by simp)) (by have := hs.size.2.1; omega) hs.tree)
  obtain ⟨a, cap, rfl, h1, -⟩ := hx
  obtain ⟨a', cap', rfl, h2, -⟩ := hy
  have hB := HAt.new w #[.slice a P.length cap, .slice a' T.length cap'] 24
  have HB := Lib.hid hB
  clear hB
  go_enter Tryz.func113, Tryz.ntmps113
  go_wp2_with fail
  refine (HC.out _ ((Frm.refl _ _).alloc _)).mono ?_
  rintro e w1 ⟨rfl, hF⟩
  have HF := Lib.hid (((Frm.refl [] w).alloc (.cells #[.slice a P.length cap, .slice a' T.length cap'] 24)).trans hF)
  have k0 := (HB.out.frm hF (by simp)).cell (i := 0) rfl
  have hsz := HF.out.size
  clear hF
  go_wp2_with fail
  refine (HL.out _ HF.out).mono ?_
  rintro e w2 ⟨r, rfl, hO, hF⟩
  have HO := Lib.hid (hO.base hsz)
  have HF2 := Lib.hid (HF.out.trans hF)
  clear hO hF
  go_wp2
  go_ret
  exact ⟨r, rfl, HO.out, HF2.out⟩
theorem slice_nil (b off l c : Nat) (W : World) : (binOp .eql 22 (.slice (some ⟨b, off, none⟩) l c) (.slice none 0 0)).run Tryz.prog W = .ok (.bool false) W := by kernel_rfl
set_option maxRecDepth 100000 in
/-- a row copied -/
theorem Clone_any {zs : List Int} (h : RowAt w b1 v zs) (hn : 1 ≤ zs.length) (hm : zs.length ≤ 100) : Calls Tryz.prog 58 #[v] w fun e w' => ∃ u, e = .returned u ∧ Own w' w.heap.size u zs ∧ Frm [] w w' := by
  obtain ⟨i0, hi, hz0, hz1, hz2⟩ := info_parts intInfo
  obtain ⟨a, cap, rfl, h1, hc⟩ := h
  obtain ⟨b, off, hb, rfl, hc2⟩ := hc (by omega)
  have hnews : ∀ (j : Nat) (u : Value), (zs.map (Value.int .i64))[j]? = some u → w.cell? ((⟨b, off, none⟩ : Addr).add j) = some u := by
    intro j u hu
    have hj : j < zs.length := by have := (List.getElem?_eq_some_iff.1 hu).1; simpa using this
    have e : (⟨b, off, none⟩ : Addr).add j = ⟨b, off + j, none⟩ := by
      unfold Addr.add
      split
      · rename_i h0; subst h0; rfl
      · rfl
    rw [e, hc2 j hj]
    rw [List.getElem?_map] at hu
    rw [← hu]
    simp [hj]
  have hcell : ∀ u ∈ zs.map (Value.int .i64), u.oneCell' = true := by
    intro u hu
    obtain ⟨z, _, rfl⟩ := List.mem_map.1 hu
    simp [Value.oneCell']
  have HNW := Lib.hid hnews
  have HCL := Lib.hid hcell
  have HI := Lib.hid (And.intro hi (And.intro hz0 (And.intro hz1 hz2)))
  clear hc hc2 hnews hcell hi hz0 hz1 hz2
  have hsn := slice_nil b off zs.length cap
  have hro : (w.alloc (.cells #[] 3)).ownsRow w.heap.size 3 1 (.slice (some ⟨w.heap.size, 0, none⟩) 0 0) 0 [] := ⟨rfl, .inr ⟨w.heap.size, 0, #[], rfl, Nat.le_refl _, HAt.new w #[] 3, Nat.le_refl _, Nat.zero_le _, rfl, rfl⟩⟩
  have HRO := Lib.hid hro
  have HNA := Lib.hid (fun (j : Nat) (u : Value) (h : (zs.map (Value.int .i64))[j]? = some u) => ((Frm.refl [] w).alloc (.cells #[] 3)).cell (HNW.out j u h) (by simp))
  clear hro
  go_enter Tryz.func58, Tryz.ntmps58
  go_wp2_with (at_builtin; go_must (refine wpList_append_own _ rfl _ _ 22 rfl w.heap.size 3 i0 (.int .i64 0) 1 8 Tryz.underlying22 HI.out.1 HI.out.2.1 HI.out.2.2.1 HI.out.2.2.2 rfl (by decide) (.slice (some ⟨w.heap.size, 0, none⟩) 0 0) 0 [] rfl HRO.out ⟨b, off, none⟩ zs.length cap (zs.map (Value.int .i64)) rfl (by simp) HNA.out HCL.out (by unfold maxLen; omega) (by omega) (by rw [World.size_alloc]; omega) ?_; intro v' w1 hown' hgrow _; have HO := Lib.hid hown'; have HG := Lib.hid hgrow; clear hown' hgrow))
  go_ret
  refine ⟨v', rfl, ?_, ?_⟩
  · have := HO.out
    unfold Own
    simpa using this
  · exact ((Frm.refl [] w).alloc _).widen (S' := [w.heap.size]) (Frm.of_grown HG.out (fun k hk => .inl (by have : w.heap.size = k := Option.some.inj hk; simp [this]))) (fun x hx => .inr (by simp at hx; omega))
end
end Go.Proofs.YteijjhahgabalaaGreat

/- The document's Leaves and Node, of a topology that may be. -/
namespace Go.Proofs.YteijjhahgabalaaGreat
open Go.RowKit
section
variable {w : World} {b1 b2 : Nat} {v u : Value} {P T : List Int}
set_option maxRecDepth 100000 in
set_option maxHeartbeats 2000000 in
theorem rLeaves_ok (w : World) (hx : RowAt w b1 v P) (hy : RowAt w b2 u T) (hs : TOk P T) :
    Calls Tryz.prog 13 #[.agg #[v, u]] w fun e w' => ∃ x, e = .returned x ∧ Own w' w.heap.size x (tE P) ∧ Frm [] w w' := by
  obtain ⟨i0, hi, hz0, hz1, hz2⟩ := info_parts intInfo
  have HI := Lib.hid (And.intro hi (And.intro hz0 (And.intro hz1 hz2)))
  have HS := Lib.hid hs
  have HC := Lib.hid (fun (W : World) (hf : Frm [] w W) => rCheck_any W (hx.frm hf (by simp)) (hy.frm hf (by simp)))
  have HLF := Lib.hid (fun (W : World) (hf : Frm [] w W) (i : Int) => leaf_any W (hx.frm hf (by simp)) i)
  have hn : P.length ≤ 32 := hs.size.2.1
  obtain ⟨a, cap, rfl, -, -⟩ := hx
  obtain ⟨a', cap', rfl, -, -⟩ := hy
  clear hs hi hz0 hz1 hz2
  go_enter Tryz.func13, Tryz.ntmps13
  go_wp2_with fail
  refine (HC.out _ ((Frm.refl _ _).alloc _)).mono ?_
  rintro e w1 ⟨r, rfl, hr, hF⟩
  obtain rfl : r = 0 := hr.2 HS.out
  have HB := Lib.hid ((HAt.new w #[.slice a P.length cap, .slice a' T.length cap'] 24).frm hF (by simp))
  have HF := Lib.hid (((Frm.refl [] w).alloc (.cells #[.slice a P.length cap, .slice a' T.length cap'] 24)).trans hF)
  have hsz := HF.out.size
  have hbl := HB.out.lt
  clear hF hr
  go_wp2_with fail
  go_loopw [3, 4] (fun vv i wr => ∃ (k : Nat) (v : Value), v = vv ∧ i = .int .i64 k ∧ k ≤ P.length ∧ Own wr w1.heap.size v (tEnds P k) ∧ Frm [] w1 wr) (fun _ i _ => P.length - (intOf i).toNat)
  case atStart => exact ⟨0, _, rfl, rfl, Nat.zero_le _, Own.nil _ _, Frm.refl _ _⟩
  case round =>
    obtain ⟨k, v, rfl, rfl, hk, hO, hF⟩ := hrel
    have hsz2 := hF.size
    have c0 := (HB.out.frm hF (by simp)).cell (i := 0) rfl
    by_cases hlt : k < P.length
    · have e0 : decide ((k : Int) < P.length) = true := by simpa using hlt
      have e0' : decide (k < P.length) = true := by simpa using hlt
      have HO := Lib.hid hO
      have HF2 := Lib.hid hF
      have HBL := Lib.hid (own_block hO)
      have hns : tEnds P (k + 1) = if tLeaf P k then tEnds P k ++ [(k : Int)] else tEnds P k := by
        unfold tEnds tLeaf; rw [List.range_succ, List.filter_append, List.map_append]
        by_cases h : (k : Int) ∈ P <;> simp [h, hlt]
      have HNS := Lib.hid hns
      have HL1 := Lib.hid (HLF.out wr (HF.out.trans hF) (k : Int))
      clear hO hF hns
      cases hd : tLeaf P k with
      | false =>
        rw [hd] at HNS HL1
        clear hd
        go_wp2_with fail
        refine HL1.out.mono ?_
        rintro e w2 ⟨rfl, rfl⟩
        go_wp2_with fail
        go_roundw
        case rel => exact ⟨k + 1, _, rfl, by go_num, by omega, by rw [HNS.out]; exact HO.out, HF2.out⟩
        case measure => simp [intOf]; omega
      | true =>
        rw [hd] at HNS HL1
        clear hd
        have hlen : (tEnds P k).length ≤ k := by unfold tEnds; rw [List.length_map]; exact Nat.le_trans (List.length_filter_le _ _) (by simp)
        have HOW := Lib.hid (HO.out.at (n := (tEnds P k).length) rfl)
        generalize hll : (tEnds P k).length = ll at *
        go_wp2_with fail
        refine HL1.out.mono ?_
        rintro e w2 ⟨rfl, rfl⟩
        go_wp2_with (at_builtin; refine wpList_append_own _ rfl _ _ 22 rfl w1.heap.size 3 i0 (.int .i64 0) 1 8 Tryz.underlying22 HI.out.1 HI.out.2.1 HI.out.2.2.1 HI.out.2.2.2 rfl (by decide) _ _ _ rfl (HOW.out.alloc _) ⟨wr.heap.size, 0, none⟩ 1 1 [.int .i64 k] rfl rfl ?c1 ?c2 ?c3 ?c4 ?c5 ?_)
        case c1 => exact cell_one_new _ _ _
        case c2 => simp [Value.oneCell']
        case c3 => unfold maxLen; omega
        case c4 => omega
        case c5 => simp; omega
        intro v' w2 hown' hgrow _
        obtain ⟨g1, g2⟩ := own_step hll hown' hgrow HBL.out HF2.out (Nat.le_refl _)
        have G1 := Lib.hid (show Own w2 w1.heap.size v' (tEnds P (k + 1)) by rw [HNS.out]; exact g1)
        have G2 := Lib.hid g2
        clear g1 g2 hown' hgrow HOW HO HF2 c0 hll
        go_wp2
        go_roundw
        case rel => exact ⟨k + 1, _, rfl, by go_num, by omega, G1.out, G2.out⟩
        case measure => simp [intOf]; omega
    · have e0 : decide ((k : Int) < P.length) = false := by simpa using hlt
      have e0' : decide (k < P.length) = false := by simpa using hlt
      have hke : k = P.length := by omega
      have HK := Lib.hid hke
      have HO := Lib.hid hO
      have HF2 := Lib.hid hF
      clear hke hO hF
      go_wp2
      go_ret
      exact ⟨_, rfl, by unfold tE; rw [← HK.out]; exact HO.out.base hsz, HF.out.trans HF2.out⟩
theorem idxOf_is {E : List Int} {x : Int} {k : Nat} (hk : k < E.length) (he : E[k]?.getD 0 = x) (hb : ∀ j, j < k → E[j]?.getD 0 ≠ x) : E.idxOf x = k := by
  induction E generalizing k with
  | nil => simp at hk
  | cons y E ih =>
    cases k with
    | zero => simp at he; subst he; simp
    | succ k =>
      have h0 : y ≠ x := by have := hb 0 (by omega); simpa using this
      rw [List.idxOf_cons, show (y == x) = false by simpa using h0, cond_false, ih (k := k) (by simpa using hk) (by simpa using he) (fun j hj => by have := hb (j + 1) (by omega); simpa using this)]
theorem pHas_any (w : World) (hx : RowAt w b1 v P) (hy : RowAt w b2 u T) (i : Int) :
    Calls Tryz.prog 34 #[.agg #[v, u], .int .i64 i] w fun e w' => e = .returned (.bool (sHas T.length i)) ∧ Frm [] w w' := by
  obtain ⟨a, cap, rfl, h1, -⟩ := hx
  obtain ⟨a', cap', rfl, h2, -⟩ := hy
  unfold maxLen at h1 h2
  have k1 := (HAt.new w #[.slice a P.length cap, .slice a' T.length cap'] 24).cell (i := 1) rfl
  by_cases h1 : 0 ≤ i
  · have d1 : decide (0 ≤ i) = true := by simpa using h1
    have e : sHas T.length i = decide (i < (T.length : Int)) := by unfold sHas; simp [h1]
    rw [e]
    cases hd : decide (i < (T.length : Int))
    all_goals
      go_enter Tryz.func34, Tryz.ntmps34
      go_wp2
      go_ret
      exact ⟨rfl, (Frm.refl _ _).alloc _⟩
  · have d1 : decide (0 ≤ i) = false := by simpa using h1
    have e : sHas T.length i = false := by unfold sHas; simp; omega
    rw [e]
    go_enter Tryz.func34, Tryz.ntmps34
    go_wp2
    go_ret
    exact ⟨rfl, (Frm.refl _ _).alloc _⟩
def pNd (P T : List Int) (i : Int) : Int := if sHas T.length i then (tNd P (T[i.toNat]?.getD 0) : Int) else -1
set_option maxRecDepth 100000 in
set_option maxHeartbeats 2000000 in
theorem pNode_any (w : World) (hx : RowAt w b1 v P) (hy : RowAt w b2 u T) (hs : TOk P T) (i : Int) :
    Calls Tryz.prog 16 #[.agg #[v, u], .int .i64 i] w fun e w' => e = .returned (.int .i64 (pNd P T i)) ∧ Frm [] w w' := by
  have HF0 := Lib.hid ((Frm.refl [] w).alloc (.cells #[v, u] 24))
  have HH := Lib.hid (pHas_any _ (hx.frm HF0.out (by simp)) (hy.frm HF0.out (by simp)) i)
  have HLV := Lib.hid (fun (W : World) (hf : Frm [] w W) => rLeaves_ok W (hx.frm hf (by simp)) (hy.frm hf (by simp)) hs)
  have hB0 := HAt.new w #[v, u] 24
  have HB0 := Lib.hid hB0
  have hn : P.length ≤ 32 := hs.size.2.1
  have hle := tE_le P
  have hnot : ∀ (x : Bool) (w : World), (Op.unary .not (.bool x)).run Tryz.prog w = .ok (.bool (!x)) w := fun _ _ => rfl
  have HS := Lib.hid hs
  have HY := Lib.hid hy
  obtain ⟨a, cap, rfl, -, -⟩ := hx
  obtain ⟨a', cap', rfl, -, hcy⟩ := hy
  unfold pNd
  cases hi : sHas T.length i with
  | false =>
    rw [hi] at HH
    clear hs hcy hB0
    go_enter Tryz.func16, Tryz.ntmps16
    go_wp2_with fail
    refine HH.out.mono ?_
    rintro e w1 ⟨rfl, hF⟩
    have HF := Lib.hid (HF0.out.trans hF)
    clear hF
    go_wp2
    go_ret
    exact ⟨rfl, HF.out⟩
  | true =>
    rw [hi] at HH
    have hi' : 0 ≤ i ∧ i < (T.length : Int) := by unfold sHas at hi; simpa using hi
    obtain ⟨t, rfl⟩ := Int.eq_ofNat_of_zero_le hi'.1
    have ht : t < T.length := by omega
    obtain ⟨b', off', hb', rfl, hc'⟩ := hcy (by omega)
    have HCY := Lib.hid (fun (W : World) (hf : Frm [] w W) => hf.cell (hc' t ht) (by simp))
    have hmem : T[t]?.getD 0 ∈ tE P := tE_mem hs (by rw [List.getElem?_eq_getElem ht]; exact List.getElem_mem ht)
    have hix := List.idxOf_lt_length_iff.2 hmem
    have hix2 : (tE P)[(tE P).idxOf (T[t]?.getD 0)]?.getD 0 = T[t]?.getD 0 := by
      rw [List.getElem?_eq_getElem hix, Option.getD_some, List.getElem_idxOf]
    have HIX := Lib.hid (And.intro hix hix2)
    have l1 : (t : Int) < T.length := by omega
    simp only [Int.toNat_natCast, if_true]
    unfold tNd
    generalize hx : T[t]?.getD 0 = x at *
    clear hs hc' hB0 hmem hix hix2 hi hi' hx
    go_enter Tryz.func16, Tryz.ntmps16
    go_wp2_with fail
    refine HH.out.mono ?_
    rintro e w1 ⟨rfl, hF⟩
    have HF := Lib.hid (HF0.out.trans hF)
    have HB := Lib.hid (HB0.out.frm hF (by simp))
    have q0 := HB.out.cell (i := 0) rfl
    have q1 := HB.out.cell (i := 1) rfl
    clear hF
    go_wp2_with fail
    refine (HLV.out _ HF.out).mono ?_
    rintro e w2 ⟨lv, rfl, hO, hF⟩
    have hR := hO.row
    have HF := Lib.hid (HF.out.trans hF)
    have HB := Lib.hid (HB.out.frm hF (by simp))
    obtain ⟨a2, cap2, rfl, -, hcr⟩ := hR
    obtain ⟨b2', off2, hb2, rfl, hc2⟩ := hcr (by have := HIX.out.1; omega)
    have HC2 := Lib.hid hc2
    clear hF hO hc2 hcr q0 q1
    go_wp2_with fail
    go_loopw [6] (fun i wr => ∃ (k : Nat), i = .int .i64 k ∧ k ≤ (tE P).length ∧ (∀ j, j < k → (tE P)[j]?.getD 0 ≠ x) ∧ Frm [] w2 wr) (fun i _ => (tE P).length - (intOf i).toNat)
    case atStart => exact ⟨0, rfl, Nat.zero_le _, fun j hj => by omega, Frm.refl _ _⟩
    case round =>
      obtain ⟨k, rfl, hk, hj, hfr⟩ := hrel
      have HFR := Lib.hid hfr
      have HJ := Lib.hid hj
      have hlt : k < (tE P).length := by
        rcases Nat.lt_or_ge k (tE P).length with q | q
        · exact q
        · exact absurd HIX.out.2 (hj _ (by have := HIX.out.1; omega))
      have e0 : decide ((k : Int) < (tE P).length) = true := by simpa using hlt
      have e0' : decide (k < (tE P).length) = true := by simpa using hlt
      have l2 : (k : Int) < (tE P).length := by omega
      have ck := hfr.cell (HC2.out k hlt) (by simp)
      have k1 := (HB.out.frm hfr (by simp)).cell (i := 1) rfl
      have cy := HCY.out _ (HF.out.trans hfr)
      clear hj hfr
      by_cases he : (tE P)[k]?.getD 0 = x
      · have q1 : ((tE P)[k]?.getD 0 == x) = true := by simpa using he
        have HX := Lib.hid (idxOf_is hlt he HJ.out)
        clear he
        generalize (tE P)[k]?.getD 0 = y at *
        go_wp2_with (go_region)
        go_ret
        rw [HX.out]
        exact ⟨rfl, (HF.out.trans HFR.out).drew1⟩
      · have q1 : ((tE P)[k]?.getD 0 == x) = false := by simpa using he
        have HX := Lib.hid he
        clear he
        generalize hyy : (tE P)[k]?.getD 0 = y at *
        have HYY := Lib.hid hyy
        clear hyy
        go_wp2_with (go_region)
        go_roundw
        case rel =>
          refine ⟨k + 1, by go_num, by omega, fun j h1 => ?_, HFR.out.drew1⟩
          by_cases e : j = k
          · subst e; rw [HYY.out]; exact HX.out
          · exact HJ.out j (by omega)
        case measure => simp [intOf]; omega
end
end Go.Proofs.YteijjhahgabalaaGreat

/- The contract of path's find. -/
namespace Go.Proofs.YteijjhahgabalaaGreat
open Go.RowKit
theorem rowsInfo : (Tryz.prog.info? 22).map (fun i => (i.zero, i.size, i.bytes)) = some (some (.slice none 0 0), 1, 24) := by kernel_rfl
theorem irCell {w : World} {g : Nat} {v : Value} {zs : List Int} (h : IR w g v zs) {k : Nat} (hk : k < zs.length) : w.cell? ⟨g, k, none⟩ = some (.int .i64 (zs[k]?.getD 0)) := by
  obtain ⟨_, _, _, hh, _, hc⟩ := h
  exact hh.cell (hc k hk)
theorem take_count {T : List Int} {k : Nat} (hk : k < T.length) {y : Int} : ((T.take (k + 1)).count y : Int) = (T.take k).count y + (if T[k]?.getD 0 = y then 1 else 0) := by
  rw [List.take_add_one, List.getElem?_eq_getElem hk, List.count_append]
  simp only [Option.toList_some, Option.getD_some, List.count_cons, List.count_nil]
  by_cases e : T[k] = y
  · simp [e]
  · simp [e]
theorem tE_inj {P : List Int} {a b : Nat} (ha : a < (tE P).length) (hb : b < (tE P).length) (h : (tE P)[a]?.getD 0 = (tE P)[b]?.getD 0) : a = b := by
  have hl : ((List.range P.length).filter (fun v : Nat => !decide ((v : Int) ∈ P))).length = (tE P).length := by unfold tE tEnds; rw [List.length_map]
  have hn : ((List.range P.length).filter (fun v : Nat => !decide ((v : Int) ∈ P))).Nodup := List.nodup_range.filter _
  have hg : ∀ i (hi : i < (tE P).length), (tE P)[i]?.getD 0 = ((((List.range P.length).filter (fun v : Nat => !decide ((v : Int) ∈ P)))[i]'(by rw [hl]; exact hi) : Nat) : Int) := by
    intro i hi
    unfold tE tEnds
    rw [List.getElem?_map, List.getElem?_eq_getElem (by rw [hl]; exact hi)]
    rfl
  rw [hg a ha, hg b hb] at h
  have h2 : ((List.range P.length).filter (fun v : Nat => !decide ((v : Int) ∈ P)))[a]'(by rw [hl]; exact ha) = ((List.range P.length).filter (fun v : Nat => !decide ((v : Int) ∈ P)))[b]'(by rw [hl]; exact hb) := by omega
  exact (List.getElem_inj hn).1 h2
/-- a table while it is found, as w0 is where the rounds begin -/
structure FS (w0 wr : World) (tb gm : Nat) (vp vt vup vnode vslot : Value) (E : Nat) (U : List Value) (nn ss : List Int) (mm : Nat → Int) : Prop where
  box : HAt wr tb [vp, vt, .int .u32 0, .int .i32 1, .int .u32 0, vup, vnode, vslot, .slice (some ⟨gm, 0, none⟩) E E] 136
  mat : HAt wr gm (insR E mm) 3
  up : wr.ownsRow w0.heap.size 22 1 vup U.length U
  nod : wr.ownsRow w0.heap.size 3 1 vnode nn.length (nn.map (Value.int .i64))
  slo : wr.ownsRow w0.heap.size 3 1 vslot ss.length (ss.map (Value.int .i64))
  d1 : ∀ g, vnode.ownBlock = some g → vslot.ownBlock ≠ some g ∧ vup.ownBlock ≠ some g
  d2 : ∀ g, vslot.ownBlock = some g → vup.ownBlock ≠ some g
  lt : tb < w0.heap.size ∧ gm < w0.heap.size ∧ tb ≠ gm
  frm : Frm [tb, gm] w0 wr
theorem ownLt {w : World} {base size k : Nat} {e : TypeId} {v : Value} {xs : List Value} (h : w.ownsRow base e size v k xs) : ∀ j, v.ownBlock = some j → base ≤ j ∧ j < w.heap.size := by
  rcases h.2 with ⟨rfl, _⟩ | ⟨g, cap, cur, rfl, hg, hh, _⟩
  · intro k hk; simp [Value.ownBlock] at hk
  · intro k hk
    have : g = k := Option.some.inj hk
    subst this
    exact ⟨hg, (Array.getElem?_eq_some_iff.1 hh).1⟩
theorem rowFrm2 {w w' : World} {base size k : Nat} {e : TypeId} {v : Value} {xs : List Value} (h : w.ownsRow base e size v k xs) {S : List Nat} (hf : Frm S w w') (hs : ∀ g, v.ownBlock = some g → g ∉ S) : w'.ownsRow base e size v k xs := by
  obtain ⟨h1, h2⟩ := h
  refine ⟨h1, ?_⟩
  rcases h2 with h2 | ⟨g, cap, cur, hv, hg, hh, r⟩
  · exact .inl h2
  · refine .inr ⟨g, cap, cur, hv, hg, ?_, r⟩
    rw [hf.block g (Array.getElem?_eq_some_iff.1 hh).1 (hs g (by rw [hv]; rfl))]
    exact hh
section
variable {w0 wr w1 : World} {tb gm E : Nat} {vp vt vup vnode vslot v' : Value} {U : List Value} {nn ss : List Int} {mm : Nat → Int} {o : Obj}
/-- what an append leaves of all but its own row -/
theorem grown_frm {v : Value} (hg : (wr.alloc o).grownBy w1 v.ownBlock) : Frm v.ownBlock.toList wr w1 :=
  ((Frm.refl [] wr).alloc o |>.mono (by simp)).trans (Frm.of_grown (S := v.ownBlock.toList) hg (fun k hk => .inl (by simp [hk])) |>.mono (fun _ h => h)) 
theorem FS.nod_box (h : FS w0 wr tb gm vp vt vup vnode vslot E U nn ss mm) (hg : (wr.alloc o).grownBy w1 vnode.ownBlock) : HAt w1 tb [vp, vt, .int .u32 0, .int .i32 1, .int .u32 0, vup, vnode, vslot, .slice (some ⟨gm, 0, none⟩) E E] 136 :=
  h.box.frm (grown_frm hg) (fun hm => by have := ownLt h.nod tb (by simpa using hm); have := h.lt; omega)
theorem FS.nod_add (h : FS w0 wr tb gm vp vt vup vnode vslot E U nn ss mm) {x : Int} (hown : w1.ownsRow w0.heap.size 3 1 v' (nn.length + 1) (nn.map (Value.int .i64) ++ [.int .i64 x])) (hg : (wr.alloc o).grownBy w1 vnode.ownBlock) (hat : v'.ownBlock = vnode.ownBlock ∨ v'.ownBlock = some (wr.alloc o).heap.size) :
    FS w0 (w1.setCell ⟨tb, 6, none⟩ v') tb gm vp vt vup v' vslot E U (nn ++ [x]) ss mm := by
  have hb := h.nod_box hg
  have hf := grown_frm hg
  have hlt := h.lt
  have hst : Frm [tb] w1 (w1.setCell ⟨tb, 6, none⟩ v') := (Frm.refl _ _).set _ _ (.inl (by simp))
  have hnew : ∀ g, v'.ownBlock = some g → vnode.ownBlock = some g ∨ wr.heap.size < g := fun g hgg => by
    rcases hat with e | e
    · exact .inl (e ▸ hgg)
    · rw [e, World.size_alloc] at hgg
      have : wr.heap.size + 1 = g := Option.some.inj hgg
      exact .inr (by omega)
  refine { box := hb.set 6 v', mat := ?_, up := ?_, nod := ?_, slo := ?_, d1 := ?_, d2 := ?_, lt := h.lt, frm := ?_ }
  · exact (h.mat.frm hf (fun hm => by have := ownLt h.nod gm (by simpa using hm); omega)).other _ _ (by simp; omega)
  · exact rowFrm2 (rowFrm2 h.up hf (fun g hg hm => (h.d1 g (by simpa using hm)).2 hg)) hst (fun g hgg hm => by have := ownLt h.up g hgg; simp at hm; omega)
  · have := rowFrm2 hown hst (fun g hgg hm => by have := ownLt hown g hgg; simp at hm; omega)
    simpa using this
  · exact rowFrm2 (rowFrm2 h.slo hf (fun g hg hm => (h.d1 g (by simpa using hm)).1 hg)) hst (fun g hgg hm => by have := ownLt h.slo g hgg; simp at hm; omega)
  · intro g hgg
    rcases hnew g hgg with e | e
    · exact h.d1 g e
    · exact ⟨fun hm => by have := ownLt h.slo g hm; omega, fun hm => by have := ownLt h.up g hm; omega⟩
  · exact h.d2
  · exact (h.frm.widen hf (fun x hx => .inr (ownLt h.nod x (by simpa using hx)).1)).set _ _ (.inl (by simp))
theorem FS.slo_box (h : FS w0 wr tb gm vp vt vup vnode vslot E U nn ss mm) (hg : (wr.alloc o).grownBy w1 vslot.ownBlock) : HAt w1 tb [vp, vt, .int .u32 0, .int .i32 1, .int .u32 0, vup, vnode, vslot, .slice (some ⟨gm, 0, none⟩) E E] 136 :=
  h.box.frm (grown_frm hg) (fun hm => by have := ownLt h.slo tb (by simpa using hm); have := h.lt; omega)
theorem FS.slo_add (h : FS w0 wr tb gm vp vt vup vnode vslot E U nn ss mm) {x : Int} (hown : w1.ownsRow w0.heap.size 3 1 v' (ss.length + 1) (ss.map (Value.int .i64) ++ [.int .i64 x])) (hg : (wr.alloc o).grownBy w1 vslot.ownBlock) (hat : v'.ownBlock = vslot.ownBlock ∨ v'.ownBlock = some (wr.alloc o).heap.size) :
    FS w0 (w1.setCell ⟨tb, 7, none⟩ v') tb gm vp vt vup vnode v' E U nn (ss ++ [x]) mm := by
  have hb := h.slo_box hg
  have hf := grown_frm hg
  have hlt := h.lt
  have hst : Frm [tb] w1 (w1.setCell ⟨tb, 7, none⟩ v') := (Frm.refl _ _).set _ _ (.inl (by simp))
  have hnew : ∀ g, v'.ownBlock = some g → vslot.ownBlock = some g ∨ wr.heap.size < g := fun g hgg => by
    rcases hat with e | e
    · exact .inl (e ▸ hgg)
    · rw [e, World.size_alloc] at hgg
      have : wr.heap.size + 1 = g := Option.some.inj hgg
      exact .inr (by omega)
  refine { box := hb.set 7 v', mat := ?_, up := ?_, nod := ?_, slo := ?_, d1 := ?_, d2 := ?_, lt := h.lt, frm := ?_ }
  · exact (h.mat.frm hf (fun hm => by have := ownLt h.slo gm (by simpa using hm); omega)).other _ _ (by simp; omega)
  · exact rowFrm2 (rowFrm2 h.up hf (fun g hg hm => h.d2 g (by simpa using hm) hg)) hst (fun g hgg hm => by have := ownLt h.up g hgg; simp at hm; omega)
  · exact rowFrm2 (rowFrm2 h.nod hf (fun g hg hm => (h.d1 g hg).1 (by simpa using hm))) hst (fun g hgg hm => by have := ownLt h.nod g hgg; simp at hm; omega)
  · have := rowFrm2 hown hst (fun g hgg hm => by have := ownLt hown g hgg; simp at hm; omega)
    simpa using this
  · intro g hgg
    refine ⟨fun hm => ?_, (h.d1 g hgg).2⟩
    rcases hnew g hm with e | e
    · exact (h.d1 g hgg).1 e
    · have := ownLt h.nod g hgg; omega
  · intro g hgg hm
    rcases hnew g hgg with e | e
    · exact h.d2 g e hm
    · have := ownLt h.up g hm; omega
  · exact (h.frm.widen hf (fun x hx => .inr (ownLt h.slo x (by simpa using hx)).1)).set _ _ (.inl (by simp))
theorem FS.up_box (h : FS w0 wr tb gm vp vt vup vnode vslot E U nn ss mm) (hg : (wr.alloc o).grownBy w1 vup.ownBlock) : HAt w1 tb [vp, vt, .int .u32 0, .int .i32 1, .int .u32 0, vup, vnode, vslot, .slice (some ⟨gm, 0, none⟩) E E] 136 :=
  h.box.frm (grown_frm hg) (fun hm => by have := ownLt h.up tb (by simpa using hm); have := h.lt; omega)
theorem FS.up_add (h : FS w0 wr tb gm vp vt vup vnode vslot E U nn ss mm) {x : Value} (hown : w1.ownsRow w0.heap.size 22 1 v' (U.length + 1) (U ++ [x])) (hg : (wr.alloc o).grownBy w1 vup.ownBlock) (hat : v'.ownBlock = vup.ownBlock ∨ v'.ownBlock = some (wr.alloc o).heap.size) :
    FS w0 (w1.setCell ⟨tb, 5, none⟩ v') tb gm vp vt v' vnode vslot E (U ++ [x]) nn ss mm := by
  have hb := h.up_box hg
  have hf := grown_frm hg
  have hlt := h.lt
  have hst : Frm [tb] w1 (w1.setCell ⟨tb, 5, none⟩ v') := (Frm.refl _ _).set _ _ (.inl (by simp))
  have hnew : ∀ g, v'.ownBlock = some g → vup.ownBlock = some g ∨ wr.heap.size < g := fun g hgg => by
    rcases hat with e | e
    · exact .inl (e ▸ hgg)
    · rw [e, World.size_alloc] at hgg
      have : wr.heap.size + 1 = g := Option.some.inj hgg
      exact .inr (by omega)
  refine { box := hb.set 5 v', mat := ?_, up := ?_, nod := ?_, slo := ?_, d1 := ?_, d2 := ?_, lt := h.lt, frm := ?_ }
  · exact (h.mat.frm hf (fun hm => by have := ownLt h.up gm (by simpa using hm); omega)).other _ _ (by simp; omega)
  · have := rowFrm2 hown hst (fun g hgg hm => by have := ownLt hown g hgg; simp at hm; omega)
    simpa using this
  · exact rowFrm2 (rowFrm2 h.nod hf (fun g hg hm => (h.d1 g hg).2 (by simpa using hm))) hst (fun g hgg hm => by have := ownLt h.nod g hgg; simp at hm; omega)
  · exact rowFrm2 (rowFrm2 h.slo hf (fun g hg hm => h.d2 g hg (by simpa using hm))) hst (fun g hgg hm => by have := ownLt h.slo g hgg; simp at hm; omega)
  · intro g hgg
    refine ⟨(h.d1 g hgg).1, fun hm => ?_⟩
    rcases hnew g hm with e | e
    · exact (h.d1 g hgg).2 e
    · have := ownLt h.nod g hgg; omega
  · intro g hgg hm
    rcases hnew g hm with e | e
    · exact h.d2 g hgg e
    · have := ownLt h.slo g hgg; omega
  · exact (h.frm.widen hf (fun x hx => .inr (ownLt h.up x (by simpa using hx)).1)).set _ _ (.inl (by simp))
theorem FS.mate (h : FS w0 wr tb gm vp vt vup vnode vslot E U nn ss mm) {j : Nat} {x : Int} {mm' : Nat → Int} (h1 : mm' j = x) (h2 : ∀ k, k < E → k ≠ j → mm' k = mm k) : FS w0 (wr.setCell ⟨gm, j, none⟩ (.int .i64 x)) tb gm vp vt vup vnode vslot E U nn ss mm' := by
  have hlt := h.lt
  have hst : Frm [gm] wr (wr.setCell ⟨gm, j, none⟩ (.int .i64 x)) := (Frm.refl _ _).set _ _ (.inl (by simp))
  have hm := h.mat.set j (.int .i64 x)
  rw [insR_set h1 h2] at hm
  exact { box := h.box.frm hst (by simp; omega), mat := hm, up := rowFrm2 h.up hst (fun g hgg hm => by have := ownLt h.up g hgg; simp at hm; omega), nod := rowFrm2 h.nod hst (fun g hgg hm => by have := ownLt h.nod g hgg; simp at hm; omega), slo := rowFrm2 h.slo hst (fun g hgg hm => by have := ownLt h.slo g hgg; simp at hm; omega), d1 := h.d1, d2 := h.d2, lt := h.lt, frm := h.frm.set _ _ (.inl (by simp)) }
theorem FS.fr (h : FS w0 wr tb gm vp vt vup vnode vslot E U nn ss mm) {Z : List Nat} (hf : Frm Z wr w1) (hz : ∀ z ∈ Z, wr.heap.size ≤ z) : FS w0 w1 tb gm vp vt vup vnode vslot E U nn ss mm := by
  have hlt := h.lt
  have hsz := h.frm.size
  exact { box := h.box.frm hf (fun hm => by have := hz _ hm; omega), mat := h.mat.frm hf (fun hm => by have := hz _ hm; omega), up := rowFrm2 h.up hf (fun g hgg hm => by have := (ownLt h.up g hgg).2; have := hz _ hm; omega), nod := rowFrm2 h.nod hf (fun g hgg hm => by have := (ownLt h.nod g hgg).2; have := hz _ hm; omega), slo := rowFrm2 h.slo hf (fun g hgg hm => by have := (ownLt h.slo g hgg).2; have := hz _ hm; omega), d1 := h.d1, d2 := h.d2, lt := h.lt, frm := h.frm.widen hf (fun x hx => .inr (by have := hz x hx; omega)) }
end
end Go.Proofs.YteijjhahgabalaaGreat

/- The contract of path's find: the walk. -/
namespace Go.Proofs.YteijjhahgabalaaGreat
open Go.RowKit
/-- what a table holds when it is found -/
structure TF (w : World) (tb gp gt : Nat) (P T : List Int) : Prop where
  tab : ∃ vp vt vup vnode vslot vm : Value, ∃ gn gs gm : Nat, HAt w tb [vp, vt, .int .u32 1, .int .i32 0, .int .u32 0, vup, vnode, vslot, vm] 136 ∧ IR w gp vp P ∧ IR w gt vt T ∧
    IR w gn vnode (T.map fun x => (tNd P x : Int)) ∧ IR w gs vslot (tSlots T T.length) ∧ IR w gm vm ((tE P).map fun x => (T.count x : Int))
set_option maxRecDepth 100000 in
set_option maxHeartbeats 4000000 in
theorem find_ok {w : World} {tb gp gt : Nat} {vp vt : Value} {P T : List Int} (hs : TOk P T) (hp : IR w gp vp P) (ht : IR w gt vt T)
    (hbox : HAt w tb [vp, vt, .int .u32 0, .int .i32 1, .int .u32 0, .slice none 0 0, .slice none 0 0, .slice none 0 0, .slice none 0 0] 136) :
    Calls Tryz.prog 110 #[.pointer (some ⟨tb, 0, none⟩)] w fun e w' => e = .returned (.tuple #[]) ∧ ∃ vup vnode vslot gm U w0, FS w0 w' tb gm vp vt vup vnode vslot (tE P).length U (T.map fun x => (tNd P x : Int)) (tSlots T T.length) (fun v => (T.count ((tE P)[v]?.getD 0) : Int)) ∧ w.heap.size ≤ w0.heap.size ∧ w.heap.size ≤ gm ∧ Frm [tb] w w' ∧ IR w' gp vp P ∧ IR w' gt vt T := by
  have hs1 := hs.size
  obtain ⟨s1, s2, s3, s4⟩ := hs1
  have HL := Lib.hid (fun (W : World) (hf : Frm [] w W) => Leaves_ok (hp.frm hf (by simp)).row (ht.frm hf (by simp)).row hs)
  have hntb : tb ≠ gp ∧ tb ≠ gt := by
    obtain ⟨_, _, _, h1, _⟩ := hp
    obtain ⟨_, _, _, h2, _⟩ := ht
    exact ⟨hbox.differ h1 (by decide), hbox.differ h2 (by decide)⟩
  obtain ⟨j0, ja, jb, jc, jd⟩ := info_parts intInfo
  have HII := Lib.hid (And.intro ja (And.intro jb (And.intro jc jd)))
  obtain ⟨i0, ia, ib, ic, id_⟩ := info_parts rowsInfo
  have HIR := Lib.hid (And.intro ia (And.intro ib (And.intro ic id_)))
  have mk := mkInsR (tE P).length (by have := tE_le P; omega)
  have c0 := hbox.cell (i := 0) rfl
  have c1 := hbox.cell (i := 1) rfl
  have hEl := tE_le P
  have HB := Lib.hid hbox
  have HP := Lib.hid hp
  have HT := Lib.hid ht
  have HOK := Lib.hid hs
  have HNT := Lib.hid hntb
  have hlt0 := hbox.lt
  clear hp ht hbox hs hntb ja jb jc jd ia ib ic id_
  obtain ⟨capp, curp, evp, -⟩ := id HP.out
  obtain ⟨capt, curt, evt, -⟩ := id HT.out
  subst evp evt
  go_enter Tryz.func110, Tryz.ntmps110
  go_wp2_with fail
  refine (HL.out _ (Frm.refl _ _)).mono ?_
  rintro e w1 ⟨u, rfl, hO, hF⟩
  have hEne : tE P ≠ [] := fun h0 => by
    have hx : T[0]?.getD 0 ∈ T := by
      rw [List.getElem?_eq_getElem (by omega)]; exact List.getElem_mem (by omega)
    have := tE_mem HOK.out hx
    rw [h0] at this
    simp at this
  obtain ⟨ge, hge, hE, -⟩ := IR.of_rows hEne hO
  obtain ⟨cape, cure, eu, -⟩ := id hE
  subst eu
  have hsz1 := hF.size
  have HF1 := Lib.hid hF
  have HE1 := Lib.hid hE
  have hB1 := HB.out.frm hF (by simp)
  have hA := hB1.alloc (.cells (insR (tE P).length fun _ => 0).toArray 3)
  have k8 := hA.cell (i := 8) rfl
  have z8 := hA.frozen
  have hS := hA.set 8 (.slice (some ⟨w1.heap.size, 0, none⟩) (tE P).length (tE P).length)
  have k1 := hS.cell (i := 1) rfl
  have hM := (HAt.new w1 (insR (tE P).length fun _ => 0).toArray 3).other ⟨tb, 8, none⟩ (.slice (some ⟨w1.heap.size, 0, none⟩) (tE P).length (tE P).length) (by simp; omega)
  have hF2 : Frm [tb] w1 ((w1.alloc (.cells (insR (tE P).length fun _ => 0).toArray 3)).setCell ⟨tb, 8, none⟩ (.slice (some ⟨w1.heap.size, 0, none⟩) (tE P).length (tE P).length)) := ((Frm.refl _ _).alloc _).set _ _ (.inl (by simp))
  have hsz2 : ((w1.alloc (.cells (insR (tE P).length fun _ => 0).toArray 3)).setCell ⟨tb, 8, none⟩ (.slice (some ⟨w1.heap.size, 0, none⟩) (tE P).length (tE P).length)).heap.size = w1.heap.size + 1 := by simp [World.setCell]
  have HS := Lib.hid (And.intro hS (And.intro hM (And.intro hF2 hsz2)))
  have hgelt := hE.lt
  clear hO hF hE hB1 hA hS hM hF2 hsz2
  go_wp2_with fail
  generalize (w1.alloc (.cells (insR (tE P).length fun _ => 0).toArray 3)).setCell ⟨tb, 8, none⟩ (.slice (some ⟨w1.heap.size, 0, none⟩) (tE P).length (tE P).length) = wL at *
  obtain ⟨gm, hgm⟩ : ∃ gm, gm = w1.heap.size := ⟨_, rfl⟩
  rw [← hgm]
  rw [← hgm] at HS
  have hszL : gm < wL.heap.size := by have := HS.out.2.2.2; omega
  have hgm1 : w1.heap.size ≤ gm := by omega
  clear hgm
  have HTL := Lib.hid ((HT.out.frm HF1.out (by simp)).frm HS.out.2.2.1 (by have := HNT.out.2; simp; omega))
  have HPL := Lib.hid ((HP.out.frm HF1.out (by simp)).frm HS.out.2.2.1 (by have := HNT.out.1; simp; omega))
  have HEL := Lib.hid (HE1.out.frm HS.out.2.2.1 (by simp; omega))
  clear HB HL HE1 k8 z8 k1 c0 c1
  go_loopw [25] (fun iv wr => ∃ (k : Nat) (vup vnode vslot : Value) (U : List Value), iv = .int .i64 k ∧ k ≤ T.length ∧ U.length = k ∧ FS wL wr tb gm (.slice (some ⟨gp, 0, none⟩) P.length capp) (.slice (some ⟨gt, 0, none⟩) T.length capt) vup vnode vslot (tE P).length U ((T.take k).map fun x => (tNd P x : Int)) (tSlots T k) (fun v => ((T.take k).count ((tE P)[v]?.getD 0) : Int))) (fun iv _ => T.length - (intOf iv).toNat)
  case atStart =>
    refine ⟨0, _, _, _, [], rfl, Nat.zero_le _, rfl, { box := HS.out.1, mat := ?_, up := World.ownsRow_nil _ _ _ _, nod := World.ownsRow_nil _ _ _ _, slo := World.ownsRow_nil _ _ _ _, d1 := fun g hg => by simp [Value.ownBlock] at hg, d2 := fun g hg => by simp [Value.ownBlock] at hg, lt := by omega, frm := Frm.refl _ _ }⟩
    have := HS.out.2.1
    simpa using this
  case round =>
    obtain ⟨k, vup, vnode, vslot, U, rfl, hk, hU, hFS⟩ := hrel
    have hsz3 := hFS.frm.size
    have hng : gt ∉ [tb, gm] ∧ gp ∉ [tb, gm] ∧ ge ∉ [tb, gm] := by
      have a1 := HT.out.lt; have a2 := HP.out.lt; have a3 := HNT.out
      simp; omega
    have HNG := Lib.hid hng
    obtain ⟨mm, hmm⟩ : ∃ mm : Nat → Int, mm = fun v => ((T.take k).count ((tE P)[v]?.getD 0) : Int) := ⟨_, rfl⟩
    rw [← hmm] at hFS
    have HMM := Lib.hid hmm
    have HFS := Lib.hid hFS
    clear hng hFS hmm
    by_cases hlt : k < T.length
    · have l1 : (k : Int) < T.length := by omega
      obtain ⟨x, hx⟩ : ∃ x, x = T[k]?.getD 0 := ⟨_, rfl⟩
      have hxm : x ∈ T := by rw [hx, List.getElem?_eq_getElem hlt]; exact List.getElem_mem hlt
      have hxE := tE_mem HOK.out hxm
      have hTr := HTL.out.frm HFS.out.frm HNG.out.1
      have cT : wr.cell? ⟨gt, k, none⟩ = some (.int .i64 x) := by
        obtain ⟨_, _, _, hh, _, hc⟩ := hTr
        rw [hx]; exact hh.cell (hc k hlt)
      have HIX := Lib.hid (index_eq (HEL.out.frm HFS.out.frm HNG.out.2.2).row (by omega) hxE)
      obtain ⟨nd, hnd⟩ : ∃ nd, nd = (tE P).idxOf x := ⟨_, rfl⟩
      have hndl : nd < (tE P).length := by rw [hnd]; exact List.idxOf_lt_length_iff.2 hxE
      have hndE : (tE P)[nd]?.getD 0 = x := by rw [hnd, List.getElem?_eq_getElem (List.idxOf_lt_length_iff.2 hxE), Option.getD_some, List.getElem_idxOf (List.idxOf_lt_length_iff.2 hxE)]
      rw [← hnd] at HIX
      have HX := Lib.hid hx
      have HND := Lib.hid (And.intro hnd hndE)
      have HXM := Lib.hid (And.intro hxm hxE)
      have c6 := HFS.out.box.cell (i := 6) rfl
      have hml : ((T.take k).map fun x => (tNd P x : Int)).length = k := by simp; omega
      have hno := HFS.out.nod
      rw [hml] at hno
      have HNO := Lib.hid hno
      clear hno hTr hxm hxE hnd hndE hx
      go_wp2_with fail
      refine HIX.out.mono ?_
      rintro e w' ⟨rfl, rfl⟩
      have hkk : k ≤ 32 := by omega
      go_wp2_with (at_builtin; go_must (refine wpList_append_own_at _ rfl _ _ 22 rfl wL.heap.size 3 j0 (.int .i64 0) 1 8 Tryz.underlying22 HII.out.1 HII.out.2.1 HII.out.2.2.1 HII.out.2.2.2 rfl (by decide) vnode k _ rfl (HNO.out.alloc _) ⟨wr.heap.size, 0, none⟩ 1 1 [.int .i64 nd] rfl rfl (cell_one_new _ _ _) (by simp [Value.oneCell']) (by unfold maxLen; omega) (by omega) (by rw [World.size_alloc]; have := HFS.out.frm.size; omega) ?_; intro v2 wA hown hgrow _ hat; obtain ⟨va, vl, vc, rfl⟩ := rowSlice hown; have hbx := HFS.out.nod_box hgrow; have bc := hbx.cell (i := 6) rfl; have bz := hbx.frozen; have HA := Lib.hid (HFS.out.nod_add (x := (nd : Int)) (by rw [hml]; exact hown) hgrow hat); clear hown hgrow hat hbx))
      have hFS2 := HA.out
      rw [show ((T.take k).map fun x => (tNd P x : Int)) ++ [(nd : Int)] = ((T.take (k + 1)).map fun x => (tNd P x : Int)) from by
        rw [List.take_add_one, List.map_append, List.getElem?_eq_getElem hlt]
        have := HX.out
        rw [List.getElem?_eq_getElem hlt] at this
        simp at this
        simp [tNd, ← this, ← HND.out.1]] at hFS2
      have HF2 := Lib.hid hFS2
      clear hFS2 HA bc bz c6 cT HNO HIX HFS
      generalize wA.setCell ⟨tb, 6, none⟩ (.slice va vl vc) = W3 at *
      have HF3 := Lib.hid (HF2.out.fr (Z := []) ((Frm.refl [] W3).drew1) (by simp))
      have hmn0 : mm nd = ((T.take k).count x : Int) := by rw [HMM.out]; dsimp only; rw [HND.out.2]
      have HM0 := Lib.hid hmn0
      clear hmn0
      have c7 := HF3.out.box.cell (i := 7) rfl
      have c8 := HF3.out.box.cell (i := 8) rfl
      have cm := HF3.out.mat.cell (insR_get mm hndl)
      have hne : Nonempty (HW (fun wx => wx.cell? ⟨tb, 8, none⟩ = some (.slice (some ⟨gm, 0, none⟩) (tE P).length (tE P).length) ∧ wx.cell? ⟨gm, nd, none⟩ = some (.int .i64 (mm nd)))) := ⟨⟨_, c8, cm⟩⟩
      have hz0 : ∀ q : HW (fun wx => wx.cell? ⟨tb, 8, none⟩ = some (.slice (some ⟨gm, 0, none⟩) (tE P).length (tE P).length) ∧ wx.cell? ⟨gm, nd, none⟩ = some (.int .i64 (mm nd))), q.w.cell? ⟨tb, 8, none⟩ = some (.slice (some ⟨gm, 0, none⟩) (tE P).length (tE P).length) := fun q => q.h.1
      have hz1 : ∀ q : HW (fun wx => wx.cell? ⟨tb, 8, none⟩ = some (.slice (some ⟨gm, 0, none⟩) (tE P).length (tE P).length) ∧ wx.cell? ⟨gm, nd, none⟩ = some (.int .i64 (mm nd))), q.w.cell? ⟨gm, nd, none⟩ = some (.int .i64 (mm nd)) := fun q => q.h.2
      have l2 : (nd : Int) < (tE P).length := by omega
      have hsl : (tSlots T k).length = k := by unfold tSlots; simp
      have hso := HF3.out.slo
      rw [hsl] at hso
      have HSO := Lib.hid hso
      have CC := Lib.hid (And.intro c8 cm)
      clear hso HF2 c8 cm
      refine held_begin (S := fun wx => wx.cell? ⟨tb, 8, none⟩ = some (.slice (some ⟨gm, 0, none⟩) (tE P).length (tE P).length) ∧ wx.cell? ⟨gm, nd, none⟩ = some (.int .i64 (mm nd))) (by kernel_rfl) ?_
      generalize W3.drew = W4 at *
      refine held_row_at (fuel := 6) (is := [0, 1, 2, 3, 5, 6, 7, 8, 9, 10, 11]) (.cons rfl (.cons rfl (.cons rfl (.cons rfl (.cons rfl (.cons rfl (.cons rfl (.cons rfl (.cons rfl (.cons rfl (.cons rfl .nil))))))))))) (by kernel_rfl) (fun _ _ _ _ _ h => h) rfl (by kernel_rfl) CC.out ?_
      intro K hK
      repeat (go_big_quiet_step (fail))
      refine wpQuiet_nil (hK _ ?_)
      clear hK K
      refine held_two (i := 4) (j := 12) (fuel := 5) rfl rfl (by kernel_rfl) ?_ ?_
      · go_wp2_with fail
        refine onNormal_mk ⟨CC.out, ?_⟩
        refine held_call (fuel := 4) (i := 12) rfl (by kernel_rfl) ?_
        go_wp2_with fail
        refine onNormal_mk ⟨⟨((Frm.refl [] W4).alloc (.cells #[.int .i64 (mm nd)] 3)).cell CC.out.1 (by simp), ((Frm.refl [] W4).alloc (.cells #[.int .i64 (mm nd)] 3)).cell CC.out.2 (by simp)⟩, ?_⟩
        refine held_call (fuel := 3) (i := 13) rfl (by kernel_rfl) ?_
        go_wp2_with (at_builtin; go_must (refine wpList_append_own_at _ rfl _ _ 22 rfl wL.heap.size 3 j0 (.int .i64 0) 1 8 Tryz.underlying22 HII.out.1 HII.out.2.1 HII.out.2.2.1 HII.out.2.2.2 rfl (by decide) vslot k _ rfl (HSO.out.alloc _) ⟨W4.heap.size, 0, none⟩ 1 1 [.int .i64 (mm nd)] rfl rfl (cell_one_new _ _ _) (by simp [Value.oneCell']) (by unfold maxLen; omega) (by omega) (by rw [World.size_alloc]; have := HF3.out.frm.size; omega) ?_; intro v3 wB hown hgrow _ hat; obtain ⟨xa, xl, xc, rfl⟩ := rowSlice hown; have hbx := HF3.out.slo_box hgrow; have bc := hbx.cell (i := 7) rfl; have b8 := hbx.cell (i := 8) rfl; have bz := hbx.frozen; have bm := (HF3.out.mat.frm (grown_frm hgrow) (fun hm => by have h8 := ownLt HF3.out.slo gm (by simpa using hm); have h9 := HF3.out.lt; omega)).cell (insR_get mm hndl); have HB3 := Lib.hid (HF3.out.slo_add (x := mm nd) (by rw [hsl]; exact hown) hgrow hat); have CB := Lib.hid (And.intro b8 bm); clear hown hgrow hat hbx b8 bm))
        refine onNormal_mk ⟨CB.out, ?_⟩
        refine held_row_at (fuel := 1) (is := [14, 15]) (.cons rfl (.cons rfl .nil)) (by kernel_rfl) (fun _ _ _ _ _ h => h) rfl (by kernel_rfl) CB.out ?_
        intro K hK
        repeat (go_big_quiet_step (fail))
        refine wpQuiet_nil (hK _ ?_)
        clear hK K
        refine held_call (fuel := 0) (i := 16) rfl (by kernel_rfl) ?_
        go_wp2_with fail
        refine onNormal_mk ⟨⟨HB3.out.box.cell (i := 8) rfl, HB3.out.mat.cell (insR_get mm hndl)⟩, ?_⟩
        refine held_end (by kernel_rfl) ?_
        have hFS3 := HB3.out
        rw [show tSlots T k ++ [mm nd] = tSlots T (k + 1) from by rw [tSlots_succ, ← HX.out, HM0.out]] at hFS3
        have HF4 := Lib.hid hFS3
        clear hFS3 HB3 CB bc bz hne hz0 hz1 c7 HSO HF3
        generalize wB.setCell ⟨tb, 7, none⟩ (.slice xa xl xc) = W5 at *
        have c8 := HF4.out.box.cell (i := 8) rfl
        have cm := HF4.out.mat.cell (insR_get mm hndl)
        have cz := HF4.out.mat.frozen
        have hmb : 0 ≤ mm nd ∧ mm nd ≤ 32 := by
          rw [HM0.out]
          have := List.count_le_length (a := x) (l := T.take k)
          simp at this
          omega
        have hj1 : ((T.take (k + 1)).count ((tE P)[nd]?.getD 0) : Int) = mm nd + 1 := by rw [HND.out.2, HM0.out, take_count hlt, if_pos HX.out.symm]
        have hj2 : ∀ v, v < (tE P).length → v ≠ nd → ((T.take (k + 1)).count ((tE P)[v]?.getD 0) : Int) = mm v := fun v hv hne' => by
          have e : mm v = ((T.take k).count ((tE P)[v]?.getD 0) : Int) := by rw [HMM.out]
          rw [e, take_count hlt, if_neg (fun e => hne' (tE_inj hv hndl (by rw [HND.out.2, HX.out]; exact e.symm)))]; omega
        have HF5 := Lib.hid (HF4.out.mate (j := nd) (x := mm nd + 1) (mm' := fun v => ((T.take (k + 1)).count ((tE P)[v]?.getD 0) : Int)) hj1 hj2)
        clear hj1 hj2
        have hxr : 0 ≤ x ∧ x < (P.length : Int) := by
          have := HOK.out.ends x HXM.out.1
          unfold tLeaf at this
          simp at this
          exact ⟨this.1.1, this.1.2⟩
        go_wp2_with fail
        generalize W5.setCell ⟨gm, nd, none⟩ (.int .i64 (mm nd + 1)) = W6 at *
        clear c8 cm cz hmb HF4 CC hndl l2 hsl
        have HTR := Lib.hid HOK.out.tree
        go_loopw [6, 7] (fun uv vv wx => ∃ (y : Int) (n : Nat) (xs : List Value), vv = .int .i64 y ∧ (-1 ≤ y ∧ y < (P.length : Int)) ∧ (n : Int) + (y + 1) ≤ 40 ∧ wx.ownsRow W6.heap.size 3 1 uv n xs ∧ Frm [] W6 wx) (fun _ vv _ => (intOf vv + 1).toNat)
        case atStart => exact ⟨x, 0, [], rfl, by omega, by omega, World.ownsRow_nil _ _ _ _, Frm.refl _ _⟩
        case round =>
          obtain ⟨y, n, xs, rfl, hy, hny, hO, hF⟩ := hrel
          have HO := Lib.hid hO
          have HF := Lib.hid hF
          have hszx := hF.size
          obtain ⟨ua, ul, uc, rfl⟩ := rowSlice hO
          clear hO hF
          by_cases h0 : 0 ≤ y
          · obtain ⟨q, rfl⟩ := Int.eq_ofNat_of_zero_le h0
            have hq : q < P.length := by omega
            have dg : decide ((0 : Int) ≤ (q : Int)) = true := by simp
            have lq : (q : Int) < P.length := by omega
            obtain ⟨y2, hy2⟩ : ∃ z, z = P[q]?.getD 0 := ⟨_, rfl⟩
            have htr : -1 ≤ y2 ∧ y2 < (q : Int) := by
              obtain ⟨t0, t1⟩ := HTR.out
              rw [hy2]
              by_cases hq0 : q = 0
              · subst hq0; rw [t0]; omega
              · have := t1 q (by omega) hq; omega
            have HY2 := Lib.hid hy2
            clear hy h0 hy2
            go_wp2_with (at_builtin; go_must (refine wpList_append_own_at _ rfl _ _ 22 rfl W6.heap.size 3 j0 (.int .i64 0) 1 8 Tryz.underlying22 HII.out.1 HII.out.2.1 HII.out.2.2.1 HII.out.2.2.2 rfl (by decide) (.slice ua ul uc) n _ rfl (HO.out.alloc _) ⟨wr.heap.size, 0, none⟩ 1 1 [.int .i64 q] rfl rfl (cell_one_new _ _ _) (by simp [Value.oneCell']) (by unfold maxLen; omega) (by omega) (by rw [World.size_alloc]; omega) ?_; intro v4 wC hown hgrow _ hat; have HO2 := Lib.hid hown; have HFC := Lib.hid (HF.out.widen (grown_frm hgrow) (fun z hz => .inr (ownLt HO.out z (by simpa using hz)).1)); have p0 := (HF5.out.fr HFC.out (by simp)).box.cell (i := 0) rfl; have pq := irCell (HPL.out.frm (HF5.out.fr HFC.out (by simp)).frm HNG.out.2.1) hq; rw [← HY2.out] at pq; clear hown hgrow hat))
            go_roundw
            case rel => exact ⟨_, n + 1, _, rfl, by omega, by omega, HO2.out, HFC.out⟩
            case measure => simp [intOf]; omega
          · have dg : decide ((0 : Int) ≤ y) = false := by simpa using h0
            have HF8 := Lib.hid (HF5.out.fr HF.out (by simp))
            have c5 := HF8.out.box.cell (i := 5) rfl
            have hup := HF8.out.up
            rw [hU] at hup
            have HU8 := Lib.hid hup
            clear hup
            go_wp2_with (at_builtin; go_must (refine wpList_append_own_at _ rfl _ _ 134 rfl wL.heap.size 22 i0 (.slice none 0 0) 1 24 Tryz.underlying134 HIR.out.1 HIR.out.2.1 HIR.out.2.2.1 HIR.out.2.2.2 rfl (by decide) vup k _ rfl (HU8.out.alloc _) ⟨wr.heap.size, 0, none⟩ 1 1 [.slice ua ul uc] rfl rfl (cell_one_new _ _ _) (by simp [Value.oneCell']) (by unfold maxLen; omega) (by omega) (by rw [World.size_alloc]; have := HF8.out.frm.size; omega) ?_; intro v5 wD hown hgrow _ hat; obtain ⟨ya, yl, yc, rfl⟩ := rowSlice hown; have hbx := HF8.out.up_box hgrow; have bc := hbx.cell (i := 5) rfl; have bz := hbx.frozen; have HA := Lib.hid (HF8.out.up_add (x := .slice ua ul uc) (by rw [hU]; exact hown) hgrow hat); clear hown hgrow hat hbx))
            go_roundw
            case rel => exact ⟨k + 1, _, _, _, _, by go_num, by omega, by simp [hU], HA.out⟩
            case measure => simp [intOf]; omega
      · go_wp2_with fail
        refine onNormal_mk ⟨⟨((Frm.refl [] W4).alloc (.cells #[.int .i64 (mm nd)] 3)).cell CC.out.1 (by simp), ((Frm.refl [] W4).alloc (.cells #[.int .i64 (mm nd)] 3)).cell CC.out.2 (by simp)⟩, ?_⟩
        have c7b := ((Frm.refl [] W4).alloc (.cells #[.int .i64 (mm nd)] 3)).cell c7 (by simp)
        refine held_call (fuel := 4) (i := 4) rfl (by kernel_rfl) ?_
        go_wp2_with fail
        refine onNormal_mk ⟨⟨((Frm.refl [] W4).alloc (.cells #[.int .i64 (mm nd)] 3)).cell CC.out.1 (by simp), ((Frm.refl [] W4).alloc (.cells #[.int .i64 (mm nd)] 3)).cell CC.out.2 (by simp)⟩, ?_⟩
        clear c7b
        refine held_call (fuel := 3) (i := 13) rfl (by kernel_rfl) ?_
        go_wp2_with (at_builtin; go_must (refine wpList_append_own_at _ rfl _ _ 22 rfl wL.heap.size 3 j0 (.int .i64 0) 1 8 Tryz.underlying22 HII.out.1 HII.out.2.1 HII.out.2.2.1 HII.out.2.2.2 rfl (by decide) vslot k _ rfl (HSO.out.alloc _) ⟨W4.heap.size, 0, none⟩ 1 1 [.int .i64 (mm nd)] rfl rfl (cell_one_new _ _ _) (by simp [Value.oneCell']) (by unfold maxLen; omega) (by omega) (by rw [World.size_alloc]; have := HF3.out.frm.size; omega) ?_; intro v3 wB hown hgrow _ hat; obtain ⟨xa, xl, xc, rfl⟩ := rowSlice hown; have hbx := HF3.out.slo_box hgrow; have bc := hbx.cell (i := 7) rfl; have b8 := hbx.cell (i := 8) rfl; have bz := hbx.frozen; have bm := (HF3.out.mat.frm (grown_frm hgrow) (fun hm => by have h8 := ownLt HF3.out.slo gm (by simpa using hm); have h9 := HF3.out.lt; omega)).cell (insR_get mm hndl); have HB3 := Lib.hid (HF3.out.slo_add (x := mm nd) (by rw [hsl]; exact hown) hgrow hat); have CB := Lib.hid (And.intro b8 bm); clear hown hgrow hat hbx b8 bm))
        refine onNormal_mk ⟨CB.out, ?_⟩
        refine held_row_at (fuel := 1) (is := [14, 15]) (.cons rfl (.cons rfl .nil)) (by kernel_rfl) (fun _ _ _ _ _ h => h) rfl (by kernel_rfl) CB.out ?_
        intro K hK
        repeat (go_big_quiet_step (fail))
        refine wpQuiet_nil (hK _ ?_)
        clear hK K
        refine held_call (fuel := 0) (i := 16) rfl (by kernel_rfl) ?_
        go_wp2_with fail
        refine onNormal_mk ⟨⟨HB3.out.box.cell (i := 8) rfl, HB3.out.mat.cell (insR_get mm hndl)⟩, ?_⟩
        refine held_end (by kernel_rfl) ?_
        have hFS3 := HB3.out
        rw [show tSlots T k ++ [mm nd] = tSlots T (k + 1) from by rw [tSlots_succ, ← HX.out, HM0.out]] at hFS3
        have HF4 := Lib.hid hFS3
        clear hFS3 HB3 CB bc bz hne hz0 hz1 c7 HSO HF3
        generalize wB.setCell ⟨tb, 7, none⟩ (.slice xa xl xc) = W5 at *
        have c8 := HF4.out.box.cell (i := 8) rfl
        have cm := HF4.out.mat.cell (insR_get mm hndl)
        have cz := HF4.out.mat.frozen
        have hmb : 0 ≤ mm nd ∧ mm nd ≤ 32 := by
          rw [HM0.out]
          have := List.count_le_length (a := x) (l := T.take k)
          simp at this
          omega
        have hj1 : ((T.take (k + 1)).count ((tE P)[nd]?.getD 0) : Int) = mm nd + 1 := by rw [HND.out.2, HM0.out, take_count hlt, if_pos HX.out.symm]
        have hj2 : ∀ v, v < (tE P).length → v ≠ nd → ((T.take (k + 1)).count ((tE P)[v]?.getD 0) : Int) = mm v := fun v hv hne' => by
          have e : mm v = ((T.take k).count ((tE P)[v]?.getD 0) : Int) := by rw [HMM.out]
          rw [e, take_count hlt, if_neg (fun e => hne' (tE_inj hv hndl (by rw [HND.out.2, HX.out]; exact e.symm)))]; omega
        have HF5 := Lib.hid (HF4.out.mate (j := nd) (x := mm nd + 1) (mm' := fun v => ((T.take (k + 1)).count ((tE P)[v]?.getD 0) : Int)) hj1 hj2)
        clear hj1 hj2
        have hxr : 0 ≤ x ∧ x < (P.length : Int) := by
          have := HOK.out.ends x HXM.out.1
          unfold tLeaf at this
          simp at this
          exact ⟨this.1.1, this.1.2⟩
        go_wp2_with fail
        generalize W5.setCell ⟨gm, nd, none⟩ (.int .i64 (mm nd + 1)) = W6 at *
        clear c8 cm cz hmb HF4 CC hndl l2 hsl
        have HTR := Lib.hid HOK.out.tree
        go_loopw [6, 7] (fun uv vv wx => ∃ (y : Int) (n : Nat) (xs : List Value), vv = .int .i64 y ∧ (-1 ≤ y ∧ y < (P.length : Int)) ∧ (n : Int) + (y + 1) ≤ 40 ∧ wx.ownsRow W6.heap.size 3 1 uv n xs ∧ Frm [] W6 wx) (fun _ vv _ => (intOf vv + 1).toNat)
        case atStart => exact ⟨x, 0, [], rfl, by omega, by omega, World.ownsRow_nil _ _ _ _, Frm.refl _ _⟩
        case round =>
          obtain ⟨y, n, xs, rfl, hy, hny, hO, hF⟩ := hrel
          have HO := Lib.hid hO
          have HF := Lib.hid hF
          have hszx := hF.size
          obtain ⟨ua, ul, uc, rfl⟩ := rowSlice hO
          clear hO hF
          by_cases h0 : 0 ≤ y
          · obtain ⟨q, rfl⟩ := Int.eq_ofNat_of_zero_le h0
            have hq : q < P.length := by omega
            have dg : decide ((0 : Int) ≤ (q : Int)) = true := by simp
            have lq : (q : Int) < P.length := by omega
            obtain ⟨y2, hy2⟩ : ∃ z, z = P[q]?.getD 0 := ⟨_, rfl⟩
            have htr : -1 ≤ y2 ∧ y2 < (q : Int) := by
              obtain ⟨t0, t1⟩ := HTR.out
              rw [hy2]
              by_cases hq0 : q = 0
              · subst hq0; rw [t0]; omega
              · have := t1 q (by omega) hq; omega
            have HY2 := Lib.hid hy2
            clear hy h0 hy2
            go_wp2_with (at_builtin; go_must (refine wpList_append_own_at _ rfl _ _ 22 rfl W6.heap.size 3 j0 (.int .i64 0) 1 8 Tryz.underlying22 HII.out.1 HII.out.2.1 HII.out.2.2.1 HII.out.2.2.2 rfl (by decide) (.slice ua ul uc) n _ rfl (HO.out.alloc _) ⟨wr.heap.size, 0, none⟩ 1 1 [.int .i64 q] rfl rfl (cell_one_new _ _ _) (by simp [Value.oneCell']) (by unfold maxLen; omega) (by omega) (by rw [World.size_alloc]; omega) ?_; intro v4 wC hown hgrow _ hat; have HO2 := Lib.hid hown; have HFC := Lib.hid (HF.out.widen (grown_frm hgrow) (fun z hz => .inr (ownLt HO.out z (by simpa using hz)).1)); have p0 := (HF5.out.fr HFC.out (by simp)).box.cell (i := 0) rfl; have pq := irCell (HPL.out.frm (HF5.out.fr HFC.out (by simp)).frm HNG.out.2.1) hq; rw [← HY2.out] at pq; clear hown hgrow hat))
            go_roundw
            case rel => exact ⟨_, n + 1, _, rfl, by omega, by omega, HO2.out, HFC.out⟩
            case measure => simp [intOf]; omega
          · have dg : decide ((0 : Int) ≤ y) = false := by simpa using h0
            have HF8 := Lib.hid (HF5.out.fr HF.out (by simp))
            have c5 := HF8.out.box.cell (i := 5) rfl
            have hup := HF8.out.up
            rw [hU] at hup
            have HU8 := Lib.hid hup
            clear hup
            go_wp2_with (at_builtin; go_must (refine wpList_append_own_at _ rfl _ _ 134 rfl wL.heap.size 22 i0 (.slice none 0 0) 1 24 Tryz.underlying134 HIR.out.1 HIR.out.2.1 HIR.out.2.2.1 HIR.out.2.2.2 rfl (by decide) vup k _ rfl (HU8.out.alloc _) ⟨wr.heap.size, 0, none⟩ 1 1 [.slice ua ul uc] rfl rfl (cell_one_new _ _ _) (by simp [Value.oneCell']) (by unfold maxLen; omega) (by omega) (by rw [World.size_alloc]; have := HF8.out.frm.size; omega) ?_; intro v5 wD hown hgrow _ hat; obtain ⟨ya, yl, yc, rfl⟩ := rowSlice hown; have hbx := HF8.out.up_box hgrow; have bc := hbx.cell (i := 5) rfl; have bz := hbx.frozen; have HA := Lib.hid (HF8.out.up_add (x := .slice ua ul uc) (by rw [hU]; exact hown) hgrow hat); clear hown hgrow hat hbx))
            go_roundw
            case rel => exact ⟨k + 1, _, _, _, _, by go_num, by omega, by simp [hU], HA.out⟩
            case measure => simp [intOf]; omega
    · have hke : k = T.length := by omega
      subst hke
      have hFS9 := HFS.out
      rw [HMM.out] at hFS9
      simp only [List.take_length] at hFS9
      have HF9 := Lib.hid hFS9
      have HFW := Lib.hid (HF1.out.mono (S' := [tb]) (by simp) |>.trans HS.out.2.2.1)
      clear hFS9
      go_wp2_with fail
      go_end0
      have hfr := HF9.out.frm
      have hfw : Frm [tb] w wr := HFW.out.widen hfr (fun z hz => by
        simp at hz
        rcases hz with e | e
        · exact .inl (by simp [e])
        · exact .inr (by omega))
      refine ⟨rfl, vup, vnode, vslot, gm, U, wL, HF9.out, by omega, by omega, hfw, HPL.out.frm hfr HNG.out.2.1, HTL.out.frm hfr HNG.out.1⟩
end Go.Proofs.YteijjhahgabalaaGreat

/- The contracts of path.Table. -/
namespace Go.Proofs.YteijjhahgabalaaGreat
open Go.RowKit
/-- blocks that turn while a lock is used: spots, and the arena's -/
def Mut (w : World) (Z : List Nat) : Prop := ∀ z ∈ Z, ∃ vs T, HAt w z vs T ∧ (T = 138 ∨ T = 93 ∨ T = 158)
theorem Mut.not {w : World} {Z : List Nat} (h : Mut w Z) {b : Nat} {vs : List Value} {T : TypeId} (hb : HAt w b vs T) (h1 : T ≠ 138 := by decide) (h2 : T ≠ 93 := by decide) (h3 : T ≠ 158 := by decide) : b ∉ Z := by
  intro hm
  obtain ⟨us, U, hu, ht⟩ := h b hm
  refine absurd rfl (hb.differ hu (fun e => ?_))
  subst e
  rcases ht with e | e | e
  · exact h1 e
  · exact h2 e
  · exact h3 e
/-- a table that nobody has asked yet -/
def TbN (w : World) (tb : Nat) (P T : List Int) : Prop := ∃ (vp vt : Value) (gp gt : Nat), HAt w tb [vp, vt, .int .u32 0, .int .i32 0, .int .u32 0, .slice none 0 0, .slice none 0 0, .slice none 0 0, .slice none 0 0] 136 ∧ IR w gp vp P ∧ IR w gt vt T
/-- a table that is found -/
def TbF (w : World) (tb : Nat) (P T : List Int) : Prop := ∃ (vp vt vup vnode vslot vm : Value) (gt gn gs gm : Nat), HAt w tb [vp, vt, .int .u32 1, .int .i32 0, .int .u32 0, vup, vnode, vslot, vm] 136 ∧ IR w gt vt T ∧
  IR w gn vnode (T.map fun x => (tNd P x : Int)) ∧ IR w gs vslot (tSlots T T.length) ∧ IR w gm vm ((tE P).map fun x => (T.count x : Int))
theorem IR.stay {w w' : World} {g : Nat} {v : Value} {zs : List Int} (h : IR w g v zs) {Z : List Nat} (hf : Frm Z w w') (hz : Mut w Z) : IR w' g v zs := by
  have h0 := h
  obtain ⟨_, _, _, hh, _⟩ := h
  exact h0.frm hf (hz.not hh)
theorem TbF.stay {w w' : World} {tb : Nat} {P T : List Int} (h : TbF w tb P T) {Z : List Nat} (hf : Frm Z w w') (hz : Mut w Z) : TbF w' tb P T := by
  obtain ⟨vp, vt, vup, vnode, vslot, vm, gt, gn, gs, gm, h1, h2, h3, h4, h5⟩ := h
  exact ⟨vp, vt, vup, vnode, vslot, vm, gt, gn, gs, gm, h1.frm hf (hz.not h1), h2.stay hf hz, h3.stay hf hz, h4.stay hf hz, h5.stay hf hz⟩
theorem TbN.stay {w w' : World} {tb : Nat} {P T : List Int} (h : TbN w tb P T) {Z : List Nat} (hf : Frm Z w w') (hz : Mut w Z) : TbN w' tb P T := by
  obtain ⟨vp, vt, gp, gt, h1, h2, h3⟩ := h
  exact ⟨vp, vt, gp, gt, h1.frm hf (hz.not h1), h2.stay hf hz, h3.stay hf hz⟩
theorem Mut.nil (w : World) : Mut w [] := fun z hz => by simp at hz
section
variable {w : World} {tb : Nat} {P T : List Int}
theorem found_again (h : TbF w tb P T) : Calls Tryz.prog 103 #[.pointer (some ⟨tb, 0, none⟩)] w fun e w' => e = .returned (.pointer (some ⟨tb, 0, none⟩)) ∧ w = w' := by
  obtain ⟨vp, vt, vup, vnode, vslot, vm, gt, gn, gs, gm, h1, -⟩ := h
  have HD := Lib.hid (fun fv => once_done ⟨tb, 2, none⟩ fv w (h1.cell (i := 2) rfl))
  have hmf : ∀ (fn : Fn) (first cap : Array Value) (w : World), (Instr.makeFunc fn first cap).run Tryz.prog w = .ok (.func fn first cap) w := fun _ _ _ _ => rfl
  clear h1
  go_enter Tryz.func103, Tryz.ntmps103
  go_wp2_with (go_at_call 109; refine (HD.out _).mono ?_; rintro e w' ⟨rfl, rfl⟩)
  go_ret
  exact ⟨rfl, rfl⟩
theorem found_first (h : TbN w tb P T) (hs : TOk P T) : Calls Tryz.prog 103 #[.pointer (some ⟨tb, 0, none⟩)] w fun e w' => e = .returned (.pointer (some ⟨tb, 0, none⟩)) ∧ TbF w' tb P T ∧ Frm [tb] w w' := by
  obtain ⟨vp, vt, gp, gt, h1, h2, h3⟩ := h
  have hst : Frm [tb] w (w.setCell ⟨tb, 3, none⟩ (.int .i32 1)) := (Frm.refl _ _).set _ _ (.inl (by simp))
  have hn : gp ∉ [tb] ∧ gt ∉ [tb] := by
    obtain ⟨_, _, _, a1, _⟩ := h2
    obtain ⟨_, _, _, a2, _⟩ := h3
    have := h1.differ a1 (by decide); have := h1.differ a2 (by decide)
    simp; omega
  have hfind := find_ok hs (h2.frm hst hn.1) (h3.frm hst hn.2) (h1.set 3 (.int .i32 1))
  have hO := once_first tb (fun w2 => ∃ vup vnode vslot gm U w0, FS w0 w2 tb gm vp vt vup vnode vslot (tE P).length U (T.map fun x => (tNd P x : Int)) (tSlots T T.length) (fun v => (T.count ((tE P)[v]?.getD 0) : Int)) ∧ IR w2 gt vt T ∧ Frm [tb] w w2) w (h1.cell (i := 2) rfl) (h1.cell (i := 3) rfl) (h1.frozen 3) (hfind.mono fun e w' ⟨e1, vup, vnode, vslot, gm, U, w0, hFS, _, _, hF, _, hT⟩ => ⟨e1, ⟨hFS.box.cell (i := 2) rfl, hFS.box.cell (i := 3) rfl, hFS.box.frozen 2, hFS.box.frozen 3⟩, vup, vnode, vslot, gm, U, w0, hFS, hT, hst.trans hF⟩)
  have HO := Lib.hid hO
  have HOK := Lib.hid hs
  have hmf : ∀ (fn : Fn) (first cap : Array Value) (w : World), (Instr.makeFunc fn first cap).run Tryz.prog w = .ok (.func fn first cap) w := fun _ _ _ _ => rfl
  clear hO hfind hst h1 h2 h3 hn hs
  go_enter Tryz.func103, Tryz.ntmps103
  go_wp2_with (go_at_call 109; refine HO.out.mono ?_; rintro e w' ⟨rfl, hQ⟩; have HQ := Lib.hid hQ; clear hQ)
  go_ret
  obtain ⟨w2, ⟨vup, vnode, vslot, gm, U, w0, hFS, hT, hF⟩, rfl⟩ := HQ.out
  obtain ⟨s1, s2, s3, s4⟩ := HOK.out.size
  have hEne : tE P ≠ [] := fun h0 => by
    have hx : T[0]?.getD 0 ∈ T := by
      rw [List.getElem?_eq_getElem (by omega)]; exact List.getElem_mem (by omega)
    have := tE_mem HOK.out hx
    rw [h0] at this
    simp at this
  have hEl := tE_le P
  have hb := (hFS.box.drew1.set 2 (.int .u32 1)).set 3 (.int .i32 0)
  have hst : Frm [tb] w2 ((w2.drew.setCell ⟨tb, 2, none⟩ (.int .u32 1)).setCell ⟨tb, 3, none⟩ (.int .i32 0)) := (((Frm.refl _ _).drew1).set _ _ (.inl (by simp))).set _ _ (.inl (by simp))
  have hn1 : (T.map fun x => (tNd P x : Int)) ≠ [] := by
    intro h0
    have := congrArg List.length h0
    rw [List.length_map, List.length_nil] at this
    omega
  have hn2 : tSlots T T.length ≠ [] := by
    intro h0
    have := congrArg List.length h0
    unfold tSlots at this
    rw [List.length_map, List.length_range, List.length_nil] at this
    omega
  obtain ⟨gn, hgn, hN, -⟩ := IR.of_rows hn1 hFS.nod
  obtain ⟨gs, hgs, hS, -⟩ := IR.of_rows hn2 hFS.slo
  have hlt := hFS.lt
  have hgt : gt ∉ [tb] := by
    obtain ⟨_, _, _, a2, _⟩ := hT
    have := hFS.box.differ a2 (by decide)
    simp; omega
  have hM : IR w2 gm (.slice (some ⟨gm, 0, none⟩) (tE P).length (tE P).length) ((tE P).map fun x => (T.count x : Int)) := by
    refine ⟨(tE P).length, _, by simp, hFS.mat, by unfold maxLen; simp; omega, fun i hi => ?_⟩
    have hi' : i < (tE P).length := by simpa using hi
    rw [insR_get _ hi']
    simp [hi']
  exact ⟨rfl, ⟨vp, vt, vup, vnode, vslot, _, gt, gn, gs, gm, hb, hT.frm hst hgt, hN.frm hst (by simp; omega), hS.frm hst (by simp; omega), hM.frm hst (by simp; omega)⟩, hF.trans hst⟩
theorem tThreads_n (h : TbN w tb P T) : Calls Tryz.prog 86 #[.pointer (some ⟨tb, 0, none⟩)] w fun e w' => e = .returned (.int .i64 T.length) ∧ w = w' := by
  obtain ⟨vp, vt, gp, gt, h1, h2, ⟨cap, cur, rfl, -⟩⟩ := h
  have c1 := h1.cell (i := 1) rfl
  clear h1 h2
  go_enter Tryz.func86, Tryz.ntmps86
  go_wp2
  go_ret
  exact ⟨rfl, rfl⟩
theorem tThreads_f (h : TbF w tb P T) : Calls Tryz.prog 86 #[.pointer (some ⟨tb, 0, none⟩)] w fun e w' => e = .returned (.int .i64 T.length) ∧ w = w' := by
  obtain ⟨vp, vt, vup, vnode, vslot, vm, gt, gn, gs, gm, h1, ⟨cap, cur, rfl, -⟩, -⟩ := h
  have c1 := h1.cell (i := 1) rfl
  clear h1
  go_enter Tryz.func86, Tryz.ntmps86
  go_wp2
  go_ret
  exact ⟨rfl, rfl⟩
theorem tHas_f (h : TbF w tb P T) {i : Nat} (hi : i < T.length) : Calls Tryz.prog 104 #[.pointer (some ⟨tb, 0, none⟩), .int .i64 i] w fun e w' => e = .returned (.bool true) ∧ w = w' := by
  have HT := Lib.hid (tThreads_f h)
  have d1 : decide ((0 : Int) ≤ (i : Int)) = true := by simp
  have d2 : decide ((i : Int) < (T.length : Int)) = true := by simpa using hi
  have d3 : decide (i < T.length) = true := by simpa using hi
  clear h hi
  go_enter Tryz.func104, Tryz.ntmps104
  go_wp2_with fail
  refine HT.out.mono ?_
  rintro e w' ⟨rfl, rfl⟩
  go_wp2
  go_ret
  exact ⟨rfl, rfl⟩
theorem tNode_f (h : TbF w tb P T) {i : Nat} (hi : i < T.length) : Calls Tryz.prog 94 #[.pointer (some ⟨tb, 0, none⟩), .int .i64 i] w fun e w' => e = .returned (.int .i64 (tNd P (T[i]?.getD 0))) ∧ w = w' := by
  have HH := Lib.hid (tHas_f h hi)
  have HF := Lib.hid (found_again h)
  obtain ⟨vp, vt, vup, vnode, vslot, vm, gt, gn, gs, gm, h1, -, h3, -⟩ := h
  have ci := irCell h3 (k := i) (by simpa using hi)
  have ei : (T.map fun x => (tNd P x : Int))[i]?.getD 0 = (tNd P (T[i]?.getD 0) : Int) := by simp [hi]
  rw [ei] at ci
  obtain ⟨cap, cur, rfl, -⟩ := h3
  have c6 := h1.cell (i := 6) rfl
  rw [List.length_map] at c6
  have l1 : (i : Int) < T.length := by omega
  have hnot : ∀ (x : Bool) (w : World), (Op.unary .not (.bool x)).run Tryz.prog w = .ok (.bool (!x)) w := fun _ _ => rfl
  generalize (tNd P (T[i]?.getD 0) : Int) = y at *
  clear h1 ei hi
  go_enter Tryz.func94, Tryz.ntmps94
  go_wp2_with fail
  refine HH.out.mono ?_
  rintro e w' ⟨rfl, rfl⟩
  go_wp2_with fail
  refine HF.out.mono ?_
  rintro e w' ⟨rfl, rfl⟩
  go_wp2
  go_ret
  exact ⟨rfl, rfl⟩
theorem tSlot_f (h : TbF w tb P T) {i : Nat} (hi : i < T.length) : Calls Tryz.prog 92 #[.pointer (some ⟨tb, 0, none⟩), .int .i64 i] w fun e w' => e = .returned (.int .i64 ((T.take i).count (T[i]?.getD 0) : Nat)) ∧ w = w' := by
  have HH := Lib.hid (tHas_f h hi)
  have HF := Lib.hid (found_again h)
  obtain ⟨vp, vt, vup, vnode, vslot, vm, gt, gn, gs, gm, h1, -, -, h3, -⟩ := h
  have hsl : (tSlots T T.length).length = T.length := by unfold tSlots; simp
  have ci := irCell h3 (k := i) (by omega)
  have ei : (tSlots T T.length)[i]?.getD 0 = (((T.take i).count (T[i]?.getD 0) : Nat) : Int) := by unfold tSlots; simp [hi]
  rw [ei] at ci
  obtain ⟨cap, cur, rfl, -⟩ := h3
  have c7 := h1.cell (i := 7) rfl
  rw [hsl] at c7
  have l1 : (i : Int) < T.length := by omega
  have hnot : ∀ (x : Bool) (w : World), (Op.unary .not (.bool x)).run Tryz.prog w = .ok (.bool (!x)) w := fun _ _ => rfl
  generalize (((T.take i).count (T[i]?.getD 0) : Nat) : Int) = y at *
  clear h1 ei hi hsl
  go_enter Tryz.func92, Tryz.ntmps92
  go_wp2_with fail
  refine HH.out.mono ?_
  rintro e w' ⟨rfl, rfl⟩
  go_wp2_with fail
  refine HF.out.mono ?_
  rintro e w' ⟨rfl, rfl⟩
  go_wp2
  go_ret
  exact ⟨rfl, rfl⟩
theorem tNodes_f (h : TbF w tb P T) : Calls Tryz.prog 87 #[.pointer (some ⟨tb, 0, none⟩)] w fun e w' => e = .returned (.int .i64 (tE P).length) ∧ w = w' := by
  have HF := Lib.hid (found_again h)
  obtain ⟨vp, vt, vup, vnode, vslot, vm, gt, gn, gs, gm, h1, -, -, -, ⟨cap, cur, rfl, -⟩⟩ := h
  have c8 := h1.cell (i := 8) rfl
  rw [List.length_map] at c8
  clear h1
  go_enter Tryz.func87, Tryz.ntmps87
  go_wp2_with fail
  refine HF.out.mono ?_
  rintro e w' ⟨rfl, rfl⟩
  go_wp2
  go_ret
  exact ⟨rfl, rfl⟩
theorem tNodes_n (h : TbN w tb P T) (hs : TOk P T) : Calls Tryz.prog 87 #[.pointer (some ⟨tb, 0, none⟩)] w fun e w' => e = .returned (.int .i64 (tE P).length) ∧ TbF w' tb P T ∧ Frm [tb] w w' := by
  have HF := Lib.hid (found_first h hs)
  clear h hs
  go_enter Tryz.func87, Tryz.ntmps87
  go_wp2_with fail
  refine HF.out.mono ?_
  rintro e w' ⟨rfl, hT, hFr⟩
  have HQ := Lib.hid (And.intro hT hFr)
  obtain ⟨vp, vt, vup, vnode, vslot, vm, gt, gn, gs, gm, h1, -, -, -, ⟨cap, cur, rfl, -⟩⟩ := hT
  have c8 := h1.cell (i := 8) rfl
  rw [List.length_map] at c8
  clear h1 hFr
  go_wp2
  go_ret
  exact ⟨rfl, HQ.out⟩
theorem tMates_f (h : TbF w tb P T) {v : Nat} (hv : v < (tE P).length) : Calls Tryz.prog 88 #[.pointer (some ⟨tb, 0, none⟩), .int .i64 v] w fun e w' => e = .returned (.int .i64 (T.count ((tE P)[v]?.getD 0) : Nat)) ∧ w = w' := by
  have HN := Lib.hid (tNodes_f h)
  have HF := Lib.hid (found_again h)
  obtain ⟨vp, vt, vup, vnode, vslot, vm, gt, gn, gs, gm, h1, -, -, -, h3⟩ := h
  have ci := irCell h3 (k := v) (by simpa using hv)
  have ei : ((tE P).map fun x => (T.count x : Int))[v]?.getD 0 = ((T.count ((tE P)[v]?.getD 0) : Nat) : Int) := by simp [hv]
  rw [ei] at ci
  obtain ⟨cap, cur, rfl, -⟩ := h3
  have c8 := h1.cell (i := 8) rfl
  rw [List.length_map] at c8
  have l1 : (v : Int) < (tE P).length := by omega
  have d1 : decide ((v : Int) < 0) = false := by simp
  have d2 : decide (((tE P).length : Int) ≤ (v : Int)) = false := by simp; omega
  have d3 : decide ((tE P).length ≤ v) = false := by simp; omega
  generalize ((T.count ((tE P)[v]?.getD 0) : Nat) : Int) = y at *
  clear h1 ei hv
  go_enter Tryz.func88, Tryz.ntmps88
  go_wp2_with fail
  refine HN.out.mono ?_
  rintro e w' ⟨rfl, rfl⟩
  go_wp2_with fail
  refine HF.out.mono ?_
  rintro e w' ⟨rfl, rfl⟩
  go_wp2
  go_ret
  exact ⟨rfl, rfl⟩
end
end Go.Proofs.YteijjhahgabalaaGreat

/- The contract of path.New. -/
namespace Go.Proofs.YteijjhahgabalaaGreat
open Go.RowKit
set_option maxRecDepth 100000 in
theorem pathNew_ok {w : World} {b1 b2 : Nat} {v u : Value} {P T : List Int} (hx : RowAt w b1 v P) (hy : RowAt w b2 u T) (hs : TOk P T) :
    Calls Tryz.prog 39 #[.agg #[v, u]] w fun e w' => ∃ tb, e = .returned (.tuple #[.pointer (some ⟨tb, 0, none⟩), .int .i64 0]) ∧ w.heap.size ≤ tb ∧ TbN w' tb P T ∧ Frm [] w w' := by
  obtain ⟨s1, s2, s3, s4⟩ := hs.size
  have HC := Lib.hid (fun (W : World) (hf : Frm [] w W) => pCheck_ok W (hx.frm hf (by simp)) (hy.frm hf (by simp)) hs)
  have HX := Lib.hid (fun (W : World) (hf : Frm [] w W) => Clone_any (hx.frm hf (by simp)) s1 (by omega))
  have HY := Lib.hid (fun (W : World) (hf : Frm [] w W) => Clone_any (hy.frm hf (by simp)) s3 (by omega))
  have hB := HAt.new w #[v, u] 24
  have HB := Lib.hid hB
  have HF0 := Lib.hid ((Frm.refl [] w).alloc (.cells #[v, u] 24))
  obtain ⟨a, cap, rfl, h1, -⟩ := hx
  obtain ⟨a', cap', rfl, h2, -⟩ := hy
  clear hB hs
  go_enter Tryz.func39, Tryz.ntmps39
  go_wp2_with fail
  refine (HC.out _ HF0.out).mono ?_
  rintro e w1 ⟨rfl, hF⟩
  have HF1 := Lib.hid (HF0.out.trans hF)
  have HB1 := Lib.hid (HB.out.frm hF (by simp))
  clear hF
  have hne : Nonempty (HW (fun wx => Frm [] w1 wx)) := ⟨⟨w1, Frm.refl _ _⟩⟩
  have hz0 : ∀ q : HW (fun wx => Frm [] w1 wx), q.w.cell? ⟨w.heap.size, 0, none⟩ = some (.slice a P.length cap) := fun q => (HB1.out.frm q.h (by simp)).cell (i := 0) rfl
  have hz1 : ∀ q : HW (fun wx => Frm [] w1 wx), q.w.cell? ⟨w.heap.size, 1, none⟩ = some (.slice a' T.length cap') := fun q => (HB1.out.frm q.h (by simp)).cell (i := 1) rfl
  go_wp2_with fail
  refine held_begin (S := fun wx => Frm [] w1 wx) (by kernel_rfl) ?_
  refine held_row_at (fuel := 7) (is := [0, 1, 3, 4]) (.cons rfl (.cons rfl (.cons rfl (.cons rfl .nil)))) (by kernel_rfl) (fun _ _ _ _ _ h => h) rfl (by kernel_rfl) (Frm.refl _ _).drew1 ?_
  intro K hK
  repeat (go_big_quiet_step (fail))
  refine wpQuiet_nil (hK _ ?_)
  clear hK K
  refine held_call (fuel := 6) (i := 2) rfl (by kernel_rfl) ?_
  go_wp2_with fail
  refine (HX.out _ (HF1.out.drew1)).mono ?_
  rintro e w2 ⟨p, rfl, hO, hF⟩
  have hsz2 := hF.size
  have hPne : P ≠ [] := by intro h; rw [h] at s1; simp at s1
  obtain ⟨gp, hgp, hp, -⟩ := IR.of_rows hPne hO
  have HP := Lib.hid hp
  have HF2 := Lib.hid (((Frm.refl [] w1).drew1).trans hF)
  clear hO hF
  go_wp2_with fail
  refine onNormal_mk ⟨HF2.out, ?_⟩
  refine held_call (fuel := 5) (i := 5) rfl (by kernel_rfl) ?_
  go_wp2_with fail
  refine (HY.out _ (HF1.out.trans HF2.out)).mono ?_
  rintro e w3 ⟨t, rfl, hO, hF⟩
  have hTne : T ≠ [] := by intro h; rw [h] at s3; simp at s3
  obtain ⟨gt, hgt, ht, -⟩ := IR.of_rows hTne hO
  have HT := Lib.hid ht
  have HP3 := Lib.hid (HP.out.frm hF (by simp))
  have HF3 := Lib.hid (HF2.out.trans hF)
  have hsz := (HF1.out.trans HF3.out).size
  obtain ⟨capp, curp, evp, -⟩ := id hp
  obtain ⟨capt, curt, evt, -⟩ := id ht
  subst evp evt
  clear hO hF hp ht hz0 hz1
  go_wp2_with fail
  refine onNormal_mk ⟨HF3.out, ?_⟩
  refine held_row_at (fuel := 3) (is := [6, 7]) (.cons rfl (.cons rfl .nil)) (by kernel_rfl) (fun _ _ _ _ _ h => h) rfl (by kernel_rfl) HF3.out ?_
  intro K hK
  repeat (go_big_quiet_step (fail))
  refine wpQuiet_nil (hK _ ?_)
  clear hK K
  refine held_call (fuel := 2) (i := 8) rfl (by kernel_rfl) ?_
  go_wp2_with fail
  refine onNormal_mk ⟨HF3.out.alloc _, ?_⟩
  refine held_row_at (fuel := 0) (is := [9, 10]) (.cons rfl (.cons rfl .nil)) (by kernel_rfl) (fun _ _ _ _ _ h => h) rfl (by kernel_rfl) (HF3.out.alloc _) ?_
  intro K hK
  repeat (go_big_quiet_step (fail))
  refine wpQuiet_nil (hK _ ?_)
  clear hK K
  refine held_end (by kernel_rfl) ?_
  go_wp2
  go_ret2
  have hn := HAt.new w3 #[.slice (some ⟨gp, 0, none⟩) P.length capp, .slice (some ⟨gt, 0, none⟩) T.length capt, .int .u32 0, .int .i32 0, .int .u32 0, .slice none 0 0, .slice none 0 0, .slice none 0 0, .slice none 0 0] 136
  have hx : Frm [] w3 (w3.alloc (.cells #[.slice (some ⟨gp, 0, none⟩) P.length capp, .slice (some ⟨gt, 0, none⟩) T.length capt, .int .u32 0, .int .i32 0, .int .u32 0, .slice none 0 0, .slice none 0 0, .slice none 0 0, .slice none 0 0] 136)) := (Frm.refl _ _).alloc _
  exact ⟨w3.heap.size, rfl, hsz, ⟨_, _, gp, gt, hn, HP3.out.frm hx (by simp), HT.out.frm hx (by simp)⟩, (HF1.out.trans HF3.out).trans hx⟩
end Go.Proofs.YteijjhahgabalaaGreat
