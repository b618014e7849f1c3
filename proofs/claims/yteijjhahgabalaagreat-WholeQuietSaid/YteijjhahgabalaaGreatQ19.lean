/- Topologies: the program's own Check lets pass what may be. (Printed by gen_topoall.py.) -/
import Derived.Deep.RegionWith
import Derived.Test.YteijjhahgabalaaGreatQ10
namespace Go.Proofs.YteijjhahgabalaaGreat
open Go.RowKit

/-- what region 6 leaves: the ends in a box of their own, the levels -/
def TC6 (P : List Int) (w0 wx : World) (s5 s6 : Value) : Prop := ∃ (eb g : Nat) (u : Value), s5 = .pointer (some ⟨eb, 0, none⟩) ∧ s6 = .slice (some ⟨g, 0, none⟩) P.length P.length ∧ wx.cell? ⟨eb, 0, none⟩ = some u ∧ RowAt wx 0 u (tEnds P P.length) ∧ HAt wx g (insR P.length (fun v => (tDeep P P.length v : Int))) 3 ∧ Frm [] w0 wx
set_option maxRecDepth 100000 in
set_option maxHeartbeats 4000000 in
theorem pCheck_ok (w : World) {b1 b2 : Nat} {v u : Value} {P T : List Int} (hx : RowAt w b1 v P) (hy : RowAt w b2 u T) (hs : TOk P T) :
    Calls Tryz.prog 56 #[.agg #[v, u]] w fun e w' => e = .returned (.int .i64 0) ∧ Frm [] w w' := by
  have HOK := Lib.hid hs
  have hlen : (tEnds P P.length).length ≤ P.length := by unfold tEnds; rw [List.length_map]; exact Nat.le_trans (List.length_filter_le _ _) (by simp)
  obtain ⟨s1, s2, s3, s4⟩ := hs.size
  have HX := Lib.hid (fun (W : World) (hf : Frm [] w W) => hx.frm hf (by simp))
  have HY := Lib.hid (fun (W : World) (hf : Frm [] w W) => hy.frm hf (by simp))
  have HT := Lib.hid (fun (W : World) (hf : Frm [] w W) => tree_ok (hx.frm hf (by simp)) (by omega) hs.tree)
  have HLV := Lib.hid (fun (W : World) (hf : Frm [] w W) => leaves_ok (hx.frm hf (by simp)) (by omega) hs.tree)
  have HDP := Lib.hid (fun (W : World) (hf : Frm [] w W) => levels_ok (hx.frm hf (by simp)) (by omega) hs.tree)
  have hends := hs.ends
  have HEV := Lib.hid hs.even
  have HCF := Lib.hid (fun (W : World) (hf : Frm [] w W) (u' : Value) (eb : Nat) (h1 : RowAt W 0 u' (tEnds P P.length)) (h2 : W.cell? ⟨eb, 0, none⟩ = some u') => containsFunc_no (hy.frm hf (by simp)) h1 (by omega) (by omega) (fun t ht => tEnds_of (hends t ht)) h2)
  obtain ⟨a, cap, rfl, -, -⟩ := hx
  obtain ⟨a', cap', rfl, -, -⟩ := hy
  have d1 : decide ((P.length : Int) < 1) = false := decide_eq_false (by omega)
  have d2 : decide ((32 : Int) < P.length) = false := decide_eq_false (by omega)
  have d3 : decide ((T.length : Int) < 1) = false := decide_eq_false (by omega)
  have d4 : decide ((32 : Int) < T.length) = false := decide_eq_false (by omega)
  have d5 : decide (P.length < 1) = false := decide_eq_false (by omega)
  have d6 : decide (32 < P.length) = false := decide_eq_false (by omega)
  have d7 : decide (T.length < 1) = false := decide_eq_false (by omega)
  have d8 : decide (32 < T.length) = false := decide_eq_false (by omega)
  clear hs hends
  go_enter Tryz.func56, Tryz.ntmps56
  go_upto_region 1 with fail
  generalize hW : World.alloc _ _ = W
  have hB : HAt W w.heap.size [.slice a P.length cap, .slice a' T.length cap'] 24 := by subst hW; exact HAt.new w _ _
  have hF : Frm [] w W := by subst hW; exact (Frm.refl _ _).alloc _
  have HB := Lib.hid hB
  have HF := Lib.hid hF
  clear hW hB hF
  have hne : Nonempty (HW (fun wx => Frm [] W wx)) := ⟨⟨W, Frm.refl _ _⟩⟩
  have hz0 : ∀ q : HW (fun wx => Frm [] W wx), q.w.cell? ⟨w.heap.size, 0, none⟩ = some (.slice a P.length cap) := fun q => (HB.out.frm q.h (by simp)).cell (i := 0) rfl
  have hz1 : ∀ q : HW (fun wx => Frm [] W wx), q.w.cell? ⟨w.heap.size, 1, none⟩ = some (.slice a' T.length cap') := fun q => (HB.out.frm q.h (by simp)).cell (i := 1) rfl
  refine held_begin (S := fun wx => Frm [] W wx) (by kernel_rfl) ?_
  refine held_row_at (fuel := 0) (is := [0, 1, 2, 3, 4, 5, 6, 7]) (.cons rfl (.cons rfl (.cons rfl (.cons rfl (.cons rfl (.cons rfl (.cons rfl (.cons rfl .nil)))))))) (by kernel_rfl) (fun _ _ _ _ _ h => h) rfl (by kernel_rfl) (Frm.refl _ _).drew1 ?_
  intro K hK
  repeat (go_big_quiet_step (fail))
  refine wpQuiet_nil (hK _ ?_)
  clear hK K
  refine held_end (by kernel_rfl) ?_
  have HB2 := Lib.hid HB.out.drew1
  have HF2 := Lib.hid HF.out.drew1
  clear HB HF hne hz0 hz1
  generalize W.drew = W2 at *
  have k0 := HB2.out.cell (i := 0) rfl
  have k1 := HB2.out.cell (i := 1) rfl
  go_wp2_with fail
  refine (HT.out _ HF2.out).mono ?_
  rintro e w' ⟨rfl, rfl⟩
  go_wp2_with fail
  go_cut [5, 6] (fun s5 s6 wx => TC6 P W2 wx s5 s6)
  case rest =>
    obtain ⟨eb, g, ux, rfl, rfl, hc, hr, hg, hF⟩ := hcut
    have HRW := Lib.hid hr
    have HG := Lib.hid hg
    have HC := Lib.hid hc
    have HF3 := Lib.hid (HF2.out.trans hF)
    have HB3 := Lib.hid (HB2.out.frm hF (by simp))
    obtain ⟨a3, cap3, rfl, -, hrow⟩ := hr
    have HROW := Lib.hid hrow
    have hle := hlen
    generalize hE : tEnds P P.length = E at *
    have HE := Lib.hid (show ∀ x ∈ E, ∃ v : Nat, x = v ∧ v < P.length ∧ tLeaf P v = true from fun x hx => tEnds_mem (by rw [hE]; exact hx))
    clear hg hF hrow hE k0 k1 hlen
    go_wp2_with fail
    go_loopw [41] (fun iv wx => ∃ k : Nat, iv = .int .i64 k ∧ k ≤ E.length ∧ Frm [] wc wx) (fun iv _ => E.length - (intOf iv).toNat)
    case atStart => exact ⟨0, rfl, by omega, Frm.refl _ _⟩
    case round =>
      obtain ⟨k, rfl, hk, hF⟩ := hrel
      have HFR := Lib.hid hF
      clear hF
      by_cases hlt : k < E.length
      · have e0 : decide ((k : Int) < E.length) = true := by simpa using hlt
        have e0' : decide (k < E.length) = true := by simpa using hlt
        have l1 : (k : Int) < E.length := by omega
        have l0 : (0 : Int) < E.length := by omega
        obtain ⟨b, off, -, rfl, hcc⟩ := HROW.out (by omega)
        have ck := hcc k hlt
        have cz := hcc 0 (by omega)
        obtain ⟨vk, hvk, hvl, hvt⟩ := HE.out (E[k]?.getD 0) (by rw [List.getElem?_eq_getElem hlt]; exact List.getElem_mem _)
        obtain ⟨vz, hvz, hzl, hzt⟩ := HE.out (E[0]?.getD 0) (by rw [List.getElem?_eq_getElem (by omega)]; exact List.getElem_mem _)
        obtain ⟨q1, q2⟩ := HEV.out vk vz hvl hzl hvt hzt
        rw [hvk] at ck
        rw [hvz] at cz
        have g1 := HG.out.cell (i := vk) (insR_get _ hvl)
        have g2 := HG.out.cell (i := vz) (insR_get _ hzl)
        rw [← q1] at g2
        simp only [Nat.add_zero] at cz
        generalize tDeep P P.length vk = dd at *
        have m1 : (vk : Int) < P.length := by omega
        have m2 : (vz : Int) < P.length := by omega
        have m3 : decide ((5 : Int) < dd) = false := decide_eq_false (by omega)
        have m4 : decide (5 < dd) = false := decide_eq_false (by omega)
        have x1 := HFR.out.cell ck (by simp)
        clear hcc q1 hvt hzt hvk hvz HE
        have hne : Nonempty (HW (fun wx => Frm [] wr wx)) := ⟨⟨wr, Frm.refl _ _⟩⟩
        have hz0 : ∀ q : HW (fun wx => Frm [] wr wx), q.w.cell? ⟨b, off + k, none⟩ = some (.int .i64 vk) := fun q => q.h.cell x1 (by simp)
        have hz1 : ∀ q : HW (fun wx => Frm [] wr wx), q.w.cell? ⟨b, off, none⟩ = some (.int .i64 vz) := fun q => q.h.cell (HFR.out.cell cz (by simp)) (by simp)
        have hz2 : ∀ q : HW (fun wx => Frm [] wr wx), q.w.cell? ⟨g, vk, none⟩ = some (.int .i64 dd) := fun q => q.h.cell (HFR.out.cell g1 (by simp)) (by simp)
        have hz3 : ∀ q : HW (fun wx => Frm [] wr wx), q.w.cell? ⟨g, vz, none⟩ = some (.int .i64 dd) := fun q => q.h.cell (HFR.out.cell g2 (by simp)) (by simp)
        have hz4 : ∀ q : HW (fun wx => Frm [] wr wx), q.w.cell? ⟨eb, 0, none⟩ = some (.slice (some ⟨b, off, none⟩) E.length cap3) := fun q => q.h.cell (HFR.out.cell HC.out (by simp)) (by simp)
        go_upto_region 10 with fail
        refine held_begin (S := fun wx => Frm [] wr wx) (by kernel_rfl) ?_
        refine held_row_at (fuel := 0) (is := [0, 1, 2, 3, 4, 5, 6, 7, 8, 9, 10, 11, 12, 13, 14, 15, 16, 17]) (.cons rfl (.cons rfl (.cons rfl (.cons rfl (.cons rfl (.cons rfl (.cons rfl (.cons rfl (.cons rfl (.cons rfl (.cons rfl (.cons rfl (.cons rfl (.cons rfl (.cons rfl (.cons rfl (.cons rfl (.cons rfl .nil)))))))))))))))))) (by kernel_rfl) (fun _ _ _ _ _ h => h) rfl (by kernel_rfl) (Frm.refl _ _).drew1 ?_
        intro K hK
        repeat (go_big_quiet_step (fail))
        refine wpQuiet_nil (hK _ ?_)
        clear hK K
        refine held_end (by kernel_rfl) ?_
        have HFR2 := Lib.hid HFR.out.drew1
        clear hne hz0 hz1 hz2 hz3 hz4
        go_wp2_with fail
        go_roundw
        case rel => exact ⟨k + 1, by go_num, by omega, HFR2.out⟩
        case measure => simp [intOf]; omega
      · have e0 : decide ((k : Int) < E.length) = false := by simpa using hlt
        have e0' : decide (k < E.length) = false := by simpa using hlt
        have k1 := (HB3.out.frm HFR.out (by simp)).cell (i := 1) rfl
        have hmf : ∀ (fn : Fn) (first cap : Array Value) (w : World), (Instr.makeFunc fn first cap).run Tryz.prog w = .ok (.func fn first cap) w := fun _ _ _ _ => rfl
        go_wp2_with fail
        refine (HCF.out _ (HF3.out.trans HFR.out) _ eb (HRW.out.frm HFR.out (by simp)) (HFR.out.cell HC.out (by simp))).mono ?_
        rintro e w' ⟨rfl, rfl⟩
        go_wp2
        go_ret
        exact ⟨rfl, HF3.out.trans HFR.out⟩
  obtain ⟨W0, rfl⟩ : ∃ W, W = W2 := ⟨_, rfl⟩
  have hne : Nonempty (HW (fun wx => Frm [] W0 wx)) := ⟨⟨W0, Frm.refl _ _⟩⟩
  have hz0 : ∀ q : HW (fun wx => Frm [] W0 wx), q.w.cell? ⟨w.heap.size, 0, none⟩ = some (.slice a P.length cap) := fun q => (HB2.out.frm q.h (by simp)).cell (i := 0) rfl
  clear k0 k1
  refine held_begin (S := fun wx => Frm [] W0 wx) (by kernel_rfl) ?_
  refine held_row_at (fuel := 5) (is := [0, 1, 3, 4]) (.cons rfl (.cons rfl (.cons rfl (.cons rfl .nil)))) (by kernel_rfl) (fun _ _ _ _ _ h => h) rfl (by kernel_rfl) (Frm.refl _ _).drew1 ?_
  intro K hK
  repeat (go_big_quiet_step (fail))
  refine wpQuiet_nil (hK _ ?_)
  clear hK K
  refine held_two (i := 2) (j := 6) (fuel := 4) rfl rfl (by kernel_rfl) ?_ ?_
  · go_wp2_with fail
    refine (HLV.out _ (HF2.out.trans ((Frm.refl _ _).drew1))).mono ?_
    rintro e w1 ⟨ux, rfl, hO, hF⟩
    obtain ⟨ua, uc, hue, -⟩ := hO.row
    subst hue
    have HO := Lib.hid hO
    have HF4 := Lib.hid (Frm.trans (S := []) (a := W0) ((Frm.refl _ _).drew1) hF)
    have hsz1 := hF.size
    clear hO
    go_wp2_with fail
    refine onNormal_mk ⟨HF4.out, ?_⟩
    refine held_two (i := 5) (j := 6) (fuel := 3) rfl rfl (by kernel_rfl) ?_ ?_
    · go_wp2_with fail
      refine (HDP.out _ (HF2.out.trans HF4.out)).mono ?_
      rintro e w2 ⟨g, rfl, hg, hG, hF2⟩
      have HG := Lib.hid hG
      have HF5 := Lib.hid (Frm.trans (S := []) (a := W0) HF4.out hF2)
      have hsz2 := hF2.size
      clear hG
      go_wp2_with fail
      refine onNormal_mk ⟨HF5.out, ?_⟩
      refine held_call (fuel := 2) (i := 6) rfl (by kernel_rfl) ?_
      go_wp2_with fail
      refine onNormal_mk ⟨HF5.out.alloc _, ?_⟩
      have hnew := HAt.new w2 #[.slice none 0 0] 22
      have HFN := Lib.hid ((Frm.refl [] w2).alloc (.cells #[.slice none 0 0] 22))
      generalize w2.alloc (.cells #[.slice none 0 0] 22) = w2a at *
      have jz := hnew.frozen 0
      have jc := hnew.cell (i := 0) rfl
      have HSET := Lib.hid (hnew.set 0 (.slice ua (tEnds P P.length).length uc))
      have HFA := Lib.hid (HFN.out.set ⟨w2.heap.size, 0, none⟩ (.slice ua (tEnds P P.length).length uc) (.inr (Nat.le_refl _)))
      refine held_call (fuel := 1) (i := 7) rfl (by kernel_rfl) ?_
      go_wp2_with fail
      refine onNormal_mk ⟨(HF5.out.trans HFA.out), ?_⟩
      refine held_row_at (fuel := 0) (is := [8]) (.cons rfl .nil) (by kernel_rfl) (fun _ _ _ _ _ h => h) rfl (by kernel_rfl) (HF5.out.trans HFA.out) ?_
      intro K hK
      repeat (go_big_quiet_step (fail))
      refine wpQuiet_nil (hK _ ?_)
      clear hK K
      refine held_end (by kernel_rfl) ?_
      go_wp2_with fail
      go_meet
      exact ⟨w2.heap.size, g, _, rfl, rfl, HSET.out.cell (i := 0) rfl, ((HO.out.frm (hF2.trans HFA.out) (by simp)).base (Nat.zero_le _)).row, HG.out.frm HFA.out (by simp), (HF5.out.trans HFA.out)⟩
    · go_wp2_with fail
      refine onNormal_mk ⟨HF4.out.alloc _, ?_⟩
      have hnew := HAt.new w1 #[.slice none 0 0] 22
      have HNW := Lib.hid hnew
      have HFN := Lib.hid ((Frm.refl [] w1).alloc (.cells #[.slice none 0 0] 22))
      clear hnew
      have hsz3 : (w1.alloc (.cells #[.slice none 0 0] 22)).heap.size = w1.heap.size + 1 := by simp
      generalize w1.alloc (.cells #[.slice none 0 0] 22) = w1a at *
      refine held_call (fuel := 2) (i := 5) rfl (by kernel_rfl) ?_
      go_wp2_with fail
      refine (HDP.out _ (HF2.out.trans (HF4.out.trans HFN.out))).mono ?_
      rintro e w2 ⟨g, rfl, hg, hG, hF2⟩
      have HG := Lib.hid hG
      have HF5 := Lib.hid (Frm.trans (S := []) (a := W0) (HF4.out.trans HFN.out) hF2)
      have hsz2 := hF2.size
      clear hG
      go_wp2_with fail
      refine onNormal_mk ⟨HF5.out, ?_⟩
      have hnew := HNW.out.frm hF2 (by simp)
      have jz := hnew.frozen 0
      have jc := hnew.cell (i := 0) rfl
      have HSET := Lib.hid (hnew.set 0 (.slice ua (tEnds P P.length).length uc))
      have HFA := Lib.hid ((HFN.out.trans hF2).set ⟨w1.heap.size, 0, none⟩ (.slice ua (tEnds P P.length).length uc) (.inr (Nat.le_refl _)))
      refine held_call (fuel := 1) (i := 7) rfl (by kernel_rfl) ?_
      go_wp2_with fail
      refine onNormal_mk ⟨(HF4.out.trans HFA.out), ?_⟩
      refine held_row_at (fuel := 0) (is := [8]) (.cons rfl .nil) (by kernel_rfl) (fun _ _ _ _ _ h => h) rfl (by kernel_rfl) (HF4.out.trans HFA.out) ?_
      intro K hK
      repeat (go_big_quiet_step (fail))
      refine wpQuiet_nil (hK _ ?_)
      clear hK K
      refine held_end (by kernel_rfl) ?_
      go_wp2_with fail
      go_meet
      exact ⟨w1.heap.size, g, _, rfl, rfl, HSET.out.cell (i := 0) rfl, ((HO.out.frm HFA.out (by simp)).base (Nat.zero_le _)).row, HG.out.other ⟨w1.heap.size, 0, none⟩ (.slice ua (tEnds P P.length).length uc) (by show g ≠ w1.heap.size; omega), (HF4.out.trans HFA.out)⟩
  · go_wp2_with fail
    refine onNormal_mk ⟨((Frm.refl _ _).drew1).alloc _, ?_⟩
    have hnew := (HAt.new W0 #[.slice none 0 0] 22).drew1
    have HNW := Lib.hid hnew
    have HFN := Lib.hid (((Frm.refl [] W0).alloc (.cells #[.slice none 0 0] 22)).drew1)
    clear hnew
    have hsz3 : (W0.alloc (.cells #[.slice none 0 0] 22)).drew.heap.size = W0.heap.size + 1 := by simp
    generalize (W0.alloc (.cells #[.slice none 0 0] 22)).drew = wa at *
    refine held_call (fuel := 3) (i := 2) rfl (by kernel_rfl) ?_
    go_wp2_with fail
    refine (HLV.out _ (HF2.out.trans HFN.out)).mono ?_
    rintro e w1 ⟨ux, rfl, hO, hF⟩
    obtain ⟨ua, uc, hue, -⟩ := hO.row
    subst hue
    have HO := Lib.hid hO
    have HF4 := Lib.hid (Frm.trans (S := []) (a := W0) HFN.out hF)
    have hsz1 := hF.size
    clear hO
    go_wp2_with fail
    refine onNormal_mk ⟨HF4.out, ?_⟩
    refine held_call (fuel := 2) (i := 5) rfl (by kernel_rfl) ?_
    go_wp2_with fail
    refine (HDP.out _ (HF2.out.trans HF4.out)).mono ?_
    rintro e w2 ⟨g, rfl, hg, hG, hF2⟩
    have HG := Lib.hid hG
    have HF5 := Lib.hid (Frm.trans (S := []) (a := W0) HF4.out hF2)
    have hsz2 := hF2.size
    clear hG
    go_wp2_with fail
    refine onNormal_mk ⟨HF5.out, ?_⟩
    have hnew := HNW.out.frm (hF.trans hF2) (by simp)
    have jz := hnew.frozen 0
    have jc := hnew.cell (i := 0) rfl
    have HSET := Lib.hid (hnew.set 0 (.slice ua (tEnds P P.length).length uc))
    have HFA := Lib.hid (HF5.out.set ⟨W0.heap.size, 0, none⟩ (.slice ua (tEnds P P.length).length uc) (.inr (Nat.le_refl _)))
    refine held_call (fuel := 1) (i := 7) rfl (by kernel_rfl) ?_
    go_wp2_with fail
    refine onNormal_mk ⟨HFA.out, ?_⟩
    refine held_row_at (fuel := 0) (is := [8]) (.cons rfl .nil) (by kernel_rfl) (fun _ _ _ _ _ h => h) rfl (by kernel_rfl) HFA.out ?_
    intro K hK
    repeat (go_big_quiet_step (fail))
    refine wpQuiet_nil (hK _ ?_)
    clear hK K
    refine held_end (by kernel_rfl) ?_
    go_wp2_with fail
    go_meet
    exact ⟨W0.heap.size, g, _, rfl, rfl, HSET.out.cell (i := 0) rfl, (((HO.out.frm hF2 (by simp)).frm (S := [W0.heap.size]) ((Frm.refl _ _).set ⟨W0.heap.size, 0, none⟩ (.slice ua (tEnds P P.length).length uc) (.inl (by simp))) (by simp; omega)).base (Nat.zero_le _)).row, HG.out.other ⟨W0.heap.size, 0, none⟩ (.slice ua (tEnds P P.length).length uc) (by show g ≠ W0.heap.size; omega), HFA.out⟩
end Go.Proofs.YteijjhahgabalaaGreat
