/- The contract of the document's Check of a topology. -/
import Derived.Deep.DeepCutAuto
import Derived.Deep.CutBlock
import Derived.Test.YteijjhahgabalaaGreatQ08
import Derived.Test.YteijjhahgabalaaGreatQ03
namespace Go.Proofs.YteijjhahgabalaaGreat
open Go.RowKit

theorem leaf_deep {P : List Int} {v : Nat} (h : tLeaf P v = true) : 1 ≤ tDeep P P.length v := by
  have hv : v < P.length := by unfold tLeaf at h; simp at h; omega
  obtain ⟨k, hk⟩ : ∃ k, P.length = k + 1 := ⟨P.length - 1, by omega⟩
  have : 1 ≤ tDeep P (k + 1) v := by
    unfold tDeep
    rw [if_pos (by omega)]
    omega
  rw [hk]; exact this
/-- what the second loop knows: places up to k -/
def tMid (P : List Int) (k f : Nat) : Prop := (∀ v : Nat, v < k → tLeaf P v = true → tDeep P P.length v = f ∧ f ≤ 5) ∧ (f = 0 ∨ ∃ z : Nat, z < P.length ∧ tLeaf P z = true ∧ tDeep P P.length z = f)
theorem tMid.skip {P : List Int} {k f : Nat} (h : tMid P k f) (hl : tLeaf P k = false) : tMid P (k + 1) f := by
  refine ⟨fun v hv hf => ?_, h.2⟩
  by_cases e : v = k
  · subst e; rw [hl] at hf; cases hf
  · exact h.1 v (by omega) hf
theorem tMid.next {P : List Int} {k f d : Nat} (h : tMid P k f) (hk : k < P.length) (hl : tLeaf P k = true) (hd : tDeep P P.length k = d) (he : f = 0 ∨ f = d) (h5 : d ≤ 5) : tMid P (k + 1) d := by
  refine ⟨fun v hv hf => ?_, .inr ⟨k, hk, hl, hd⟩⟩
  by_cases e : v = k
  · subst e; exact ⟨hd, h5⟩
  · obtain ⟨h1, h2⟩ := h.1 v (by omega) hf
    have := leaf_deep hf
    rcases he with he | he
    · omega
    · exact ⟨by omega, h5⟩
theorem tMid.bad {P : List Int} {k f d : Nat} (h : tMid P k f) (hk : k < P.length) (hl : tLeaf P k = true) (hd : tDeep P P.length k = d) (hb : (f ≠ 0 ∧ d ≠ f) ∨ 5 < d) : ¬ tEven P := by
  intro he
  have := he k k hk hk hl hl
  rcases hb with ⟨h1, h2⟩ | hb
  · rcases h.2 with h3 | ⟨z, hz, hzl, hzd⟩
    · exact h1 h3
    · have := he k z hk hz hl hzl; omega
  · omega
theorem tMid.all {P : List Int} {f : Nat} (h : tMid P P.length f) : tEven P := by
  intro v w hv hw h1 h2
  have a := h.1 v hv h1
  have b := h.1 w hw h2
  omega

set_option maxRecDepth 100000 in
set_option maxHeartbeats 2000000 in
theorem rCheck_ok (w : World) {b1 b2 : Nat} {v u : Value} {P T : List Int} (hx : RowAt w b1 v P) (hy : RowAt w b2 u T) (hs : tSize P T) :
    Calls Tryz.prog 22 #[.agg #[v, u]] w fun e w' => ∃ r, e = .returned (.int .i64 r) ∧ (r = 0 ↔ TOk P T) ∧ Frm [] w w' := by
  obtain ⟨a, cap, rfl, h1, hcx⟩ := hx
  obtain ⟨a', cap', rfl, h2, hcy⟩ := hy
  have HS := Lib.hid hs
  have HX := Lib.hid hcx
  have HY := Lib.hid hcy
  obtain ⟨s1, s2, s3, s4⟩ := hs
  have d1 : decide ((P.length : Int) < 1) = false := decide_eq_false (by omega)
  have d2 : decide ((32 : Int) < P.length) = false := decide_eq_false (by omega)
  have d3 : decide ((T.length : Int) < 1) = false := decide_eq_false (by omega)
  have d4 : decide ((32 : Int) < T.length) = false := decide_eq_false (by omega)
  have d5 : decide (P.length < 1) = false := decide_eq_false (by omega)
  have d6 : decide (32 < P.length) = false := decide_eq_false (by omega)
  have d7 : decide (T.length < 1) = false := decide_eq_false (by omega)
  have d8 : decide (32 < T.length) = false := decide_eq_false (by omega)
  clear hcx hcy h1 h2
  obtain ⟨b, off, hb, rfl, hc⟩ := HX.out (by omega)
  have c0 : w.cell? ⟨b, off, none⟩ = some (.int .i64 (P[0]?.getD 0)) := hc 0 (by omega)
  have hbl : b < w.heap.size := cell_lt c0
  have HC := Lib.hid (fun (W : World) (hf : Frm [] w W) (i : Nat) (hi : i < P.length) => hf.cell (hc i hi) (by simp))
  have HL := Lib.hid (fun (W : World) (hf : Frm [] w W) (x : Int) => leaf_any W (b1 := b1) (v := .slice (some ⟨b, off, none⟩) P.length cap) (P := P) ⟨some ⟨b, off, none⟩, cap, rfl, by unfold maxLen; omega, fun _ => ⟨b, off, hb, rfl, fun i hi => hf.cell (hc i hi) (by simp)⟩⟩ x)
  have HD := Lib.hid (fun (W : World) (hf : Frm [] w W) (x : Int) => deep_any W (b1 := b1) (v := .slice (some ⟨b, off, none⟩) P.length cap) (P := P) ⟨some ⟨b, off, none⟩, cap, rfl, by unfold maxLen; omega, fun _ => ⟨b, off, hb, rfl, fun i hi => hf.cell (hc i hi) (by simp)⟩⟩ (by omega) x)
  obtain ⟨b', off', hb', rfl, hc'⟩ := HY.out (by omega)
  have HC' := Lib.hid (fun (W : World) (hf : Frm [] w W) (i : Nat) (hi : i < T.length) => hf.cell (hc' i hi) (by simp))
  clear hc hc' c0
  have l0 : (0 : Int) < P.length := by omega
  go_enter Tryz.func22, Tryz.ntmps22
  go_upto_region 3 with fail
  generalize hW : World.alloc _ _ = W
  have hB : HAt W w.heap.size [.slice (some ⟨b, off, none⟩) P.length cap, .slice (some ⟨b', off', none⟩) T.length cap'] 24 := by subst hW; exact HAt.new w _ _
  have hF : Frm [] w W := by subst hW; exact (Frm.refl _ _).alloc _
  have HB := Lib.hid hB
  have HF := Lib.hid hF
  clear hW hB hF
  have k0 := HB.out.cell (i := 0) rfl
  have k1 := HB.out.cell (i := 1) rfl
  have p0 : W.cell? ⟨b, off, none⟩ = some (.int .i64 (P[0]?.getD 0)) := HC.out W HF.out 0 (by omega)
  by_cases hr : P[0]?.getD 0 = -1
  · rw [hr] at p0
    have HR := Lib.hid hr
    clear hr
    go_wp2_with fail
    go_loopw [3] (fun iv wx => ∃ k : Nat, iv = .int .i64 k ∧ 1 ≤ k ∧ k ≤ P.length ∧ (∀ v : Nat, 1 ≤ v → v < k → 0 ≤ P[v]?.getD 0 ∧ P[v]?.getD 0 < v) ∧ W = wx) (fun iv _ => P.length - (intOf iv).toNat)
    case atStart => exact ⟨1, rfl, by omega, by omega, fun v h1 h2 => by omega, rfl⟩
    case round =>
      obtain ⟨k, rfl, hk1, hk2, hj, rfl⟩ := hrel
      have HJ := Lib.hid hj
      clear hj
      by_cases hlt : k < P.length
      · have e0 : decide ((k : Int) < P.length) = true := by simpa using hlt
        have e0' : decide (k < P.length) = true := by simpa using hlt
        have l1 : (k : Int) < P.length := by omega
        have p1 := HC.out W HF.out k hlt
        generalize hp : P[k]?.getD 0 = p at *
        have HP := Lib.hid hp
        clear hp
        by_cases n1 : p < 0
        · have e1 : decide (p < 0) = true := by simpa using n1
          go_wp2
          go_ret
          refine ⟨9, rfl, ⟨fun h => absurd h (by omega), fun h => ?_⟩, HF.out⟩
          have := (h.tree.2 k hk1 hlt).1
          rw [HP.out] at this; omega
        · have e1 : decide (p < 0) = false := by simpa using n1
          by_cases n2 : (k : Int) ≤ p
          · have e2 : decide ((k : Int) ≤ p) = true := by simpa using n2
            go_wp2
            go_ret
            refine ⟨9, rfl, ⟨fun h => absurd h (by omega), fun h => ?_⟩, HF.out⟩
            have := (h.tree.2 k hk1 hlt).2
            rw [HP.out] at this; omega
          · have e2 : decide ((k : Int) ≤ p) = false := by simpa using n2
            have HN := Lib.hid (show 0 ≤ p ∧ p < k by omega)
            clear n1 n2
            go_wp2_with fail
            go_roundw
            case rel =>
              refine ⟨k + 1, by go_num, by omega, by omega, fun v h1 h2 => ?_, by trivial⟩
              by_cases e : v = k
              · subst e; rw [HP.out]; exact HN.out
              · exact HJ.out v h1 (by omega)
            case measure => simp [intOf]; omega
      · have e0 : decide ((k : Int) < P.length) = false := by simpa using hlt
        have e0' : decide (k < P.length) = false := by simpa using hlt
        have HT := Lib.hid (show tTree P from ⟨HR.out, fun v h1 h2 => HJ.out v h1 (by omega)⟩)
        clear HJ hlt hk1 hk2 p0
        go_wp2_with fail
        go_loopw [5, 4] (fun iv fv wx => ∃ k f : Nat, iv = .int .i64 k ∧ fv = .int .i64 f ∧ k ≤ P.length ∧ f ≤ 32 ∧ tMid P k f ∧ W = wx) (fun iv _ _ => P.length - (intOf iv).toNat)
        case atStart => exact ⟨0, 0, rfl, rfl, by omega, by omega, ⟨fun v hv => by omega, .inl rfl⟩, rfl⟩
        case round =>
          obtain ⟨k, f, rfl, rfl, hk, hf32, hmid, rfl⟩ := hrel
          have HM := Lib.hid hmid
          clear hmid
          by_cases hlt : k < P.length
          · have e0 : decide ((k : Int) < P.length) = true := by simpa using hlt
            have e0' : decide (k < P.length) = true := by simpa using hlt
            cases hlf : tLeaf P k with
            | false =>
              have HM2 := Lib.hid (HM.out.skip hlf)
              go_wp2_with fail
              refine (HL.out W HF.out k).mono ?_
              rw [hlf]
              rintro e w1 ⟨rfl, rfl⟩
              go_wp2_with fail
              go_roundw
              case rel => exact ⟨k + 1, f, by go_num, rfl, by omega, hf32, HM2.out, by trivial⟩
              case measure => simp [intOf]; omega
            | true =>
              have HLF := Lib.hid hlf
              generalize hdk : tDeep P P.length k = dk
              have hd32 : dk ≤ 32 := by have := tDeep_le P P.length k; omega
              have hd1 : 1 ≤ dk := by have := leaf_deep hlf; omega
              have HDK := Lib.hid hdk
              clear hdk hlf
              by_cases f0 : f = 0
              · subst f0
                by_cases f5 : dk ≤ 5
                · have e5 : decide ((5 : Int) < dk) = false := by simp; omega
                  have e6 : decide (5 < dk) = false := by simp; omega
                  have HM2 := Lib.hid (HM.out.next hlt HLF.out HDK.out (.inl rfl) f5)
                  go_wp2_with fail
                  refine (HL.out W HF.out k).mono ?_
                  rw [HLF.out]
                  rintro e w1 ⟨rfl, rfl⟩
                  go_wp2_with fail
                  refine (HD.out W HF.out k).mono ?_
                  rw [HDK.out]
                  rintro e w1 ⟨rfl, rfl⟩
                  go_wp2_with fail
                  go_roundw
                  case rel => exact ⟨k + 1, dk, by go_num, rfl, by omega, hd32, HM2.out, by trivial⟩
                  case measure => simp [intOf]; omega
                · have e5 : decide ((5 : Int) < dk) = true := by simp; omega
                  have e6 : decide (5 < dk) = true := by simp; omega
                  have HE := Lib.hid (HM.out.bad hlt HLF.out HDK.out (.inr (by omega)))
                  go_wp2_with fail
                  refine (HL.out W HF.out k).mono ?_
                  rw [HLF.out]
                  rintro e w1 ⟨rfl, rfl⟩
                  go_wp2_with fail
                  refine (HD.out W HF.out k).mono ?_
                  rw [HDK.out]
                  rintro e w1 ⟨rfl, rfl⟩
                  go_wp2
                  go_ret
                  exact ⟨9, rfl, ⟨fun h => absurd h (by omega), fun h => absurd h.even HE.out⟩, HF.out⟩
              · have g0 : ((f : Int) == 0) = false := by simpa using f0
                have g1 : (f == 0) = false := by simpa using f0
                by_cases fe : dk = f
                · subst fe
                  by_cases f5 : dk ≤ 5
                  · have e5 : decide ((5 : Int) < dk) = false := by simp; omega
                    have e6 : decide (5 < dk) = false := by simp; omega
                    have HM2 := Lib.hid (HM.out.next hlt HLF.out HDK.out (.inr rfl) f5)
                    go_wp2_with fail
                    refine (HL.out W HF.out k).mono ?_
                    rw [HLF.out]
                    rintro e w1 ⟨rfl, rfl⟩
                    go_wp2_with fail
                    refine (HD.out W HF.out k).mono ?_
                    rw [HDK.out]
                    rintro e w1 ⟨rfl, rfl⟩
                    go_wp2_with fail
                    go_roundw
                    case rel => exact ⟨k + 1, dk, by go_num, rfl, by omega, hd32, HM2.out, by trivial⟩
                    case measure => simp [intOf]; omega
                  · have e5 : decide ((5 : Int) < dk) = true := by simp; omega
                    have e6 : decide (5 < dk) = true := by simp; omega
                    have HE := Lib.hid (HM.out.bad hlt HLF.out HDK.out (.inr (by omega)))
                    go_wp2_with fail
                    refine (HL.out W HF.out k).mono ?_
                    rw [HLF.out]
                    rintro e w1 ⟨rfl, rfl⟩
                    go_wp2_with fail
                    refine (HD.out W HF.out k).mono ?_
                    rw [HDK.out]
                    rintro e w1 ⟨rfl, rfl⟩
                    go_wp2
                    go_ret
                    exact ⟨9, rfl, ⟨fun h => absurd h (by omega), fun h => absurd h.even HE.out⟩, HF.out⟩
                · have g2 : ((dk : Int) != f) = true := by simp; omega
                  have g3 : (dk != f) = true := by simp; omega
                  have HE := Lib.hid (HM.out.bad hlt HLF.out HDK.out (.inl ⟨f0, fe⟩))
                  go_wp2_with fail
                  refine (HL.out W HF.out k).mono ?_
                  rw [HLF.out]
                  rintro e w1 ⟨rfl, rfl⟩
                  go_wp2_with fail
                  refine (HD.out W HF.out k).mono ?_
                  rw [HDK.out]
                  rintro e w1 ⟨rfl, rfl⟩
                  go_wp2
                  go_ret
                  exact ⟨9, rfl, ⟨fun h => absurd h (by omega), fun h => absurd h.even HE.out⟩, HF.out⟩
          · have e0 : decide ((k : Int) < P.length) = false := by simpa using hlt
            have e0' : decide (k < P.length) = false := by simpa using hlt
            have hkl : k = P.length := by omega
            have HEV := Lib.hid (show tEven P from tMid.all (f := f) (by rw [← hkl]; exact HM.out))
            clear HM hkl
            go_wp2_with fail
            go_loopw [7] (fun iv wx => ∃ k : Nat, iv = .int .i64 k ∧ k ≤ T.length ∧ (∀ i : Nat, i < k → tLeaf P (T[i]?.getD 0) = true) ∧ Frm [] W wx) (fun iv _ => T.length - (intOf iv).toNat)
            case atStart => exact ⟨0, rfl, by omega, fun i hi => by omega, Frm.refl _ _⟩
            case round =>
              obtain ⟨k, rfl, hk, hj, hF⟩ := hrel
              have HJ := Lib.hid hj
              have HG := Lib.hid hF
              clear hj hF e0 e0' hlt
              have k0 := (HB.out.frm HG.out (by simp)).cell (i := 0) rfl
              have k1 := (HB.out.frm HG.out (by simp)).cell (i := 1) rfl
              by_cases hlt : k < T.length
              · have e0 : decide ((k : Int) < T.length) = true := by simpa using hlt
                have e0' : decide (k < T.length) = true := by simpa using hlt
                have l1 : (k : Int) < T.length := by omega
                have hne : Nonempty (HW (fun wx => Frm [] wr wx)) := ⟨⟨wr, Frm.refl _ _⟩⟩
                have hz0 : ∀ q : HW (fun wx => Frm [] wr wx), q.w.cell? ⟨w.heap.size, 0, none⟩ = some (.slice (some ⟨b, off, none⟩) P.length cap) := fun q => q.h.cell k0 (by simp)
                have hz1 : ∀ q : HW (fun wx => Frm [] wr wx), q.w.cell? ⟨w.heap.size, 1, none⟩ = some (.slice (some ⟨b', off', none⟩) T.length cap') := fun q => q.h.cell k1 (by simp)
                have hz2 : ∀ q : HW (fun wx => Frm [] wr wx), q.w.cell? ⟨b', off' + k, none⟩ = some (.int .i64 (T[k]?.getD 0)) := fun q => HC'.out _ (HF.out.trans (HG.out.trans q.h)) k hlt
                generalize hp : T[k]?.getD 0 = p at *
                have HP := Lib.hid hp
                clear hp
                cases hlf : tLeaf P p with
                | true =>
                  have HLF := Lib.hid hlf
                  clear hlf
                  go_upto_region 23 with fail
                  refine held_begin (S := fun wx => Frm [] wr wx) (by kernel_rfl) ?_
                  refine held_row_at (fuel := 2) (is := [0, 1, 2, 3, 4, 5, 6]) (.cons rfl (.cons rfl (.cons rfl (.cons rfl (.cons rfl (.cons rfl (.cons rfl .nil))))))) (by kernel_rfl) (fun _ _ _ _ _ h => h) rfl (by kernel_rfl) (Frm.refl _ _).drew1 ?_
                  intro K hK
                  repeat (go_big_quiet_step (fail))
                  refine wpQuiet_nil (hK _ ?_)
                  clear hK K
                  refine held_call (fuel := 1) (i := 7) rfl (by kernel_rfl) ?_
                  go_wp2_with fail
                  refine (HL.out _ (HF.out.trans (HG.out.drew1)) p).mono ?_; rw [HLF.out]; rintro e w1 ⟨rfl, rfl⟩
                  go_wp2_with fail
                  refine onNormal_mk ⟨(Frm.refl _ _).drew1, ?_⟩
                  refine held_row_at (fuel := 0) (is := [8]) (.cons rfl .nil) (by kernel_rfl) (fun _ _ _ _ _ h => h) rfl (by kernel_rfl) (Frm.refl _ _).drew1 ?_
                  intro K hK
                  repeat (go_big_quiet_step (fail))
                  refine wpQuiet_nil (hK _ ?_)
                  clear hK K
                  refine held_end (by kernel_rfl) ?_
                  have HG2 := Lib.hid (HG.out.trans ((Frm.refl [] wr).drew1))
                  go_wp2_with fail
                  go_roundw
                  case rel =>
                    refine ⟨k + 1, by go_num, by omega, fun i hi => ?_, HG2.out⟩
                    by_cases e : i = k
                    · subst e; rw [HP.out]; exact HLF.out
                    · exact HJ.out i (by omega)
                  case measure => simp [intOf]; omega
                | false =>
                  have HLF := Lib.hid hlf
                  clear hlf
                  go_upto_region 23 with fail
                  refine held_begin (S := fun wx => Frm [] wr wx) (by kernel_rfl) ?_
                  refine held_row_at (fuel := 2) (is := [0, 1, 2, 3, 4, 5, 6]) (.cons rfl (.cons rfl (.cons rfl (.cons rfl (.cons rfl (.cons rfl (.cons rfl .nil))))))) (by kernel_rfl) (fun _ _ _ _ _ h => h) rfl (by kernel_rfl) (Frm.refl _ _).drew1 ?_
                  intro K hK
                  repeat (go_big_quiet_step (fail))
                  refine wpQuiet_nil (hK _ ?_)
                  clear hK K
                  refine held_call (fuel := 1) (i := 7) rfl (by kernel_rfl) ?_
                  go_wp2_with fail
                  refine (HL.out _ (HF.out.trans (HG.out.drew1)) p).mono ?_; rw [HLF.out]; rintro e w1 ⟨rfl, rfl⟩
                  go_wp2_with fail
                  refine onNormal_mk ⟨(Frm.refl _ _).drew1, ?_⟩
                  refine held_row_at (fuel := 0) (is := [8]) (.cons rfl .nil) (by kernel_rfl) (fun _ _ _ _ _ h => h) rfl (by kernel_rfl) (Frm.refl _ _).drew1 ?_
                  intro K hK
                  repeat (go_big_quiet_step (fail))
                  refine wpQuiet_nil (hK _ ?_)
                  clear hK K
                  refine held_end (by kernel_rfl) ?_
                  have HG2 := Lib.hid (HG.out.trans ((Frm.refl [] wr).drew1))
                  go_wp2
                  go_ret
                  refine ⟨4, rfl, ⟨fun h => absurd h (by omega), fun h => ?_⟩, HF.out.trans HG2.out⟩
                  have := h.ends p (by have h2 := HP.out; rw [List.getElem?_eq_getElem hlt] at h2; simp at h2; rw [← h2]; exact List.getElem_mem _)
                  rw [HLF.out] at this; cases this
              · have e0 : decide ((k : Int) < T.length) = false := by simpa using hlt
                have e0' : decide (k < T.length) = false := by simpa using hlt
                go_wp2
                go_ret
                refine ⟨0, rfl, ⟨fun _ => ⟨HS.out, HT.out, HEV.out, fun t ht => ?_⟩, fun _ => rfl⟩, HF.out.trans HG.out⟩
                obtain ⟨i, hi⟩ := List.getElem?_of_mem ht
                have := HJ.out i (by have := (List.getElem?_eq_some_iff.1 hi).1; omega)
                rw [hi] at this
                exact this
  · have e1 : (P[0]?.getD 0 == -1) = false := by simpa using hr
    have e2 : (P[0]?.getD 0 != -1) = true := by simpa using hr
    have HR := Lib.hid hr
    clear hr
    generalize hp : P[0]?.getD 0 = p at *
    go_wp2
    go_ret
    exact ⟨9, rfl, ⟨fun h => absurd h (by omega), fun h => absurd (hp.symm.trans h.tree.1) HR.out⟩, HF.out⟩
end Go.Proofs.YteijjhahgabalaaGreat

/- The contracts of the document's Check of any topology, and of Small. -/
namespace Go.Proofs.YteijjhahgabalaaGreat
open Go.RowKit

set_option maxRecDepth 100000 in
theorem rCheck_bad (w : World) {b1 b2 : Nat} {v u : Value} {P T : List Int} (hx : RowAt w b1 v P) (hy : RowAt w b2 u T) (hs : ¬ tSize P T) :
    Calls Tryz.prog 22 #[.agg #[v, u]] w fun e w' => ∃ r, e = .returned (.int .i64 r) ∧ (r = 0 ↔ TOk P T) ∧ Frm [] w w' := by
  have HN := Lib.hid (show ¬ TOk P T from fun h => hs h.size)
  have hs' : ¬ (1 ≤ P.length ∧ P.length ≤ 32 ∧ 1 ≤ T.length ∧ T.length ≤ 32) := hs
  obtain ⟨a, cap, rfl, h1, -⟩ := hx
  obtain ⟨a', cap', rfl, h2, -⟩ := hy
  unfold maxLen at h1 h2
  clear hs
  by_cases q1 : P.length < 1
  · have d1 : decide ((P.length : Int) < 1) = true := decide_eq_true (by omega)
    have d5 : decide (P.length < 1) = true := decide_eq_true q1
    clear hs'
    go_enter Tryz.func22, Tryz.ntmps22
    go_wp2
    go_ret
    exact ⟨8, rfl, ⟨fun h => absurd h (by omega), fun h => absurd h HN.out⟩, (Frm.refl _ _).alloc _⟩
  have d1 : decide ((P.length : Int) < 1) = false := decide_eq_false (by omega)
  have d5 : decide (P.length < 1) = false := decide_eq_false q1
  by_cases q2 : 32 < P.length
  · have d2 : decide ((32 : Int) < P.length) = true := decide_eq_true (by omega)
    have d6 : decide (32 < P.length) = true := decide_eq_true q2
    clear hs'
    go_enter Tryz.func22, Tryz.ntmps22
    go_wp2
    go_ret
    exact ⟨8, rfl, ⟨fun h => absurd h (by omega), fun h => absurd h HN.out⟩, (Frm.refl _ _).alloc _⟩
  have d2 : decide ((32 : Int) < P.length) = false := decide_eq_false (by omega)
  have d6 : decide (32 < P.length) = false := decide_eq_false q2
  by_cases q3 : T.length < 1
  · have d3 : decide ((T.length : Int) < 1) = true := decide_eq_true (by omega)
    have d7 : decide (T.length < 1) = true := decide_eq_true q3
    clear hs'
    go_enter Tryz.func22, Tryz.ntmps22
    go_wp2
    go_ret
    exact ⟨8, rfl, ⟨fun h => absurd h (by omega), fun h => absurd h HN.out⟩, (Frm.refl _ _).alloc _⟩
  have d3 : decide ((T.length : Int) < 1) = false := decide_eq_false (by omega)
  have d7 : decide (T.length < 1) = false := decide_eq_false q3
  have d4 : decide ((32 : Int) < T.length) = true := decide_eq_true (by omega)
  have d8 : decide (32 < T.length) = true := decide_eq_true (by omega)
  clear hs'
  go_enter Tryz.func22, Tryz.ntmps22
  go_wp2
  go_ret
  exact ⟨8, rfl, ⟨fun h => absurd h (by omega), fun h => absurd h HN.out⟩, (Frm.refl _ _).alloc _⟩
theorem rCheck_any (w : World) {b1 b2 : Nat} {v u : Value} {P T : List Int} (hx : RowAt w b1 v P) (hy : RowAt w b2 u T) :
    Calls Tryz.prog 22 #[.agg #[v, u]] w fun e w' => ∃ r, e = .returned (.int .i64 r) ∧ (r = 0 ↔ TOk P T) ∧ Frm [] w w' := by
  by_cases hs : tSize P T
  · exact rCheck_ok w hx hy hs
  · exact rCheck_bad w hx hy hs
/-- may the topology be, and has it few threads? -/
def tSmall (P T : List Int) (m : Nat) : Prop := TOk P T ∧ T.length ≤ m
theorem Small_any (w : World) {b1 b2 : Nat} {v u : Value} {P T : List Int} (hx : RowAt w b1 v P) (hy : RowAt w b2 u T) (m : Nat) :
    Calls Tryz.prog 7 #[.agg #[v, u], .int .i64 m] w fun e w' => ∃ r, e = .returned (.bool r) ∧ (r = true ↔ tSmall P T m) ∧ Frm [] w w' := by
  have HC := Lib.hid (fun (W : World) (hf : Frm [] w W) => rCheck_any W (hx.frm hf (by simp)) (hy.frm hf (by simp)))
  obtain ⟨a, cap, rfl, h1, -⟩ := hx
  obtain ⟨a', cap', rfl, h2, -⟩ := hy
  unfold maxLen at h1 h2
  go_enter Tryz.func7, Tryz.ntmps7
  go_wp2_with fail
  refine (HC.out _ ((Frm.refl _ _).alloc _)).mono ?_
  rintro e w1 ⟨r, rfl, hr, hF⟩
  have HF := Lib.hid (((Frm.refl [] w).alloc (.cells #[.slice a P.length cap, .slice a' T.length cap'] 24)).trans hF)
  have k1 := ((HAt.new w #[.slice a P.length cap, .slice a' T.length cap'] 24).frm hF (by simp)).cell (i := 1) rfl
  have HR := Lib.hid hr
  clear hF hr
  by_cases h0 : r = 0
  · have e0 : (r == 0) = true := by simpa using h0
    have HT := Lib.hid (HR.out.1 h0)
    clear h0
    by_cases hl : T.length ≤ m
    · have e1 : decide ((T.length : Int) ≤ m) = true := decide_eq_true (by omega)
      have e2 : decide (T.length ≤ m) = true := decide_eq_true hl
      go_wp2
      go_ret
      exact ⟨true, rfl, ⟨fun _ => ⟨HT.out, hl⟩, fun _ => rfl⟩, HF.out⟩
    · have e1 : decide ((T.length : Int) ≤ m) = false := decide_eq_false (by omega)
      have e2 : decide (T.length ≤ m) = false := decide_eq_false hl
      go_wp2
      go_ret
      exact ⟨false, rfl, ⟨fun h => absurd h (by simp), fun h => absurd h.2 hl⟩, HF.out⟩
  · have e0 : (r == 0) = false := by simpa using h0
    have HT := Lib.hid (show ¬ TOk P T from fun h => h0 (HR.out.2 h))
    clear h0
    go_wp2
    go_ret
    exact ⟨false, rfl, ⟨fun h => absurd h (by simp), fun h => absurd h.1 HT.out⟩, HF.out⟩
end Go.Proofs.YteijjhahgabalaaGreat
