/- World.step for a cohort lock. -/
import Derived.Test.YteijjhahgabalaaGreatQ21
import Derived.BigQuiet
import Derived.Test.YteijjhahgabalaaGreatQ07
import Derived.Test.YteijjhahgabalaaGreatQ09
namespace Go.Proofs.YteijjhahgabalaaGreat
open Go.RowKit
def evV (k th c : Int) : Value := .agg #[.int .i64 k, .int .i64 th, .bool false, .int .i64 c]
def stepE (K : CK) (S : CS) (i : Int) : Int × Int := if stOf (coPc K S i) = 1 ∧ coStepR K S i = true then (2, coCountV K (coStepS K S i) i) else if stOf (coPc K S i) = 3 ∧ coStepR K S i = true then (4, 0) else (0, 0)
theorem step_idle {K : CK} {S : CS} {i : Int} (h1 : stOf (coPc K S i) ≠ 1) (h3 : stOf (coPc K S i) ≠ 3) : coStepS K S i = S := by
  have : coMoves K S i = false := by
    unfold coMoves
    unfold coPc at h1 h3
    cases hs : sHas K.n i
    · rfl
    · rw [hs] at h1 h3
      simp only [if_true] at h1 h3
      unfold stOf at h1 h3
      by_cases e0 : S.TS i.toNat 0 = 0
      · rw [e0]; rfl
      · by_cases e1 : S.TS i.toNat 0 = 10
        · rw [e1]; rfl
        · exfalso
          rw [if_neg e0] at h1 h3
          by_cases e2 : S.TS i.toNat 0 < 10
          · rw [if_pos e2] at h1; exact h1 rfl
          · rw [if_neg e2, if_neg e1] at h3; exact h3 rfl
  unfold coStepS
  rw [this]; rfl
section
variable {w w' : World} {wo tb lk : Nat} {B : CB} {K : CK} {S S' : CS}
/-- an event's cells stored into another's block -/
theorem ev_fin {wx : World} {r : Nat} {x : List Value} (hr : HAt wx r x 35) (k th c : Int) (hx : x.length = 4) :
    HAt ((((wx.setCell ⟨r, 0, none⟩ (.int .i64 k)).setCell ⟨r, 1, none⟩ (.int .i64 th)).setCell ⟨r, 2, none⟩ (.bool false)).setCell ⟨r, 3, none⟩ (.int .i64 c)) r [.int .i64 k, .int .i64 th, .bool false, .int .i64 c] 35 ∧
    Frm [r] wx ((((wx.setCell ⟨r, 0, none⟩ (.int .i64 k)).setCell ⟨r, 1, none⟩ (.int .i64 th)).setCell ⟨r, 2, none⟩ (.bool false)).setCell ⟨r, 3, none⟩ (.int .i64 c)) := by
  obtain ⟨a, b, c', d, rfl⟩ : ∃ a b c d, x = [a, b, c, d] := by
    match x, hx with
    | [a, b, c, d], _ => exact ⟨a, b, c, d, rfl⟩
  exact ⟨((((hr.set 0 (.int .i64 k)).set 1 (.int .i64 th)).set 2 (.bool false)).set 3 (.int .i64 c)), ((((Frm.refl _ _).set _ _ (.inl (by simp))).set _ _ (.inl (by simp))).set _ _ (.inl (by simp))).set _ _ (.inl (by simp))⟩
set_option maxRecDepth 100000 in
set_option maxHeartbeats 4000000 in
theorem woStep_enter (h : WoAt w wo tb lk B K S) (hp : CoPc K S) (i : Int) (hst : stOf (coPc K S i) = 1) (hr : coStepR K S i = true) : Calls Tryz.prog 25 #[.pointer (some ⟨wo, 0, none⟩), .int .i64 i] w fun e w' => e = .returned (evV 2 i (coCountV K (coStepS K S i) i)) ∧ WoAt w' wo tb lk B K (coStepS K S i) ∧ Frm (CZ B K) w w' := by
  have hF0 : Frm [] w (w.alloc (.cells #[.int .i64 0, .int .i64 0, .bool false, .int .i64 0] 35)) := (Frm.refl _ _).alloc _
  have HR := Lib.hid (HAt.new w #[.int .i64 0, .int .i64 0, .bool false, .int .i64 0] 35)
  have hst' := woState (h.same hF0) i
  rw [hst] at hst'
  have HST := Lib.hid hst'
  have HF0 := Lib.hid hF0
  have H := Lib.hid h
  have hsp := fun (W : World) (hf : Frm [] w W) => loStep (h.lo.same hf) hp i
  rw [hr] at hsp
  have HSP := Lib.hid hsp
  clear hst' hsp h hF0 hst hr hp
  go_enter Tryz.func25, Tryz.ntmps25
  go_wp2_with fail
  refine HST.out.mono ?_
  rintro e w1 ⟨rfl, hF1⟩
  have HR1 := Lib.hid ((HR.out.frm hF1 (by simp)).frm ((Frm.refl [] w1).alloc (.cells #[.int .i64 0, .int .i64 i, .bool false, .int .i64 0] 35)) (by simp))
  have HE1 := Lib.hid (HAt.new w1 #[.int .i64 0, .int .i64 i, .bool false, .int .i64 0] 35)
  have HF1 := Lib.hid ((HF0.out.trans hF1).alloc (.cells #[.int .i64 0, .int .i64 i, .bool false, .int .i64 0] 35))
  have hsz1 := hF1.size
  rw [World.size_alloc] at hsz1
  clear hF1
  have c2 := (H.out.same HF1.out).box.cell (i := 2) rfl
  go_wp2_with fail
  refine (HSP.out _ HF1.out).mono ?_
  rintro e w2 ⟨rfl, hL, hF2⟩
  have hW2 := (H.out.same HF1.out).next hF2 hL
  have hm := (H.out.same HF1.out).lo.co.mut
  have HR2 := Lib.hid (HR1.out.frm hF2 (hm.not HR1.out))
  have HE2 := Lib.hid (HE1.out.frm hF2 (hm.not HE1.out))
  have HF2 := Lib.hid ((HF1.out.mono (S' := CZ B K) (by simp)).trans hF2)
  have HW2 := Lib.hid hW2
  have hsz2 := hF2.size
  rw [World.size_alloc] at hsz2
  clear hL hF2 hW2 hm c2 HR1 HE1 HF1
  have c2 := HW2.out.box.cell (i := 2) rfl
  go_wp2_with fail
  refine (loCount HW2.out.lo i).mono ?_
  rintro e w3 ⟨rfl, hL, hF3⟩
  have hm := HW2.out.lo.co.mut
  have HW3 := Lib.hid (HW2.out.next hF3 hL)
  have HR3 := Lib.hid (HR2.out.frm hF3 (hm.not HR2.out))
  have HE3 := Lib.hid (HE2.out.frm hF3 (hm.not HE2.out))
  have HF3 := Lib.hid (HF2.out.trans hF3)
  have hsz3 := hF3.size
  clear hL hF3 hm c2
  have heB : HAt ((w3.setCell ⟨w1.heap.size, 0, none⟩ (.int .i64 2)).setCell ⟨w1.heap.size, 3, none⟩ (.int .i64 (coCountV K (coStepS K S i) i))) w1.heap.size [.int .i64 2, .int .i64 i, .bool false, .int .i64 (coCountV K (coStepS K S i) i)] 35 := (HE3.out.set 0 (.int .i64 2)).set 3 (.int .i64 (coCountV K (coStepS K S i) i))
  have heF : Frm [w1.heap.size] w3 ((w3.setCell ⟨w1.heap.size, 0, none⟩ (.int .i64 2)).setCell ⟨w1.heap.size, 3, none⟩ (.int .i64 (coCountV K (coStepS K S i) i))) := ((Frm.refl [w1.heap.size] w3).set _ _ (.inl (by simp))).set _ _ (.inl (by simp))
  have hWe := HW3.out.evs HE3.out heF
  have hrB := HR3.out.frm heF (by simp; omega)
  have hfin := ev_fin hrB 2 i (coCountV K (coStepS K S i) i) rfl
  have HWF := Lib.hid (hWe.evs hrB hfin.2)
  have HRF := Lib.hid hfin.1
  have HFF := Lib.hid ((HF3.out.widen heF (fun z hz => .inr (by simp at hz; omega))).widen hfin.2 (fun z hz => .inr (by simp at hz; omega)))
  have e0 := HE3.out.cell (i := 0) rfl
  have e1 := HE3.out.cell (i := 1) rfl
  have e2 := HE3.out.cell (i := 2) rfl
  have e3 := HE3.out.cell (i := 3) rfl
  have ez := HE3.out.frozen
  have el := HE3.out.lt
  have r0 := HR3.out.cell (i := 0) rfl
  have r1 := HR3.out.cell (i := 1) rfl
  have r2 := HR3.out.cell (i := 2) rfl
  have r3 := HR3.out.cell (i := 3) rfl
  have rz := HR3.out.frozen
  have rl := HR3.out.lt
  have hne : w.heap.size ≠ w1.heap.size := by omega
  clear heB heF hWe hrB hfin
  go_wp2_with fail
  generalize ((((((w3.setCell ⟨w1.heap.size, 0, none⟩ (.int .i64 2)).setCell ⟨w1.heap.size, 3, none⟩ (.int .i64 (coCountV K (coStepS K S i) i))).setCell ⟨w.heap.size, 0, none⟩ (.int .i64 2)).setCell ⟨w.heap.size, 1, none⟩ (.int .i64 i)).setCell ⟨w.heap.size, 2, none⟩ (.bool false)).setCell ⟨w.heap.size, 3, none⟩ (.int .i64 (coCountV K (coStepS K S i) i))) = W2 at *
  have k0 := HRF.out.cell (i := 0) rfl
  have k1 := HRF.out.cell (i := 1) rfl
  have k2 := HRF.out.cell (i := 2) rfl
  have k3 := HRF.out.cell (i := 3) rfl
  exact bodyPost_ret (v := .agg #[.int .i64 2, .int .i64 i, .bool false, .int .i64 (coCountV K (coStepS K S i) i)]) (by simp [results, Tryz.results25, go_sem, k0, k1, k2, k3]) rfl ⟨rfl, HWF.out, HFF.out⟩
set_option maxRecDepth 100000 in
set_option maxHeartbeats 4000000 in
theorem woStep_come (h : WoAt w wo tb lk B K S) (hp : CoPc K S) (i : Int) (hst : stOf (coPc K S i) = 1) (hr : coStepR K S i = false) : Calls Tryz.prog 25 #[.pointer (some ⟨wo, 0, none⟩), .int .i64 i] w fun e w' => e = .returned (evV 0 i (0)) ∧ WoAt w' wo tb lk B K (coStepS K S i) ∧ Frm (CZ B K) w w' := by
  have hF0 : Frm [] w (w.alloc (.cells #[.int .i64 0, .int .i64 0, .bool false, .int .i64 0] 35)) := (Frm.refl _ _).alloc _
  have HR := Lib.hid (HAt.new w #[.int .i64 0, .int .i64 0, .bool false, .int .i64 0] 35)
  have hst' := woState (h.same hF0) i
  rw [hst] at hst'
  have HST := Lib.hid hst'
  have HF0 := Lib.hid hF0
  have H := Lib.hid h
  have hsp := fun (W : World) (hf : Frm [] w W) => loStep (h.lo.same hf) hp i
  rw [hr] at hsp
  have HSP := Lib.hid hsp
  clear hst' hsp h hF0 hst hr hp
  go_enter Tryz.func25, Tryz.ntmps25
  go_wp2_with fail
  refine HST.out.mono ?_
  rintro e w1 ⟨rfl, hF1⟩
  have HR1 := Lib.hid ((HR.out.frm hF1 (by simp)).frm ((Frm.refl [] w1).alloc (.cells #[.int .i64 0, .int .i64 i, .bool false, .int .i64 0] 35)) (by simp))
  have HE1 := Lib.hid (HAt.new w1 #[.int .i64 0, .int .i64 i, .bool false, .int .i64 0] 35)
  have HF1 := Lib.hid ((HF0.out.trans hF1).alloc (.cells #[.int .i64 0, .int .i64 i, .bool false, .int .i64 0] 35))
  have hsz1 := hF1.size
  rw [World.size_alloc] at hsz1
  clear hF1
  have c2 := (H.out.same HF1.out).box.cell (i := 2) rfl
  go_wp2_with fail
  refine (HSP.out _ HF1.out).mono ?_
  rintro e w2 ⟨rfl, hL, hF2⟩
  have hW2 := (H.out.same HF1.out).next hF2 hL
  have hm := (H.out.same HF1.out).lo.co.mut
  have HR2 := Lib.hid (HR1.out.frm hF2 (hm.not HR1.out))
  have HE2 := Lib.hid (HE1.out.frm hF2 (hm.not HE1.out))
  have HF2 := Lib.hid ((HF1.out.mono (S' := CZ B K) (by simp)).trans hF2)
  have HW2 := Lib.hid hW2
  have hsz2 := hF2.size
  rw [World.size_alloc] at hsz2
  clear hL hF2 hW2 hm c2 HR1 HE1 HF1
  have heB : HAt (w2) w1.heap.size [.int .i64 0, .int .i64 i, .bool false, .int .i64 (0)] 35 := HE2.out
  have heF : Frm [w1.heap.size] w2 (w2) := Frm.refl [w1.heap.size] w2
  have hWe := HW2.out.evs HE2.out heF
  have hrB := HR2.out.frm heF (by simp; omega)
  have hfin := ev_fin hrB 0 i (0) rfl
  have HWF := Lib.hid (hWe.evs hrB hfin.2)
  have HRF := Lib.hid hfin.1
  have HFF := Lib.hid ((HF2.out.widen heF (fun z hz => .inr (by simp at hz; omega))).widen hfin.2 (fun z hz => .inr (by simp at hz; omega)))
  have e0 := HE2.out.cell (i := 0) rfl
  have e1 := HE2.out.cell (i := 1) rfl
  have e2 := HE2.out.cell (i := 2) rfl
  have e3 := HE2.out.cell (i := 3) rfl
  have ez := HE2.out.frozen
  have el := HE2.out.lt
  have r0 := HR2.out.cell (i := 0) rfl
  have r1 := HR2.out.cell (i := 1) rfl
  have r2 := HR2.out.cell (i := 2) rfl
  have r3 := HR2.out.cell (i := 3) rfl
  have rz := HR2.out.frozen
  have rl := HR2.out.lt
  have hne : w.heap.size ≠ w1.heap.size := by omega
  clear heB heF hWe hrB hfin
  go_wp2_with fail
  generalize (((((w2).setCell ⟨w.heap.size, 0, none⟩ (.int .i64 0)).setCell ⟨w.heap.size, 1, none⟩ (.int .i64 i)).setCell ⟨w.heap.size, 2, none⟩ (.bool false)).setCell ⟨w.heap.size, 3, none⟩ (.int .i64 (0))) = W2 at *
  have k0 := HRF.out.cell (i := 0) rfl
  have k1 := HRF.out.cell (i := 1) rfl
  have k2 := HRF.out.cell (i := 2) rfl
  have k3 := HRF.out.cell (i := 3) rfl
  exact bodyPost_ret (v := .agg #[.int .i64 0, .int .i64 i, .bool false, .int .i64 (0)]) (by simp [results, Tryz.results25, go_sem, k0, k1, k2, k3]) rfl ⟨rfl, HWF.out, HFF.out⟩
set_option maxRecDepth 100000 in
set_option maxHeartbeats 4000000 in
theorem woStep_rest (h : WoAt w wo tb lk B K S) (hp : CoPc K S) (i : Int) (hst : stOf (coPc K S i) = 3) (hr : coStepR K S i = true) : Calls Tryz.prog 25 #[.pointer (some ⟨wo, 0, none⟩), .int .i64 i] w fun e w' => e = .returned (evV 4 i (0)) ∧ WoAt w' wo tb lk B K (coStepS K S i) ∧ Frm (CZ B K) w w' := by
  have hF0 : Frm [] w (w.alloc (.cells #[.int .i64 0, .int .i64 0, .bool false, .int .i64 0] 35)) := (Frm.refl _ _).alloc _
  have HR := Lib.hid (HAt.new w #[.int .i64 0, .int .i64 0, .bool false, .int .i64 0] 35)
  have hst' := woState (h.same hF0) i
  rw [hst] at hst'
  have HST := Lib.hid hst'
  have HF0 := Lib.hid hF0
  have H := Lib.hid h
  have hsp := fun (W : World) (hf : Frm [] w W) => loStep (h.lo.same hf) hp i
  rw [hr] at hsp
  have HSP := Lib.hid hsp
  clear hst' hsp h hF0 hst hr hp
  go_enter Tryz.func25, Tryz.ntmps25
  go_wp2_with fail
  refine HST.out.mono ?_
  rintro e w1 ⟨rfl, hF1⟩
  have HR1 := Lib.hid ((HR.out.frm hF1 (by simp)).frm ((Frm.refl [] w1).alloc (.cells #[.int .i64 0, .int .i64 i, .bool false, .int .i64 0] 35)) (by simp))
  have HE1 := Lib.hid (HAt.new w1 #[.int .i64 0, .int .i64 i, .bool false, .int .i64 0] 35)
  have HF1 := Lib.hid ((HF0.out.trans hF1).alloc (.cells #[.int .i64 0, .int .i64 i, .bool false, .int .i64 0] 35))
  have hsz1 := hF1.size
  rw [World.size_alloc] at hsz1
  clear hF1
  have c2 := (H.out.same HF1.out).box.cell (i := 2) rfl
  go_wp2_with fail
  refine (HSP.out _ HF1.out).mono ?_
  rintro e w2 ⟨rfl, hL, hF2⟩
  have hW2 := (H.out.same HF1.out).next hF2 hL
  have hm := (H.out.same HF1.out).lo.co.mut
  have HR2 := Lib.hid (HR1.out.frm hF2 (hm.not HR1.out))
  have HE2 := Lib.hid (HE1.out.frm hF2 (hm.not HE1.out))
  have HF2 := Lib.hid ((HF1.out.mono (S' := CZ B K) (by simp)).trans hF2)
  have HW2 := Lib.hid hW2
  have hsz2 := hF2.size
  rw [World.size_alloc] at hsz2
  clear hL hF2 hW2 hm c2 HR1 HE1 HF1
  have heB : HAt (w2.setCell ⟨w1.heap.size, 0, none⟩ (.int .i64 4)) w1.heap.size [.int .i64 4, .int .i64 i, .bool false, .int .i64 (0)] 35 := HE2.out.set 0 (.int .i64 4)
  have heF : Frm [w1.heap.size] w2 (w2.setCell ⟨w1.heap.size, 0, none⟩ (.int .i64 4)) := (Frm.refl [w1.heap.size] w2).set _ _ (.inl (by simp))
  have hWe := HW2.out.evs HE2.out heF
  have hrB := HR2.out.frm heF (by simp; omega)
  have hfin := ev_fin hrB 4 i (0) rfl
  have HWF := Lib.hid (hWe.evs hrB hfin.2)
  have HRF := Lib.hid hfin.1
  have HFF := Lib.hid ((HF2.out.widen heF (fun z hz => .inr (by simp at hz; omega))).widen hfin.2 (fun z hz => .inr (by simp at hz; omega)))
  have e0 := HE2.out.cell (i := 0) rfl
  have e1 := HE2.out.cell (i := 1) rfl
  have e2 := HE2.out.cell (i := 2) rfl
  have e3 := HE2.out.cell (i := 3) rfl
  have ez := HE2.out.frozen
  have el := HE2.out.lt
  have r0 := HR2.out.cell (i := 0) rfl
  have r1 := HR2.out.cell (i := 1) rfl
  have r2 := HR2.out.cell (i := 2) rfl
  have r3 := HR2.out.cell (i := 3) rfl
  have rz := HR2.out.frozen
  have rl := HR2.out.lt
  have hne : w.heap.size ≠ w1.heap.size := by omega
  clear heB heF hWe hrB hfin
  go_wp2_with fail
  generalize (((((w2.setCell ⟨w1.heap.size, 0, none⟩ (.int .i64 4)).setCell ⟨w.heap.size, 0, none⟩ (.int .i64 4)).setCell ⟨w.heap.size, 1, none⟩ (.int .i64 i)).setCell ⟨w.heap.size, 2, none⟩ (.bool false)).setCell ⟨w.heap.size, 3, none⟩ (.int .i64 (0))) = W2 at *
  have k0 := HRF.out.cell (i := 0) rfl
  have k1 := HRF.out.cell (i := 1) rfl
  have k2 := HRF.out.cell (i := 2) rfl
  have k3 := HRF.out.cell (i := 3) rfl
  exact bodyPost_ret (v := .agg #[.int .i64 4, .int .i64 i, .bool false, .int .i64 (0)]) (by simp [results, Tryz.results25, go_sem, k0, k1, k2, k3]) rfl ⟨rfl, HWF.out, HFF.out⟩
set_option maxRecDepth 100000 in
set_option maxHeartbeats 4000000 in
theorem woStep_go (h : WoAt w wo tb lk B K S) (hp : CoPc K S) (i : Int) (hst : stOf (coPc K S i) = 3) (hr : coStepR K S i = false) : Calls Tryz.prog 25 #[.pointer (some ⟨wo, 0, none⟩), .int .i64 i] w fun e w' => e = .returned (evV 0 i (0)) ∧ WoAt w' wo tb lk B K (coStepS K S i) ∧ Frm (CZ B K) w w' := by
  have hF0 : Frm [] w (w.alloc (.cells #[.int .i64 0, .int .i64 0, .bool false, .int .i64 0] 35)) := (Frm.refl _ _).alloc _
  have HR := Lib.hid (HAt.new w #[.int .i64 0, .int .i64 0, .bool false, .int .i64 0] 35)
  have hst' := woState (h.same hF0) i
  rw [hst] at hst'
  have HST := Lib.hid hst'
  have HF0 := Lib.hid hF0
  have H := Lib.hid h
  have hsp := fun (W : World) (hf : Frm [] w W) => loStep (h.lo.same hf) hp i
  rw [hr] at hsp
  have HSP := Lib.hid hsp
  clear hst' hsp h hF0 hst hr hp
  go_enter Tryz.func25, Tryz.ntmps25
  go_wp2_with fail
  refine HST.out.mono ?_
  rintro e w1 ⟨rfl, hF1⟩
  have HR1 := Lib.hid ((HR.out.frm hF1 (by simp)).frm ((Frm.refl [] w1).alloc (.cells #[.int .i64 0, .int .i64 i, .bool false, .int .i64 0] 35)) (by simp))
  have HE1 := Lib.hid (HAt.new w1 #[.int .i64 0, .int .i64 i, .bool false, .int .i64 0] 35)
  have HF1 := Lib.hid ((HF0.out.trans hF1).alloc (.cells #[.int .i64 0, .int .i64 i, .bool false, .int .i64 0] 35))
  have hsz1 := hF1.size
  rw [World.size_alloc] at hsz1
  clear hF1
  have c2 := (H.out.same HF1.out).box.cell (i := 2) rfl
  go_wp2_with fail
  refine (HSP.out _ HF1.out).mono ?_
  rintro e w2 ⟨rfl, hL, hF2⟩
  have hW2 := (H.out.same HF1.out).next hF2 hL
  have hm := (H.out.same HF1.out).lo.co.mut
  have HR2 := Lib.hid (HR1.out.frm hF2 (hm.not HR1.out))
  have HE2 := Lib.hid (HE1.out.frm hF2 (hm.not HE1.out))
  have HF2 := Lib.hid ((HF1.out.mono (S' := CZ B K) (by simp)).trans hF2)
  have HW2 := Lib.hid hW2
  have hsz2 := hF2.size
  rw [World.size_alloc] at hsz2
  clear hL hF2 hW2 hm c2 HR1 HE1 HF1
  have heB : HAt (w2) w1.heap.size [.int .i64 0, .int .i64 i, .bool false, .int .i64 (0)] 35 := HE2.out
  have heF : Frm [w1.heap.size] w2 (w2) := Frm.refl [w1.heap.size] w2
  have hWe := HW2.out.evs HE2.out heF
  have hrB := HR2.out.frm heF (by simp; omega)
  have hfin := ev_fin hrB 0 i (0) rfl
  have HWF := Lib.hid (hWe.evs hrB hfin.2)
  have HRF := Lib.hid hfin.1
  have HFF := Lib.hid ((HF2.out.widen heF (fun z hz => .inr (by simp at hz; omega))).widen hfin.2 (fun z hz => .inr (by simp at hz; omega)))
  have e0 := HE2.out.cell (i := 0) rfl
  have e1 := HE2.out.cell (i := 1) rfl
  have e2 := HE2.out.cell (i := 2) rfl
  have e3 := HE2.out.cell (i := 3) rfl
  have ez := HE2.out.frozen
  have el := HE2.out.lt
  have r0 := HR2.out.cell (i := 0) rfl
  have r1 := HR2.out.cell (i := 1) rfl
  have r2 := HR2.out.cell (i := 2) rfl
  have r3 := HR2.out.cell (i := 3) rfl
  have rz := HR2.out.frozen
  have rl := HR2.out.lt
  have hne : w.heap.size ≠ w1.heap.size := by omega
  clear heB heF hWe hrB hfin
  go_wp2_with fail
  generalize (((((w2).setCell ⟨w.heap.size, 0, none⟩ (.int .i64 0)).setCell ⟨w.heap.size, 1, none⟩ (.int .i64 i)).setCell ⟨w.heap.size, 2, none⟩ (.bool false)).setCell ⟨w.heap.size, 3, none⟩ (.int .i64 (0))) = W2 at *
  have k0 := HRF.out.cell (i := 0) rfl
  have k1 := HRF.out.cell (i := 1) rfl
  have k2 := HRF.out.cell (i := 2) rfl
  have k3 := HRF.out.cell (i := 3) rfl
  exact bodyPost_ret (v := .agg #[.int .i64 0, .int .i64 i, .bool false, .int .i64 (0)]) (by simp [results, Tryz.results25, go_sem, k0, k1, k2, k3]) rfl ⟨rfl, HWF.out, HFF.out⟩
set_option maxRecDepth 100000 in
set_option maxHeartbeats 4000000 in
theorem woStep_idle (h : WoAt w wo tb lk B K S) (hp : CoPc K S) (i : Int) (h1 : stOf (coPc K S i) ≠ 1) (h3 : stOf (coPc K S i) ≠ 3) : Calls Tryz.prog 25 #[.pointer (some ⟨wo, 0, none⟩), .int .i64 i] w fun e w' => e = .returned (evV 0 i (0)) ∧ WoAt w' wo tb lk B K (S) ∧ Frm (CZ B K) w w' := by
  have hF0 : Frm [] w (w.alloc (.cells #[.int .i64 0, .int .i64 0, .bool false, .int .i64 0] 35)) := (Frm.refl _ _).alloc _
  have HR := Lib.hid (HAt.new w #[.int .i64 0, .int .i64 0, .bool false, .int .i64 0] 35)
  have hst' := woState (h.same hF0) i
  generalize stOf (coPc K S i) = st at *
  have d1 : (st == 1) = false := by simpa using h1
  have d3 : (st == 3) = false := by simpa using h3
  have HST := Lib.hid hst'
  have HF0 := Lib.hid hF0
  have H := Lib.hid h
  clear hst' h hF0 h1 h3 hp
  go_enter Tryz.func25, Tryz.ntmps25
  go_wp2_with fail
  refine HST.out.mono ?_
  rintro e w1 ⟨rfl, hF1⟩
  have HR1 := Lib.hid ((HR.out.frm hF1 (by simp)).frm ((Frm.refl [] w1).alloc (.cells #[.int .i64 0, .int .i64 i, .bool false, .int .i64 0] 35)) (by simp))
  have HE1 := Lib.hid (HAt.new w1 #[.int .i64 0, .int .i64 i, .bool false, .int .i64 0] 35)
  have HF1 := Lib.hid ((HF0.out.trans hF1).alloc (.cells #[.int .i64 0, .int .i64 i, .bool false, .int .i64 0] 35))
  have hsz1 := hF1.size
  rw [World.size_alloc] at hsz1
  clear hF1
  have c2 := (H.out.same HF1.out).box.cell (i := 2) rfl
  have HW1 := Lib.hid (H.out.same HF1.out)
  have HF1' := Lib.hid (HF1.out.mono (S' := CZ B K) (by simp))
  clear HF1
  have HF1 := HF1'
  have heB : HAt ((w1.alloc (.cells #[.int .i64 0, .int .i64 i, .bool false, .int .i64 0] 35))) w1.heap.size [.int .i64 0, .int .i64 i, .bool false, .int .i64 (0)] 35 := HE1.out
  have heF : Frm [w1.heap.size] (w1.alloc (.cells #[.int .i64 0, .int .i64 i, .bool false, .int .i64 0] 35)) ((w1.alloc (.cells #[.int .i64 0, .int .i64 i, .bool false, .int .i64 0] 35))) := Frm.refl [w1.heap.size] (w1.alloc (.cells #[.int .i64 0, .int .i64 i, .bool false, .int .i64 0] 35))
  have hWe := HW1.out.evs HE1.out heF
  have hrB := HR1.out.frm heF (by simp; omega)
  have hfin := ev_fin hrB 0 i (0) rfl
  have HWF := Lib.hid (hWe.evs hrB hfin.2)
  have HRF := Lib.hid hfin.1
  have HFF := Lib.hid ((HF1.out.widen heF (fun z hz => .inr (by simp at hz; omega))).widen hfin.2 (fun z hz => .inr (by simp at hz; omega)))
  have e0 := HE1.out.cell (i := 0) rfl
  have e1 := HE1.out.cell (i := 1) rfl
  have e2 := HE1.out.cell (i := 2) rfl
  have e3 := HE1.out.cell (i := 3) rfl
  have ez := HE1.out.frozen
  have el := HE1.out.lt
  have r0 := HR1.out.cell (i := 0) rfl
  have r1 := HR1.out.cell (i := 1) rfl
  have r2 := HR1.out.cell (i := 2) rfl
  have r3 := HR1.out.cell (i := 3) rfl
  have rz := HR1.out.frozen
  have rl := HR1.out.lt
  have hne : w.heap.size ≠ w1.heap.size := by omega
  clear heB heF hWe hrB hfin
  go_wp2_with fail
  generalize ((((((w1.alloc (.cells #[.int .i64 0, .int .i64 i, .bool false, .int .i64 0] 35))).setCell ⟨w.heap.size, 0, none⟩ (.int .i64 0)).setCell ⟨w.heap.size, 1, none⟩ (.int .i64 i)).setCell ⟨w.heap.size, 2, none⟩ (.bool false)).setCell ⟨w.heap.size, 3, none⟩ (.int .i64 (0))) = W2 at *
  have k0 := HRF.out.cell (i := 0) rfl
  have k1 := HRF.out.cell (i := 1) rfl
  have k2 := HRF.out.cell (i := 2) rfl
  have k3 := HRF.out.cell (i := 3) rfl
  exact bodyPost_ret (v := .agg #[.int .i64 0, .int .i64 i, .bool false, .int .i64 (0)]) (by simp [results, Tryz.results25, go_sem, k0, k1, k2, k3]) rfl ⟨rfl, HWF.out, HFF.out⟩
theorem woStep (h : WoAt w wo tb lk B K S) (hp : CoPc K S) (i : Int) : Calls Tryz.prog 25 #[.pointer (some ⟨wo, 0, none⟩), .int .i64 i] w fun e w' => e = .returned (evV (stepE K S i).1 i (stepE K S i).2) ∧ WoAt w' wo tb lk B K (coStepS K S i) ∧ Frm (CZ B K) w w' := by
  unfold stepE
  by_cases h1 : stOf (coPc K S i) = 1
  · cases hr : coStepR K S i with
    | true => rw [if_pos ⟨h1, rfl⟩]; exact woStep_enter h hp i h1 hr
    | false => rw [if_neg (fun x => by simp at x), if_neg (fun x => by simp at x)]; exact woStep_come h hp i h1 hr
  · by_cases h3 : stOf (coPc K S i) = 3
    · cases hr : coStepR K S i with
      | true => rw [if_neg (fun x => h1 x.1), if_pos ⟨h3, rfl⟩]; exact woStep_rest h hp i h3 hr
      | false => rw [if_neg (fun x => by simp at x), if_neg (fun x => by simp at x)]; exact woStep_go h hp i h3 hr
    · rw [if_neg (fun x => h1 x.1), if_neg (fun x => h3 x.1), step_idle h1 h3]; exact woStep_idle h hp i h1 h3
end
end Go.Proofs.YteijjhahgabalaaGreat

/- World.asks, World.leaves for a cohort lock. -/
namespace Go.Proofs.YteijjhahgabalaaGreat
open Go.RowKit
section
variable {w w' : World} {wo tb lk : Nat} {B : CB} {K : CK} {S S' : CS}
set_option maxRecDepth 100000 in
set_option maxHeartbeats 4000000 in
theorem woAsks_read (h : WoAt w wo tb lk B K S) (i : Int)  : Calls Tryz.prog 26 #[.pointer (some ⟨wo, 0, none⟩), .int .i64 i, .bool true] w fun e w' => e = .returned (evV 5 i 0) ∧ WoAt w' wo tb lk B K (S) ∧ Frm (CZ B K) w w' := by
  have hF0 : Frm [] w (w.alloc (.cells #[.int .i64 0, .int .i64 0, .bool false, .int .i64 0] 35)) := (Frm.refl _ _).alloc _
  have HR := Lib.hid (HAt.new w #[.int .i64 0, .int .i64 0, .bool false, .int .i64 0] 35)
  have hst' := woState (h.same hF0) i
  have HST := Lib.hid hst'
  have HF0 := Lib.hid hF0
  have H := Lib.hid h
  clear hst' h hF0
  go_enter Tryz.func26, Tryz.ntmps26
  go_wp2_with fail
  refine HST.out.mono ?_
  rintro e w1 ⟨rfl, hF1⟩
  have HR1 := Lib.hid (HR.out.frm hF1 (by simp))
  have HF1 := Lib.hid (HF0.out.trans hF1)
  clear hF1
  have c2 := (H.out.same HF1.out).box.cell (i := 2) rfl
  have c3 := (H.out.same HF1.out).box.cell (i := 3) rfl
  have HW1 := Lib.hid (H.out.same HF1.out)
  have HF1' := Lib.hid (HF1.out.mono (S' := CZ B K) (by simp))
  clear HF1
  have HF1 := HF1'
  have hfin := ev_fin HR1.out 5 i 0 rfl
  have HWF := Lib.hid (HW1.out.evs HR1.out hfin.2)
  have HRF := Lib.hid hfin.1
  have HFF := Lib.hid (HF1.out.widen hfin.2 (fun z hz => .inr (by simp at hz; omega)))
  have r0 := HR1.out.cell (i := 0) rfl
  have r1 := HR1.out.cell (i := 1) rfl
  have r2 := HR1.out.cell (i := 2) rfl
  have r3 := HR1.out.cell (i := 3) rfl
  have rz := HR1.out.frozen
  have rl := HR1.out.lt
  clear hfin
  go_wp2_with fail
  generalize ((((w1).setCell ⟨w.heap.size, 0, none⟩ (.int .i64 5)).setCell ⟨w.heap.size, 1, none⟩ (.int .i64 i)).setCell ⟨w.heap.size, 2, none⟩ (.bool false)).setCell ⟨w.heap.size, 3, none⟩ (.int .i64 0) = W2 at *
  have k0 := HRF.out.cell (i := 0) rfl
  have k1 := HRF.out.cell (i := 1) rfl
  have k2 := HRF.out.cell (i := 2) rfl
  have k3 := HRF.out.cell (i := 3) rfl
  exact bodyPost_ret (v := .agg #[.int .i64 5, .int .i64 i, .bool false, .int .i64 0]) (by simp [results, Tryz.results26, go_sem, k0, k1, k2, k3]) rfl ⟨rfl, HWF.out, HFF.out⟩
set_option maxRecDepth 100000 in
set_option maxHeartbeats 4000000 in
theorem woAsks_yes (h : WoAt w wo tb lk B K S) (i : Int) (hr : kTurnOk K.n S.TS i 0 = true) : Calls Tryz.prog 26 #[.pointer (some ⟨wo, 0, none⟩), .int .i64 i, .bool false] w fun e w' => e = .returned (evV 1 i 0) ∧ WoAt w' wo tb lk B K (coAskS K S i) ∧ Frm (CZ B K) w w' := by
  have hF0 : Frm [] w (w.alloc (.cells #[.int .i64 0, .int .i64 0, .bool false, .int .i64 0] 35)) := (Frm.refl _ _).alloc _
  have HR := Lib.hid (HAt.new w #[.int .i64 0, .int .i64 0, .bool false, .int .i64 0] 35)
  have hst' := woState (h.same hF0) i
  have HST := Lib.hid hst'
  have HF0 := Lib.hid hF0
  have H := Lib.hid h
  have hsp := fun (W : World) (hf : Frm [] w W) => loAsk (h.lo.same hf) i
  rw [hr] at hsp
  have HSP := Lib.hid hsp
  clear hsp hr
  clear hst' h hF0
  go_enter Tryz.func26, Tryz.ntmps26
  go_wp2_with fail
  refine HST.out.mono ?_
  rintro e w1 ⟨rfl, hF1⟩
  have HR1 := Lib.hid (HR.out.frm hF1 (by simp))
  have HF1 := Lib.hid (HF0.out.trans hF1)
  clear hF1
  have c2 := (H.out.same HF1.out).box.cell (i := 2) rfl
  have c3 := (H.out.same HF1.out).box.cell (i := 3) rfl
  go_wp2_with fail
  refine (HSP.out _ HF1.out).mono ?_
  rintro e w2 ⟨rfl, hL, hF2⟩
  have hW2 := (H.out.same HF1.out).next hF2 hL
  have hm := (H.out.same HF1.out).lo.co.mut
  have HR2 := Lib.hid (HR1.out.frm hF2 (hm.not HR1.out))
  have HF2 := Lib.hid ((HF1.out.mono (S' := CZ B K) (by simp)).trans hF2)
  have HW2 := Lib.hid hW2
  clear hL hF2 hW2 hm c2 c3 HR1 HF1
  have hfin := ev_fin HR2.out 1 i 0 rfl
  have HWF := Lib.hid (HW2.out.evs HR2.out hfin.2)
  have HRF := Lib.hid hfin.1
  have HFF := Lib.hid (HF2.out.widen hfin.2 (fun z hz => .inr (by simp at hz; omega)))
  have r0 := HR2.out.cell (i := 0) rfl
  have r1 := HR2.out.cell (i := 1) rfl
  have r2 := HR2.out.cell (i := 2) rfl
  have r3 := HR2.out.cell (i := 3) rfl
  have rz := HR2.out.frozen
  have rl := HR2.out.lt
  clear hfin
  go_wp2_with fail
  generalize ((((w2).setCell ⟨w.heap.size, 0, none⟩ (.int .i64 1)).setCell ⟨w.heap.size, 1, none⟩ (.int .i64 i)).setCell ⟨w.heap.size, 2, none⟩ (.bool false)).setCell ⟨w.heap.size, 3, none⟩ (.int .i64 0) = W2 at *
  have k0 := HRF.out.cell (i := 0) rfl
  have k1 := HRF.out.cell (i := 1) rfl
  have k2 := HRF.out.cell (i := 2) rfl
  have k3 := HRF.out.cell (i := 3) rfl
  exact bodyPost_ret (v := .agg #[.int .i64 1, .int .i64 i, .bool false, .int .i64 0]) (by simp [results, Tryz.results26, go_sem, k0, k1, k2, k3]) rfl ⟨rfl, HWF.out, HFF.out⟩
set_option maxRecDepth 100000 in
set_option maxHeartbeats 4000000 in
theorem woAsks_no (h : WoAt w wo tb lk B K S) (i : Int) (hr : kTurnOk K.n S.TS i 0 = false) : Calls Tryz.prog 26 #[.pointer (some ⟨wo, 0, none⟩), .int .i64 i, .bool false] w fun e w' => e = .returned (evV 5 i 0) ∧ WoAt w' wo tb lk B K (coAskS K S i) ∧ Frm (CZ B K) w w' := by
  have hF0 : Frm [] w (w.alloc (.cells #[.int .i64 0, .int .i64 0, .bool false, .int .i64 0] 35)) := (Frm.refl _ _).alloc _
  have HR := Lib.hid (HAt.new w #[.int .i64 0, .int .i64 0, .bool false, .int .i64 0] 35)
  have hst' := woState (h.same hF0) i
  have HST := Lib.hid hst'
  have HF0 := Lib.hid hF0
  have H := Lib.hid h
  have hsp := fun (W : World) (hf : Frm [] w W) => loAsk (h.lo.same hf) i
  rw [hr] at hsp
  have HSP := Lib.hid hsp
  clear hsp hr
  clear hst' h hF0
  go_enter Tryz.func26, Tryz.ntmps26
  go_wp2_with fail
  refine HST.out.mono ?_
  rintro e w1 ⟨rfl, hF1⟩
  have HR1 := Lib.hid (HR.out.frm hF1 (by simp))
  have HF1 := Lib.hid (HF0.out.trans hF1)
  clear hF1
  have c2 := (H.out.same HF1.out).box.cell (i := 2) rfl
  have c3 := (H.out.same HF1.out).box.cell (i := 3) rfl
  go_wp2_with fail
  refine (HSP.out _ HF1.out).mono ?_
  rintro e w2 ⟨rfl, hL, hF2⟩
  have hW2 := (H.out.same HF1.out).next hF2 hL
  have hm := (H.out.same HF1.out).lo.co.mut
  have HR2 := Lib.hid (HR1.out.frm hF2 (hm.not HR1.out))
  have HF2 := Lib.hid ((HF1.out.mono (S' := CZ B K) (by simp)).trans hF2)
  have HW2 := Lib.hid hW2
  clear hL hF2 hW2 hm c2 c3 HR1 HF1
  have hfin := ev_fin HR2.out 5 i 0 rfl
  have HWF := Lib.hid (HW2.out.evs HR2.out hfin.2)
  have HRF := Lib.hid hfin.1
  have HFF := Lib.hid (HF2.out.widen hfin.2 (fun z hz => .inr (by simp at hz; omega)))
  have r0 := HR2.out.cell (i := 0) rfl
  have r1 := HR2.out.cell (i := 1) rfl
  have r2 := HR2.out.cell (i := 2) rfl
  have r3 := HR2.out.cell (i := 3) rfl
  have rz := HR2.out.frozen
  have rl := HR2.out.lt
  clear hfin
  go_wp2_with fail
  generalize ((((w2).setCell ⟨w.heap.size, 0, none⟩ (.int .i64 5)).setCell ⟨w.heap.size, 1, none⟩ (.int .i64 i)).setCell ⟨w.heap.size, 2, none⟩ (.bool false)).setCell ⟨w.heap.size, 3, none⟩ (.int .i64 0) = W2 at *
  have k0 := HRF.out.cell (i := 0) rfl
  have k1 := HRF.out.cell (i := 1) rfl
  have k2 := HRF.out.cell (i := 2) rfl
  have k3 := HRF.out.cell (i := 3) rfl
  exact bodyPost_ret (v := .agg #[.int .i64 5, .int .i64 i, .bool false, .int .i64 0]) (by simp [results, Tryz.results26, go_sem, k0, k1, k2, k3]) rfl ⟨rfl, HWF.out, HFF.out⟩
set_option maxRecDepth 100000 in
set_option maxHeartbeats 4000000 in
theorem woLeaves_read (h : WoAt w wo tb lk B K S) (i : Int)  : Calls Tryz.prog 27 #[.pointer (some ⟨wo, 0, none⟩), .int .i64 i, .bool true] w fun e w' => e = .returned (evV 5 i 0) ∧ WoAt w' wo tb lk B K (S) ∧ Frm (CZ B K) w w' := by
  have hF0 : Frm [] w (w.alloc (.cells #[.int .i64 0, .int .i64 0, .bool false, .int .i64 0] 35)) := (Frm.refl _ _).alloc _
  have HR := Lib.hid (HAt.new w #[.int .i64 0, .int .i64 0, .bool false, .int .i64 0] 35)
  have hst' := woState (h.same hF0) i
  have HST := Lib.hid hst'
  have HF0 := Lib.hid hF0
  have H := Lib.hid h
  clear hst' h hF0
  go_enter Tryz.func27, Tryz.ntmps27
  go_wp2_with fail
  refine HST.out.mono ?_
  rintro e w1 ⟨rfl, hF1⟩
  have HR1 := Lib.hid (HR.out.frm hF1 (by simp))
  have HF1 := Lib.hid (HF0.out.trans hF1)
  clear hF1
  have c2 := (H.out.same HF1.out).box.cell (i := 2) rfl
  have c3 := (H.out.same HF1.out).box.cell (i := 3) rfl
  have HW1 := Lib.hid (H.out.same HF1.out)
  have HF1' := Lib.hid (HF1.out.mono (S' := CZ B K) (by simp))
  clear HF1
  have HF1 := HF1'
  have hfin := ev_fin HR1.out 5 i 0 rfl
  have HWF := Lib.hid (HW1.out.evs HR1.out hfin.2)
  have HRF := Lib.hid hfin.1
  have HFF := Lib.hid (HF1.out.widen hfin.2 (fun z hz => .inr (by simp at hz; omega)))
  have r0 := HR1.out.cell (i := 0) rfl
  have r1 := HR1.out.cell (i := 1) rfl
  have r2 := HR1.out.cell (i := 2) rfl
  have r3 := HR1.out.cell (i := 3) rfl
  have rz := HR1.out.frozen
  have rl := HR1.out.lt
  clear hfin
  go_wp2_with fail
  generalize ((((w1).setCell ⟨w.heap.size, 0, none⟩ (.int .i64 5)).setCell ⟨w.heap.size, 1, none⟩ (.int .i64 i)).setCell ⟨w.heap.size, 2, none⟩ (.bool false)).setCell ⟨w.heap.size, 3, none⟩ (.int .i64 0) = W2 at *
  have k0 := HRF.out.cell (i := 0) rfl
  have k1 := HRF.out.cell (i := 1) rfl
  have k2 := HRF.out.cell (i := 2) rfl
  have k3 := HRF.out.cell (i := 3) rfl
  exact bodyPost_ret (v := .agg #[.int .i64 5, .int .i64 i, .bool false, .int .i64 0]) (by simp [results, Tryz.results27, go_sem, k0, k1, k2, k3]) rfl ⟨rfl, HWF.out, HFF.out⟩
set_option maxRecDepth 100000 in
set_option maxHeartbeats 4000000 in
theorem woLeaves_yes (h : WoAt w wo tb lk B K S) (i : Int) (hr : kTurnOk K.n S.TS i 10 = true) : Calls Tryz.prog 27 #[.pointer (some ⟨wo, 0, none⟩), .int .i64 i, .bool false] w fun e w' => e = .returned (evV 3 i 0) ∧ WoAt w' wo tb lk B K (coLeaveS K S i) ∧ Frm (CZ B K) w w' := by
  have hF0 : Frm [] w (w.alloc (.cells #[.int .i64 0, .int .i64 0, .bool false, .int .i64 0] 35)) := (Frm.refl _ _).alloc _
  have HR := Lib.hid (HAt.new w #[.int .i64 0, .int .i64 0, .bool false, .int .i64 0] 35)
  have hst' := woState (h.same hF0) i
  have HST := Lib.hid hst'
  have HF0 := Lib.hid hF0
  have H := Lib.hid h
  have hsp := fun (W : World) (hf : Frm [] w W) => loLeave (h.lo.same hf) i
  rw [hr] at hsp
  have HSP := Lib.hid hsp
  clear hsp hr
  clear hst' h hF0
  go_enter Tryz.func27, Tryz.ntmps27
  go_wp2_with fail
  refine HST.out.mono ?_
  rintro e w1 ⟨rfl, hF1⟩
  have HR1 := Lib.hid (HR.out.frm hF1 (by simp))
  have HF1 := Lib.hid (HF0.out.trans hF1)
  clear hF1
  have c2 := (H.out.same HF1.out).box.cell (i := 2) rfl
  have c3 := (H.out.same HF1.out).box.cell (i := 3) rfl
  go_wp2_with fail
  refine (HSP.out _ HF1.out).mono ?_
  rintro e w2 ⟨rfl, hL, hF2⟩
  have hW2 := (H.out.same HF1.out).next hF2 hL
  have hm := (H.out.same HF1.out).lo.co.mut
  have HR2 := Lib.hid (HR1.out.frm hF2 (hm.not HR1.out))
  have HF2 := Lib.hid ((HF1.out.mono (S' := CZ B K) (by simp)).trans hF2)
  have HW2 := Lib.hid hW2
  clear hL hF2 hW2 hm c2 c3 HR1 HF1
  have hfin := ev_fin HR2.out 3 i 0 rfl
  have HWF := Lib.hid (HW2.out.evs HR2.out hfin.2)
  have HRF := Lib.hid hfin.1
  have HFF := Lib.hid (HF2.out.widen hfin.2 (fun z hz => .inr (by simp at hz; omega)))
  have r0 := HR2.out.cell (i := 0) rfl
  have r1 := HR2.out.cell (i := 1) rfl
  have r2 := HR2.out.cell (i := 2) rfl
  have r3 := HR2.out.cell (i := 3) rfl
  have rz := HR2.out.frozen
  have rl := HR2.out.lt
  clear hfin
  go_wp2_with fail
  generalize ((((w2).setCell ⟨w.heap.size, 0, none⟩ (.int .i64 3)).setCell ⟨w.heap.size, 1, none⟩ (.int .i64 i)).setCell ⟨w.heap.size, 2, none⟩ (.bool false)).setCell ⟨w.heap.size, 3, none⟩ (.int .i64 0) = W2 at *
  have k0 := HRF.out.cell (i := 0) rfl
  have k1 := HRF.out.cell (i := 1) rfl
  have k2 := HRF.out.cell (i := 2) rfl
  have k3 := HRF.out.cell (i := 3) rfl
  exact bodyPost_ret (v := .agg #[.int .i64 3, .int .i64 i, .bool false, .int .i64 0]) (by simp [results, Tryz.results27, go_sem, k0, k1, k2, k3]) rfl ⟨rfl, HWF.out, HFF.out⟩
set_option maxRecDepth 100000 in
set_option maxHeartbeats 4000000 in
theorem woLeaves_no (h : WoAt w wo tb lk B K S) (i : Int) (hr : kTurnOk K.n S.TS i 10 = false) : Calls Tryz.prog 27 #[.pointer (some ⟨wo, 0, none⟩), .int .i64 i, .bool false] w fun e w' => e = .returned (evV 5 i 0) ∧ WoAt w' wo tb lk B K (coLeaveS K S i) ∧ Frm (CZ B K) w w' := by
  have hF0 : Frm [] w (w.alloc (.cells #[.int .i64 0, .int .i64 0, .bool false, .int .i64 0] 35)) := (Frm.refl _ _).alloc _
  have HR := Lib.hid (HAt.new w #[.int .i64 0, .int .i64 0, .bool false, .int .i64 0] 35)
  have hst' := woState (h.same hF0) i
  have HST := Lib.hid hst'
  have HF0 := Lib.hid hF0
  have H := Lib.hid h
  have hsp := fun (W : World) (hf : Frm [] w W) => loLeave (h.lo.same hf) i
  rw [hr] at hsp
  have HSP := Lib.hid hsp
  clear hsp hr
  clear hst' h hF0
  go_enter Tryz.func27, Tryz.ntmps27
  go_wp2_with fail
  refine HST.out.mono ?_
  rintro e w1 ⟨rfl, hF1⟩
  have HR1 := Lib.hid (HR.out.frm hF1 (by simp))
  have HF1 := Lib.hid (HF0.out.trans hF1)
  clear hF1
  have c2 := (H.out.same HF1.out).box.cell (i := 2) rfl
  have c3 := (H.out.same HF1.out).box.cell (i := 3) rfl
  go_wp2_with fail
  refine (HSP.out _ HF1.out).mono ?_
  rintro e w2 ⟨rfl, hL, hF2⟩
  have hW2 := (H.out.same HF1.out).next hF2 hL
  have hm := (H.out.same HF1.out).lo.co.mut
  have HR2 := Lib.hid (HR1.out.frm hF2 (hm.not HR1.out))
  have HF2 := Lib.hid ((HF1.out.mono (S' := CZ B K) (by simp)).trans hF2)
  have HW2 := Lib.hid hW2
  clear hL hF2 hW2 hm c2 c3 HR1 HF1
  have hfin := ev_fin HR2.out 5 i 0 rfl
  have HWF := Lib.hid (HW2.out.evs HR2.out hfin.2)
  have HRF := Lib.hid hfin.1
  have HFF := Lib.hid (HF2.out.widen hfin.2 (fun z hz => .inr (by simp at hz; omega)))
  have r0 := HR2.out.cell (i := 0) rfl
  have r1 := HR2.out.cell (i := 1) rfl
  have r2 := HR2.out.cell (i := 2) rfl
  have r3 := HR2.out.cell (i := 3) rfl
  have rz := HR2.out.frozen
  have rl := HR2.out.lt
  clear hfin
  go_wp2_with fail
  generalize ((((w2).setCell ⟨w.heap.size, 0, none⟩ (.int .i64 5)).setCell ⟨w.heap.size, 1, none⟩ (.int .i64 i)).setCell ⟨w.heap.size, 2, none⟩ (.bool false)).setCell ⟨w.heap.size, 3, none⟩ (.int .i64 0) = W2 at *
  have k0 := HRF.out.cell (i := 0) rfl
  have k1 := HRF.out.cell (i := 1) rfl
  have k2 := HRF.out.cell (i := 2) rfl
  have k3 := HRF.out.cell (i := 3) rfl
  exact bodyPost_ret (v := .agg #[.int .i64 5, .int .i64 i, .bool false, .int .i64 0]) (by simp [results, Tryz.results27, go_sem, k0, k1, k2, k3]) rfl ⟨rfl, HWF.out, HFF.out⟩
end
end Go.Proofs.YteijjhahgabalaaGreat

/- World.Do for a cohort lock. -/
namespace Go.Proofs.YteijjhahgabalaaGreat
open Go.RowKit
def doE (K : CK) (S : CS) (i x : Int) : Int × Int × Int :=
  if sHas K.n i = false then (0, 0, 0)
  else if x = 0 then ((stepE K S i).1, i, (stepE K S i).2)
  else if x = 1 then (if kTurnOk K.n S.TS i 0 = true then 1 else 5, i, 0)
  else if x = 2 then (if kTurnOk K.n S.TS i 10 = true then 3 else 5, i, 0)
  else (5, i, 0)
def doS (K : CK) (S : CS) (i x : Int) : CS :=
  if sHas K.n i = false then S
  else if x = 0 then coStepS K S i
  else if x = 1 then coAskS K S i
  else if x = 2 then coLeaveS K S i
  else S
section
variable {w w' : World} {wo tb lk : Nat} {B : CB} {K : CK} {S S' : CS}
theorem woAsk1 (h : WoAt w wo tb lk B K S) (i : Int) : Calls Tryz.prog 26 #[.pointer (some ⟨wo, 0, none⟩), .int .i64 i, .bool false] w fun e w' => e = .returned (evV (if kTurnOk K.n S.TS i 0 = true then 1 else 5) i 0) ∧ WoAt w' wo tb lk B K (coAskS K S i) ∧ Frm (CZ B K) w w' := by
  cases hr : kTurnOk K.n S.TS i 0 with
  | true => exact woAsks_yes h i hr
  | false => exact woAsks_no h i hr
theorem woLeave1 (h : WoAt w wo tb lk B K S) (i : Int) : Calls Tryz.prog 27 #[.pointer (some ⟨wo, 0, none⟩), .int .i64 i, .bool false] w fun e w' => e = .returned (evV (if kTurnOk K.n S.TS i 10 = true then 3 else 5) i 0) ∧ WoAt w' wo tb lk B K (coLeaveS K S i) ∧ Frm (CZ B K) w w' := by
  cases hr : kTurnOk K.n S.TS i 10 with
  | true => exact woLeaves_yes h i hr
  | false => exact woLeaves_no h i hr
set_option maxRecDepth 100000 in
set_option maxHeartbeats 4000000 in
theorem woDo_neg (h : WoAt w wo tb lk B K S) (i x : Int) (hi : i < 0) : Calls Tryz.prog 9 #[.pointer (some ⟨wo, 0, none⟩), .agg #[.int .i64 i, .int .i64 x]] w fun e w' => e = .returned (evV (0) (0) (0)) ∧ WoAt w' wo tb lk B K (S) ∧ Frm (CZ B K) w w' := by
  have HB := Lib.hid ((HAt.new w #[.int .i64 i, .int .i64 x] 38).frm ((Frm.refl [] _).alloc (.cells #[.int .i64 0, .int .i64 0, .bool false, .int .i64 0] 35)) (by simp))
  have hr := HAt.new (w.alloc (.cells #[.int .i64 i, .int .i64 x] 38)) #[.int .i64 0, .int .i64 0, .bool false, .int .i64 0] 35
  rw [World.size_alloc] at hr
  have HR := Lib.hid hr
  have HF0 := Lib.hid (((Frm.refl [] w).alloc (.cells #[.int .i64 i, .int .i64 x] 38)).alloc (.cells #[.int .i64 0, .int .i64 0, .bool false, .int .i64 0] 35))
  have H := Lib.hid h
  have HTH := Lib.hid (fun (W : World) (hf : Frm [] w W) => woThreads (h.same hf))
  unfold evV
  have d1 : decide (i < 0) = true := by simpa using hi
  clear hi
  have b0 := HB.out.cell (i := 0) rfl
  have b1 := HB.out.cell (i := 1) rfl
  clear h hr
  go_enter Tryz.func9, Tryz.ntmps9
  go_wp2_with fail
  generalize (w.alloc (.cells #[.int .i64 i, .int .i64 x] 38)).alloc (.cells #[.int .i64 0, .int .i64 0, .bool false, .int .i64 0] 35) = W0 at *
  have hne : Nonempty (HW (fun wx => Frm [] W0 wx)) := ⟨⟨W0, Frm.refl _ _⟩⟩
  have hz0 : ∀ q : HW (fun wx => Frm [] W0 wx), q.w.cell? ⟨w.heap.size, 0, none⟩ = some (.int .i64 i) := fun q => (HB.out.frm q.h (by simp)).cell (i := 0) rfl
  refine held_begin (S := fun wx => Frm [] W0 wx) (by kernel_rfl) ?_
  refine held_row_at (fuel := 3) (is := [0, 1, 2, 3, 4, 5, 6]) (.cons rfl (.cons rfl (.cons rfl (.cons rfl (.cons rfl (.cons rfl (.cons rfl .nil))))))) (by kernel_rfl) (fun _ _ _ _ _ h => h) rfl (by kernel_rfl) (Frm.refl _ _).drew1 ?_
  intro K' hK
  repeat (go_big_quiet_step (fail))
  refine wpQuiet_nil (hK _ ?_)
  clear hK K'
  refine held_call (fuel := 2) (i := 7) rfl (by kernel_rfl) ?_
  go_wp2_with fail
  refine onNormal_mk ⟨(Frm.refl _ _).drew1, ?_⟩
  refine held_row_at (fuel := 0) (is := [8, 9]) (.cons rfl (.cons rfl .nil)) (by kernel_rfl) (fun _ _ _ _ _ h => h) rfl (by kernel_rfl) (Frm.refl _ _).drew1 ?_
  intro K' hK
  repeat (go_big_quiet_step (fail))
  refine wpQuiet_nil (hK _ ?_)
  clear hK K' hne hz0
  refine held_end (by kernel_rfl) ?_
  have HB1 := Lib.hid (HB.out.drew1)
  have HR1 := Lib.hid (HR.out.drew1)
  have HF1 := Lib.hid (HF0.out.drew1)
  clear HB HR HF0 HTH b0 b1
  generalize W0.drew = w1 at *
  have b0 := HB1.out.cell (i := 0) rfl
  have b1 := HB1.out.cell (i := 1) rfl
  have HW1 := Lib.hid (H.out.same HF1.out)
  have HF1' := Lib.hid (HF1.out.mono (S' := CZ B K) (by simp))
  clear HF1
  have HF1 := HF1'
  have hfin := ev_fin HR1.out 0 (0) 0 rfl
  have HWF := Lib.hid (HW1.out.evs HR1.out hfin.2)
  have HRF := Lib.hid hfin.1
  have HFF := Lib.hid (HF1.out.widen hfin.2 (fun z hz => .inr (by simp at hz; omega)))
  have r0 := HR1.out.cell (i := 0) rfl
  have r1 := HR1.out.cell (i := 1) rfl
  have r2 := HR1.out.cell (i := 2) rfl
  have r3 := HR1.out.cell (i := 3) rfl
  have rz := HR1.out.frozen
  have rl := HR1.out.lt
  clear hfin
  go_wp2_with fail
  generalize ((((w1).setCell ⟨w.heap.size + 1, 0, none⟩ (.int .i64 0)).setCell ⟨w.heap.size + 1, 1, none⟩ (.int .i64 (0))).setCell ⟨w.heap.size + 1, 2, none⟩ (.bool false)).setCell ⟨w.heap.size + 1, 3, none⟩ (.int .i64 0) = W2 at *
  have k0 := HRF.out.cell (i := 0) rfl
  have k1 := HRF.out.cell (i := 1) rfl
  have k2 := HRF.out.cell (i := 2) rfl
  have k3 := HRF.out.cell (i := 3) rfl
  exact bodyPost_ret (v := .agg #[.int .i64 0, .int .i64 (0), .bool false, .int .i64 0]) (by simp [results, Tryz.results9, go_sem, k0, k1, k2, k3]) rfl ⟨rfl, HWF.out, HFF.out⟩
set_option maxRecDepth 100000 in
set_option maxHeartbeats 4000000 in
theorem woDo_big (h : WoAt w wo tb lk B K S) (i x : Int) (hi : (K.n : Int) ≤ i) : Calls Tryz.prog 9 #[.pointer (some ⟨wo, 0, none⟩), .agg #[.int .i64 i, .int .i64 x]] w fun e w' => e = .returned (evV (0) (0) (0)) ∧ WoAt w' wo tb lk B K (S) ∧ Frm (CZ B K) w w' := by
  have HB := Lib.hid ((HAt.new w #[.int .i64 i, .int .i64 x] 38).frm ((Frm.refl [] _).alloc (.cells #[.int .i64 0, .int .i64 0, .bool false, .int .i64 0] 35)) (by simp))
  have hr := HAt.new (w.alloc (.cells #[.int .i64 i, .int .i64 x] 38)) #[.int .i64 0, .int .i64 0, .bool false, .int .i64 0] 35
  rw [World.size_alloc] at hr
  have HR := Lib.hid hr
  have HF0 := Lib.hid (((Frm.refl [] w).alloc (.cells #[.int .i64 i, .int .i64 x] 38)).alloc (.cells #[.int .i64 0, .int .i64 0, .bool false, .int .i64 0] 35))
  have H := Lib.hid h
  have HTH := Lib.hid (fun (W : World) (hf : Frm [] w W) => woThreads (h.same hf))
  unfold evV
  have d1 : decide (i < 0) = false := by simpa using (show 0 ≤ i by omega)
  have d2 : decide ((K.n : Int) ≤ i) = true := by simpa using hi
  clear hi
  have b0 := HB.out.cell (i := 0) rfl
  have b1 := HB.out.cell (i := 1) rfl
  clear h hr
  go_enter Tryz.func9, Tryz.ntmps9
  go_wp2_with fail
  generalize (w.alloc (.cells #[.int .i64 i, .int .i64 x] 38)).alloc (.cells #[.int .i64 0, .int .i64 0, .bool false, .int .i64 0] 35) = W0 at *
  have hne : Nonempty (HW (fun wx => Frm [] W0 wx)) := ⟨⟨W0, Frm.refl _ _⟩⟩
  have hz0 : ∀ q : HW (fun wx => Frm [] W0 wx), q.w.cell? ⟨w.heap.size, 0, none⟩ = some (.int .i64 i) := fun q => (HB.out.frm q.h (by simp)).cell (i := 0) rfl
  refine held_begin (S := fun wx => Frm [] W0 wx) (by kernel_rfl) ?_
  refine held_row_at (fuel := 3) (is := [0, 1, 2, 3, 4, 5, 6]) (.cons rfl (.cons rfl (.cons rfl (.cons rfl (.cons rfl (.cons rfl (.cons rfl .nil))))))) (by kernel_rfl) (fun _ _ _ _ _ h => h) rfl (by kernel_rfl) (Frm.refl _ _).drew1 ?_
  intro K' hK
  repeat (go_big_quiet_step (fail))
  refine wpQuiet_nil (hK _ ?_)
  clear hK K'
  refine held_call (fuel := 2) (i := 7) rfl (by kernel_rfl) ?_
  go_wp2_with fail
  refine (HTH.out _ HF0.out.drew1).mono ?_
  rintro e w' ⟨rfl, rfl⟩
  go_wp2_with fail
  refine onNormal_mk ⟨(Frm.refl _ _).drew1, ?_⟩
  refine held_row_at (fuel := 0) (is := [8, 9]) (.cons rfl (.cons rfl .nil)) (by kernel_rfl) (fun _ _ _ _ _ h => h) rfl (by kernel_rfl) (Frm.refl _ _).drew1 ?_
  intro K' hK
  repeat (go_big_quiet_step (fail))
  refine wpQuiet_nil (hK _ ?_)
  clear hK K' hne hz0
  refine held_end (by kernel_rfl) ?_
  have HB1 := Lib.hid (HB.out.drew1)
  have HR1 := Lib.hid (HR.out.drew1)
  have HF1 := Lib.hid (HF0.out.drew1)
  clear HB HR HF0 HTH b0 b1
  generalize W0.drew = w1 at *
  have b0 := HB1.out.cell (i := 0) rfl
  have b1 := HB1.out.cell (i := 1) rfl
  have HW1 := Lib.hid (H.out.same HF1.out)
  have HF1' := Lib.hid (HF1.out.mono (S' := CZ B K) (by simp))
  clear HF1
  have HF1 := HF1'
  have hfin := ev_fin HR1.out 0 (0) 0 rfl
  have HWF := Lib.hid (HW1.out.evs HR1.out hfin.2)
  have HRF := Lib.hid hfin.1
  have HFF := Lib.hid (HF1.out.widen hfin.2 (fun z hz => .inr (by simp at hz; omega)))
  have r0 := HR1.out.cell (i := 0) rfl
  have r1 := HR1.out.cell (i := 1) rfl
  have r2 := HR1.out.cell (i := 2) rfl
  have r3 := HR1.out.cell (i := 3) rfl
  have rz := HR1.out.frozen
  have rl := HR1.out.lt
  clear hfin
  go_wp2_with fail
  generalize ((((w1).setCell ⟨w.heap.size + 1, 0, none⟩ (.int .i64 0)).setCell ⟨w.heap.size + 1, 1, none⟩ (.int .i64 (0))).setCell ⟨w.heap.size + 1, 2, none⟩ (.bool false)).setCell ⟨w.heap.size + 1, 3, none⟩ (.int .i64 0) = W2 at *
  have k0 := HRF.out.cell (i := 0) rfl
  have k1 := HRF.out.cell (i := 1) rfl
  have k2 := HRF.out.cell (i := 2) rfl
  have k3 := HRF.out.cell (i := 3) rfl
  exact bodyPost_ret (v := .agg #[.int .i64 0, .int .i64 (0), .bool false, .int .i64 0]) (by simp [results, Tryz.results9, go_sem, k0, k1, k2, k3]) rfl ⟨rfl, HWF.out, HFF.out⟩
set_option maxRecDepth 100000 in
set_option maxHeartbeats 4000000 in
theorem woDo_0 (h : WoAt w wo tb lk B K S) (hp : CoPc K S) (i x : Int) (hi : 0 ≤ i ∧ i < (K.n : Int)) : Calls Tryz.prog 9 #[.pointer (some ⟨wo, 0, none⟩), .agg #[.int .i64 i, .int .i64 0]] w fun e w' => e = .returned (evV ((stepE K S i).1) (i) ((stepE K S i).2)) ∧ WoAt w' wo tb lk B K (coStepS K S i) ∧ Frm (CZ B K) w w' := by
  have HB := Lib.hid ((HAt.new w #[.int .i64 i, .int .i64 0] 38).frm ((Frm.refl [] _).alloc (.cells #[.int .i64 0, .int .i64 0, .bool false, .int .i64 0] 35)) (by simp))
  have hr := HAt.new (w.alloc (.cells #[.int .i64 i, .int .i64 0] 38)) #[.int .i64 0, .int .i64 0, .bool false, .int .i64 0] 35
  rw [World.size_alloc] at hr
  have HR := Lib.hid hr
  have HF0 := Lib.hid (((Frm.refl [] w).alloc (.cells #[.int .i64 i, .int .i64 0] 38)).alloc (.cells #[.int .i64 0, .int .i64 0, .bool false, .int .i64 0] 35))
  have H := Lib.hid h
  have HTH := Lib.hid (fun (W : World) (hf : Frm [] w W) => woThreads (h.same hf))
  have hcc := fun (W : World) (hf : Frm [] w W) => woStep (h.same hf) hp i
  unfold evV at hcc
  unfold evV
  have d1 : decide (i < 0) = false := by simpa using hi.1
  have d2 : decide ((K.n : Int) ≤ i) = false := by simpa using hi.2
  clear hi
  generalize (stepE K S i).1 = k at *
  generalize (stepE K S i).2 = c at *
  have HC := Lib.hid hcc
  clear hcc
  have b0 := HB.out.cell (i := 0) rfl
  have b1 := HB.out.cell (i := 1) rfl
  clear h hr hp
  go_enter Tryz.func9, Tryz.ntmps9
  go_wp2_with fail
  generalize (w.alloc (.cells #[.int .i64 i, .int .i64 0] 38)).alloc (.cells #[.int .i64 0, .int .i64 0, .bool false, .int .i64 0] 35) = W0 at *
  have hne : Nonempty (HW (fun wx => Frm [] W0 wx)) := ⟨⟨W0, Frm.refl _ _⟩⟩
  have hz0 : ∀ q : HW (fun wx => Frm [] W0 wx), q.w.cell? ⟨w.heap.size, 0, none⟩ = some (.int .i64 i) := fun q => (HB.out.frm q.h (by simp)).cell (i := 0) rfl
  refine held_begin (S := fun wx => Frm [] W0 wx) (by kernel_rfl) ?_
  refine held_row_at (fuel := 3) (is := [0, 1, 2, 3, 4, 5, 6]) (.cons rfl (.cons rfl (.cons rfl (.cons rfl (.cons rfl (.cons rfl (.cons rfl .nil))))))) (by kernel_rfl) (fun _ _ _ _ _ h => h) rfl (by kernel_rfl) (Frm.refl _ _).drew1 ?_
  intro K' hK
  repeat (go_big_quiet_step (fail))
  refine wpQuiet_nil (hK _ ?_)
  clear hK K'
  refine held_call (fuel := 2) (i := 7) rfl (by kernel_rfl) ?_
  go_wp2_with fail
  refine (HTH.out _ HF0.out.drew1).mono ?_
  rintro e w' ⟨rfl, rfl⟩
  go_wp2_with fail
  refine onNormal_mk ⟨(Frm.refl _ _).drew1, ?_⟩
  refine held_row_at (fuel := 0) (is := [8, 9]) (.cons rfl (.cons rfl .nil)) (by kernel_rfl) (fun _ _ _ _ _ h => h) rfl (by kernel_rfl) (Frm.refl _ _).drew1 ?_
  intro K' hK
  repeat (go_big_quiet_step (fail))
  refine wpQuiet_nil (hK _ ?_)
  clear hK K' hne hz0
  refine held_end (by kernel_rfl) ?_
  have HB1 := Lib.hid (HB.out.drew1)
  have HR1 := Lib.hid (HR.out.drew1)
  have HF1 := Lib.hid (HF0.out.drew1)
  clear HB HR HF0 HTH b0 b1
  generalize W0.drew = w1 at *
  have b0 := HB1.out.cell (i := 0) rfl
  have b1 := HB1.out.cell (i := 1) rfl
  go_wp2_with fail
  refine (HC.out _ HF1.out).mono ?_
  rintro e w2 ⟨rfl, hW2, hF2⟩
  have hm := (H.out.same HF1.out).lo.co.mut
  have HR2 := Lib.hid (HR1.out.frm hF2 (hm.not HR1.out))
  have HF2 := Lib.hid ((HF1.out.mono (S' := CZ B K) (by simp)).trans hF2)
  have HW2 := Lib.hid hW2
  clear hF2 hW2 hm b0 b1
  have hfin := ev_fin HR2.out k (i) c rfl
  have HWF := Lib.hid (HW2.out.evs HR2.out hfin.2)
  have HRF := Lib.hid hfin.1
  have HFF := Lib.hid (HF2.out.widen hfin.2 (fun z hz => .inr (by simp at hz; omega)))
  have r0 := HR2.out.cell (i := 0) rfl
  have r1 := HR2.out.cell (i := 1) rfl
  have r2 := HR2.out.cell (i := 2) rfl
  have r3 := HR2.out.cell (i := 3) rfl
  have rz := HR2.out.frozen
  have rl := HR2.out.lt
  clear hfin
  go_wp2_with fail
  generalize ((((w2).setCell ⟨w.heap.size + 1, 0, none⟩ (.int .i64 k)).setCell ⟨w.heap.size + 1, 1, none⟩ (.int .i64 (i))).setCell ⟨w.heap.size + 1, 2, none⟩ (.bool false)).setCell ⟨w.heap.size + 1, 3, none⟩ (.int .i64 c) = W2 at *
  have k0 := HRF.out.cell (i := 0) rfl
  have k1 := HRF.out.cell (i := 1) rfl
  have k2 := HRF.out.cell (i := 2) rfl
  have k3 := HRF.out.cell (i := 3) rfl
  exact bodyPost_ret (v := .agg #[.int .i64 k, .int .i64 (i), .bool false, .int .i64 c]) (by simp [results, Tryz.results9, go_sem, k0, k1, k2, k3]) rfl ⟨rfl, HWF.out, HFF.out⟩
set_option maxRecDepth 100000 in
set_option maxHeartbeats 4000000 in
theorem woDo_1 (h : WoAt w wo tb lk B K S) (i x : Int) (hi : 0 ≤ i ∧ i < (K.n : Int)) : Calls Tryz.prog 9 #[.pointer (some ⟨wo, 0, none⟩), .agg #[.int .i64 i, .int .i64 1]] w fun e w' => e = .returned (evV ((if kTurnOk K.n S.TS i 0 = true then 1 else 5)) (i) (0)) ∧ WoAt w' wo tb lk B K (coAskS K S i) ∧ Frm (CZ B K) w w' := by
  have HB := Lib.hid ((HAt.new w #[.int .i64 i, .int .i64 1] 38).frm ((Frm.refl [] _).alloc (.cells #[.int .i64 0, .int .i64 0, .bool false, .int .i64 0] 35)) (by simp))
  have hr := HAt.new (w.alloc (.cells #[.int .i64 i, .int .i64 1] 38)) #[.int .i64 0, .int .i64 0, .bool false, .int .i64 0] 35
  rw [World.size_alloc] at hr
  have HR := Lib.hid hr
  have HF0 := Lib.hid (((Frm.refl [] w).alloc (.cells #[.int .i64 i, .int .i64 1] 38)).alloc (.cells #[.int .i64 0, .int .i64 0, .bool false, .int .i64 0] 35))
  have H := Lib.hid h
  have HTH := Lib.hid (fun (W : World) (hf : Frm [] w W) => woThreads (h.same hf))
  have hcc := fun (W : World) (hf : Frm [] w W) => woAsk1 (h.same hf) i
  unfold evV at hcc
  unfold evV
  have d1 : decide (i < 0) = false := by simpa using hi.1
  have d2 : decide ((K.n : Int) ≤ i) = false := by simpa using hi.2
  clear hi
  generalize (if kTurnOk K.n S.TS i 0 = true then 1 else 5 : Int) = k at *
  have HC := Lib.hid hcc
  clear hcc
  have b0 := HB.out.cell (i := 0) rfl
  have b1 := HB.out.cell (i := 1) rfl
  clear h hr
  go_enter Tryz.func9, Tryz.ntmps9
  go_wp2_with fail
  generalize (w.alloc (.cells #[.int .i64 i, .int .i64 1] 38)).alloc (.cells #[.int .i64 0, .int .i64 0, .bool false, .int .i64 0] 35) = W0 at *
  have hne : Nonempty (HW (fun wx => Frm [] W0 wx)) := ⟨⟨W0, Frm.refl _ _⟩⟩
  have hz0 : ∀ q : HW (fun wx => Frm [] W0 wx), q.w.cell? ⟨w.heap.size, 0, none⟩ = some (.int .i64 i) := fun q => (HB.out.frm q.h (by simp)).cell (i := 0) rfl
  refine held_begin (S := fun wx => Frm [] W0 wx) (by kernel_rfl) ?_
  refine held_row_at (fuel := 3) (is := [0, 1, 2, 3, 4, 5, 6]) (.cons rfl (.cons rfl (.cons rfl (.cons rfl (.cons rfl (.cons rfl (.cons rfl .nil))))))) (by kernel_rfl) (fun _ _ _ _ _ h => h) rfl (by kernel_rfl) (Frm.refl _ _).drew1 ?_
  intro K' hK
  repeat (go_big_quiet_step (fail))
  refine wpQuiet_nil (hK _ ?_)
  clear hK K'
  refine held_call (fuel := 2) (i := 7) rfl (by kernel_rfl) ?_
  go_wp2_with fail
  refine (HTH.out _ HF0.out.drew1).mono ?_
  rintro e w' ⟨rfl, rfl⟩
  go_wp2_with fail
  refine onNormal_mk ⟨(Frm.refl _ _).drew1, ?_⟩
  refine held_row_at (fuel := 0) (is := [8, 9]) (.cons rfl (.cons rfl .nil)) (by kernel_rfl) (fun _ _ _ _ _ h => h) rfl (by kernel_rfl) (Frm.refl _ _).drew1 ?_
  intro K' hK
  repeat (go_big_quiet_step (fail))
  refine wpQuiet_nil (hK _ ?_)
  clear hK K' hne hz0
  refine held_end (by kernel_rfl) ?_
  have HB1 := Lib.hid (HB.out.drew1)
  have HR1 := Lib.hid (HR.out.drew1)
  have HF1 := Lib.hid (HF0.out.drew1)
  clear HB HR HF0 HTH b0 b1
  generalize W0.drew = w1 at *
  have b0 := HB1.out.cell (i := 0) rfl
  have b1 := HB1.out.cell (i := 1) rfl
  go_wp2_with fail
  refine (HC.out _ HF1.out).mono ?_
  rintro e w2 ⟨rfl, hW2, hF2⟩
  have hm := (H.out.same HF1.out).lo.co.mut
  have HR2 := Lib.hid (HR1.out.frm hF2 (hm.not HR1.out))
  have HF2 := Lib.hid ((HF1.out.mono (S' := CZ B K) (by simp)).trans hF2)
  have HW2 := Lib.hid hW2
  clear hF2 hW2 hm b0 b1
  have hfin := ev_fin HR2.out k (i) 0 rfl
  have HWF := Lib.hid (HW2.out.evs HR2.out hfin.2)
  have HRF := Lib.hid hfin.1
  have HFF := Lib.hid (HF2.out.widen hfin.2 (fun z hz => .inr (by simp at hz; omega)))
  have r0 := HR2.out.cell (i := 0) rfl
  have r1 := HR2.out.cell (i := 1) rfl
  have r2 := HR2.out.cell (i := 2) rfl
  have r3 := HR2.out.cell (i := 3) rfl
  have rz := HR2.out.frozen
  have rl := HR2.out.lt
  clear hfin
  go_wp2_with fail
  generalize ((((w2).setCell ⟨w.heap.size + 1, 0, none⟩ (.int .i64 k)).setCell ⟨w.heap.size + 1, 1, none⟩ (.int .i64 (i))).setCell ⟨w.heap.size + 1, 2, none⟩ (.bool false)).setCell ⟨w.heap.size + 1, 3, none⟩ (.int .i64 0) = W2 at *
  have k0 := HRF.out.cell (i := 0) rfl
  have k1 := HRF.out.cell (i := 1) rfl
  have k2 := HRF.out.cell (i := 2) rfl
  have k3 := HRF.out.cell (i := 3) rfl
  exact bodyPost_ret (v := .agg #[.int .i64 k, .int .i64 (i), .bool false, .int .i64 0]) (by simp [results, Tryz.results9, go_sem, k0, k1, k2, k3]) rfl ⟨rfl, HWF.out, HFF.out⟩
set_option maxRecDepth 100000 in
set_option maxHeartbeats 4000000 in
theorem woDo_2 (h : WoAt w wo tb lk B K S) (i x : Int) (hi : 0 ≤ i ∧ i < (K.n : Int)) : Calls Tryz.prog 9 #[.pointer (some ⟨wo, 0, none⟩), .agg #[.int .i64 i, .int .i64 2]] w fun e w' => e = .returned (evV ((if kTurnOk K.n S.TS i 10 = true then 3 else 5)) (i) (0)) ∧ WoAt w' wo tb lk B K (coLeaveS K S i) ∧ Frm (CZ B K) w w' := by
  have HB := Lib.hid ((HAt.new w #[.int .i64 i, .int .i64 2] 38).frm ((Frm.refl [] _).alloc (.cells #[.int .i64 0, .int .i64 0, .bool false, .int .i64 0] 35)) (by simp))
  have hr := HAt.new (w.alloc (.cells #[.int .i64 i, .int .i64 2] 38)) #[.int .i64 0, .int .i64 0, .bool false, .int .i64 0] 35
  rw [World.size_alloc] at hr
  have HR := Lib.hid hr
  have HF0 := Lib.hid (((Frm.refl [] w).alloc (.cells #[.int .i64 i, .int .i64 2] 38)).alloc (.cells #[.int .i64 0, .int .i64 0, .bool false, .int .i64 0] 35))
  have H := Lib.hid h
  have HTH := Lib.hid (fun (W : World) (hf : Frm [] w W) => woThreads (h.same hf))
  have hcc := fun (W : World) (hf : Frm [] w W) => woLeave1 (h.same hf) i
  unfold evV at hcc
  unfold evV
  have d1 : decide (i < 0) = false := by simpa using hi.1
  have d2 : decide ((K.n : Int) ≤ i) = false := by simpa using hi.2
  clear hi
  generalize (if kTurnOk K.n S.TS i 10 = true then 3 else 5 : Int) = k at *
  have HC := Lib.hid hcc
  clear hcc
  have b0 := HB.out.cell (i := 0) rfl
  have b1 := HB.out.cell (i := 1) rfl
  clear h hr
  go_enter Tryz.func9, Tryz.ntmps9
  go_wp2_with fail
  generalize (w.alloc (.cells #[.int .i64 i, .int .i64 2] 38)).alloc (.cells #[.int .i64 0, .int .i64 0, .bool false, .int .i64 0] 35) = W0 at *
  have hne : Nonempty (HW (fun wx => Frm [] W0 wx)) := ⟨⟨W0, Frm.refl _ _⟩⟩
  have hz0 : ∀ q : HW (fun wx => Frm [] W0 wx), q.w.cell? ⟨w.heap.size, 0, none⟩ = some (.int .i64 i) := fun q => (HB.out.frm q.h (by simp)).cell (i := 0) rfl
  refine held_begin (S := fun wx => Frm [] W0 wx) (by kernel_rfl) ?_
  refine held_row_at (fuel := 3) (is := [0, 1, 2, 3, 4, 5, 6]) (.cons rfl (.cons rfl (.cons rfl (.cons rfl (.cons rfl (.cons rfl (.cons rfl .nil))))))) (by kernel_rfl) (fun _ _ _ _ _ h => h) rfl (by kernel_rfl) (Frm.refl _ _).drew1 ?_
  intro K' hK
  repeat (go_big_quiet_step (fail))
  refine wpQuiet_nil (hK _ ?_)
  clear hK K'
  refine held_call (fuel := 2) (i := 7) rfl (by kernel_rfl) ?_
  go_wp2_with fail
  refine (HTH.out _ HF0.out.drew1).mono ?_
  rintro e w' ⟨rfl, rfl⟩
  go_wp2_with fail
  refine onNormal_mk ⟨(Frm.refl _ _).drew1, ?_⟩
  refine held_row_at (fuel := 0) (is := [8, 9]) (.cons rfl (.cons rfl .nil)) (by kernel_rfl) (fun _ _ _ _ _ h => h) rfl (by kernel_rfl) (Frm.refl _ _).drew1 ?_
  intro K' hK
  repeat (go_big_quiet_step (fail))
  refine wpQuiet_nil (hK _ ?_)
  clear hK K' hne hz0
  refine held_end (by kernel_rfl) ?_
  have HB1 := Lib.hid (HB.out.drew1)
  have HR1 := Lib.hid (HR.out.drew1)
  have HF1 := Lib.hid (HF0.out.drew1)
  clear HB HR HF0 HTH b0 b1
  generalize W0.drew = w1 at *
  have b0 := HB1.out.cell (i := 0) rfl
  have b1 := HB1.out.cell (i := 1) rfl
  go_wp2_with fail
  refine (HC.out _ HF1.out).mono ?_
  rintro e w2 ⟨rfl, hW2, hF2⟩
  have hm := (H.out.same HF1.out).lo.co.mut
  have HR2 := Lib.hid (HR1.out.frm hF2 (hm.not HR1.out))
  have HF2 := Lib.hid ((HF1.out.mono (S' := CZ B K) (by simp)).trans hF2)
  have HW2 := Lib.hid hW2
  clear hF2 hW2 hm b0 b1
  have hfin := ev_fin HR2.out k (i) 0 rfl
  have HWF := Lib.hid (HW2.out.evs HR2.out hfin.2)
  have HRF := Lib.hid hfin.1
  have HFF := Lib.hid (HF2.out.widen hfin.2 (fun z hz => .inr (by simp at hz; omega)))
  have r0 := HR2.out.cell (i := 0) rfl
  have r1 := HR2.out.cell (i := 1) rfl
  have r2 := HR2.out.cell (i := 2) rfl
  have r3 := HR2.out.cell (i := 3) rfl
  have rz := HR2.out.frozen
  have rl := HR2.out.lt
  clear hfin
  go_wp2_with fail
  generalize ((((w2).setCell ⟨w.heap.size + 1, 0, none⟩ (.int .i64 k)).setCell ⟨w.heap.size + 1, 1, none⟩ (.int .i64 (i))).setCell ⟨w.heap.size + 1, 2, none⟩ (.bool false)).setCell ⟨w.heap.size + 1, 3, none⟩ (.int .i64 0) = W2 at *
  have k0 := HRF.out.cell (i := 0) rfl
  have k1 := HRF.out.cell (i := 1) rfl
  have k2 := HRF.out.cell (i := 2) rfl
  have k3 := HRF.out.cell (i := 3) rfl
  exact bodyPost_ret (v := .agg #[.int .i64 k, .int .i64 (i), .bool false, .int .i64 0]) (by simp [results, Tryz.results9, go_sem, k0, k1, k2, k3]) rfl ⟨rfl, HWF.out, HFF.out⟩
set_option maxRecDepth 100000 in
set_option maxHeartbeats 4000000 in
theorem woDo_3 (h : WoAt w wo tb lk B K S) (i x : Int) (hi : 0 ≤ i ∧ i < (K.n : Int)) : Calls Tryz.prog 9 #[.pointer (some ⟨wo, 0, none⟩), .agg #[.int .i64 i, .int .i64 3]] w fun e w' => e = .returned (evV (5) (i) (0)) ∧ WoAt w' wo tb lk B K (S) ∧ Frm (CZ B K) w w' := by
  have HB := Lib.hid ((HAt.new w #[.int .i64 i, .int .i64 3] 38).frm ((Frm.refl [] _).alloc (.cells #[.int .i64 0, .int .i64 0, .bool false, .int .i64 0] 35)) (by simp))
  have hr := HAt.new (w.alloc (.cells #[.int .i64 i, .int .i64 3] 38)) #[.int .i64 0, .int .i64 0, .bool false, .int .i64 0] 35
  rw [World.size_alloc] at hr
  have HR := Lib.hid hr
  have HF0 := Lib.hid (((Frm.refl [] w).alloc (.cells #[.int .i64 i, .int .i64 3] 38)).alloc (.cells #[.int .i64 0, .int .i64 0, .bool false, .int .i64 0] 35))
  have H := Lib.hid h
  have HTH := Lib.hid (fun (W : World) (hf : Frm [] w W) => woThreads (h.same hf))
  have hcc := fun (W : World) (hf : Frm [] w W) => woAsks_read (h.same hf) i
  unfold evV at hcc
  unfold evV
  have d1 : decide (i < 0) = false := by simpa using hi.1
  have d2 : decide ((K.n : Int) ≤ i) = false := by simpa using hi.2
  clear hi
  have HC := Lib.hid hcc
  clear hcc
  have b0 := HB.out.cell (i := 0) rfl
  have b1 := HB.out.cell (i := 1) rfl
  clear h hr
  go_enter Tryz.func9, Tryz.ntmps9
  go_wp2_with fail
  generalize (w.alloc (.cells #[.int .i64 i, .int .i64 3] 38)).alloc (.cells #[.int .i64 0, .int .i64 0, .bool false, .int .i64 0] 35) = W0 at *
  have hne : Nonempty (HW (fun wx => Frm [] W0 wx)) := ⟨⟨W0, Frm.refl _ _⟩⟩
  have hz0 : ∀ q : HW (fun wx => Frm [] W0 wx), q.w.cell? ⟨w.heap.size, 0, none⟩ = some (.int .i64 i) := fun q => (HB.out.frm q.h (by simp)).cell (i := 0) rfl
  refine held_begin (S := fun wx => Frm [] W0 wx) (by kernel_rfl) ?_
  refine held_row_at (fuel := 3) (is := [0, 1, 2, 3, 4, 5, 6]) (.cons rfl (.cons rfl (.cons rfl (.cons rfl (.cons rfl (.cons rfl (.cons rfl .nil))))))) (by kernel_rfl) (fun _ _ _ _ _ h => h) rfl (by kernel_rfl) (Frm.refl _ _).drew1 ?_
  intro K' hK
  repeat (go_big_quiet_step (fail))
  refine wpQuiet_nil (hK _ ?_)
  clear hK K'
  refine held_call (fuel := 2) (i := 7) rfl (by kernel_rfl) ?_
  go_wp2_with fail
  refine (HTH.out _ HF0.out.drew1).mono ?_
  rintro e w' ⟨rfl, rfl⟩
  go_wp2_with fail
  refine onNormal_mk ⟨(Frm.refl _ _).drew1, ?_⟩
  refine held_row_at (fuel := 0) (is := [8, 9]) (.cons rfl (.cons rfl .nil)) (by kernel_rfl) (fun _ _ _ _ _ h => h) rfl (by kernel_rfl) (Frm.refl _ _).drew1 ?_
  intro K' hK
  repeat (go_big_quiet_step (fail))
  refine wpQuiet_nil (hK _ ?_)
  clear hK K' hne hz0
  refine held_end (by kernel_rfl) ?_
  have HB1 := Lib.hid (HB.out.drew1)
  have HR1 := Lib.hid (HR.out.drew1)
  have HF1 := Lib.hid (HF0.out.drew1)
  clear HB HR HF0 HTH b0 b1
  generalize W0.drew = w1 at *
  have b0 := HB1.out.cell (i := 0) rfl
  have b1 := HB1.out.cell (i := 1) rfl
  go_wp2_with fail
  refine (HC.out _ HF1.out).mono ?_
  rintro e w2 ⟨rfl, hW2, hF2⟩
  have hm := (H.out.same HF1.out).lo.co.mut
  have HR2 := Lib.hid (HR1.out.frm hF2 (hm.not HR1.out))
  have HF2 := Lib.hid ((HF1.out.mono (S' := CZ B K) (by simp)).trans hF2)
  have HW2 := Lib.hid hW2
  clear hF2 hW2 hm b0 b1
  have hfin := ev_fin HR2.out 5 (i) 0 rfl
  have HWF := Lib.hid (HW2.out.evs HR2.out hfin.2)
  have HRF := Lib.hid hfin.1
  have HFF := Lib.hid (HF2.out.widen hfin.2 (fun z hz => .inr (by simp at hz; omega)))
  have r0 := HR2.out.cell (i := 0) rfl
  have r1 := HR2.out.cell (i := 1) rfl
  have r2 := HR2.out.cell (i := 2) rfl
  have r3 := HR2.out.cell (i := 3) rfl
  have rz := HR2.out.frozen
  have rl := HR2.out.lt
  clear hfin
  go_wp2_with fail
  generalize ((((w2).setCell ⟨w.heap.size + 1, 0, none⟩ (.int .i64 5)).setCell ⟨w.heap.size + 1, 1, none⟩ (.int .i64 (i))).setCell ⟨w.heap.size + 1, 2, none⟩ (.bool false)).setCell ⟨w.heap.size + 1, 3, none⟩ (.int .i64 0) = W2 at *
  have k0 := HRF.out.cell (i := 0) rfl
  have k1 := HRF.out.cell (i := 1) rfl
  have k2 := HRF.out.cell (i := 2) rfl
  have k3 := HRF.out.cell (i := 3) rfl
  exact bodyPost_ret (v := .agg #[.int .i64 5, .int .i64 (i), .bool false, .int .i64 0]) (by simp [results, Tryz.results9, go_sem, k0, k1, k2, k3]) rfl ⟨rfl, HWF.out, HFF.out⟩
set_option maxRecDepth 100000 in
set_option maxHeartbeats 4000000 in
theorem woDo_4 (h : WoAt w wo tb lk B K S) (i x : Int) (hi : 0 ≤ i ∧ i < (K.n : Int)) : Calls Tryz.prog 9 #[.pointer (some ⟨wo, 0, none⟩), .agg #[.int .i64 i, .int .i64 4]] w fun e w' => e = .returned (evV (5) (i) (0)) ∧ WoAt w' wo tb lk B K (S) ∧ Frm (CZ B K) w w' := by
  have HB := Lib.hid ((HAt.new w #[.int .i64 i, .int .i64 4] 38).frm ((Frm.refl [] _).alloc (.cells #[.int .i64 0, .int .i64 0, .bool false, .int .i64 0] 35)) (by simp))
  have hr := HAt.new (w.alloc (.cells #[.int .i64 i, .int .i64 4] 38)) #[.int .i64 0, .int .i64 0, .bool false, .int .i64 0] 35
  rw [World.size_alloc] at hr
  have HR := Lib.hid hr
  have HF0 := Lib.hid (((Frm.refl [] w).alloc (.cells #[.int .i64 i, .int .i64 4] 38)).alloc (.cells #[.int .i64 0, .int .i64 0, .bool false, .int .i64 0] 35))
  have H := Lib.hid h
  have HTH := Lib.hid (fun (W : World) (hf : Frm [] w W) => woThreads (h.same hf))
  have hcc := fun (W : World) (hf : Frm [] w W) => woLeaves_read (h.same hf) i
  unfold evV at hcc
  unfold evV
  have d1 : decide (i < 0) = false := by simpa using hi.1
  have d2 : decide ((K.n : Int) ≤ i) = false := by simpa using hi.2
  clear hi
  have HC := Lib.hid hcc
  clear hcc
  have b0 := HB.out.cell (i := 0) rfl
  have b1 := HB.out.cell (i := 1) rfl
  clear h hr
  go_enter Tryz.func9, Tryz.ntmps9
  go_wp2_with fail
  generalize (w.alloc (.cells #[.int .i64 i, .int .i64 4] 38)).alloc (.cells #[.int .i64 0, .int .i64 0, .bool false, .int .i64 0] 35) = W0 at *
  have hne : Nonempty (HW (fun wx => Frm [] W0 wx)) := ⟨⟨W0, Frm.refl _ _⟩⟩
  have hz0 : ∀ q : HW (fun wx => Frm [] W0 wx), q.w.cell? ⟨w.heap.size, 0, none⟩ = some (.int .i64 i) := fun q => (HB.out.frm q.h (by simp)).cell (i := 0) rfl
  refine held_begin (S := fun wx => Frm [] W0 wx) (by kernel_rfl) ?_
  refine held_row_at (fuel := 3) (is := [0, 1, 2, 3, 4, 5, 6]) (.cons rfl (.cons rfl (.cons rfl (.cons rfl (.cons rfl (.cons rfl (.cons rfl .nil))))))) (by kernel_rfl) (fun _ _ _ _ _ h => h) rfl (by kernel_rfl) (Frm.refl _ _).drew1 ?_
  intro K' hK
  repeat (go_big_quiet_step (fail))
  refine wpQuiet_nil (hK _ ?_)
  clear hK K'
  refine held_call (fuel := 2) (i := 7) rfl (by kernel_rfl) ?_
  go_wp2_with fail
  refine (HTH.out _ HF0.out.drew1).mono ?_
  rintro e w' ⟨rfl, rfl⟩
  go_wp2_with fail
  refine onNormal_mk ⟨(Frm.refl _ _).drew1, ?_⟩
  refine held_row_at (fuel := 0) (is := [8, 9]) (.cons rfl (.cons rfl .nil)) (by kernel_rfl) (fun _ _ _ _ _ h => h) rfl (by kernel_rfl) (Frm.refl _ _).drew1 ?_
  intro K' hK
  repeat (go_big_quiet_step (fail))
  refine wpQuiet_nil (hK _ ?_)
  clear hK K' hne hz0
  refine held_end (by kernel_rfl) ?_
  have HB1 := Lib.hid (HB.out.drew1)
  have HR1 := Lib.hid (HR.out.drew1)
  have HF1 := Lib.hid (HF0.out.drew1)
  clear HB HR HF0 HTH b0 b1
  generalize W0.drew = w1 at *
  have b0 := HB1.out.cell (i := 0) rfl
  have b1 := HB1.out.cell (i := 1) rfl
  go_wp2_with fail
  refine (HC.out _ HF1.out).mono ?_
  rintro e w2 ⟨rfl, hW2, hF2⟩
  have hm := (H.out.same HF1.out).lo.co.mut
  have HR2 := Lib.hid (HR1.out.frm hF2 (hm.not HR1.out))
  have HF2 := Lib.hid ((HF1.out.mono (S' := CZ B K) (by simp)).trans hF2)
  have HW2 := Lib.hid hW2
  clear hF2 hW2 hm b0 b1
  have hfin := ev_fin HR2.out 5 (i) 0 rfl
  have HWF := Lib.hid (HW2.out.evs HR2.out hfin.2)
  have HRF := Lib.hid hfin.1
  have HFF := Lib.hid (HF2.out.widen hfin.2 (fun z hz => .inr (by simp at hz; omega)))
  have r0 := HR2.out.cell (i := 0) rfl
  have r1 := HR2.out.cell (i := 1) rfl
  have r2 := HR2.out.cell (i := 2) rfl
  have r3 := HR2.out.cell (i := 3) rfl
  have rz := HR2.out.frozen
  have rl := HR2.out.lt
  clear hfin
  go_wp2_with fail
  generalize ((((w2).setCell ⟨w.heap.size + 1, 0, none⟩ (.int .i64 5)).setCell ⟨w.heap.size + 1, 1, none⟩ (.int .i64 (i))).setCell ⟨w.heap.size + 1, 2, none⟩ (.bool false)).setCell ⟨w.heap.size + 1, 3, none⟩ (.int .i64 0) = W2 at *
  have k0 := HRF.out.cell (i := 0) rfl
  have k1 := HRF.out.cell (i := 1) rfl
  have k2 := HRF.out.cell (i := 2) rfl
  have k3 := HRF.out.cell (i := 3) rfl
  exact bodyPost_ret (v := .agg #[.int .i64 5, .int .i64 (i), .bool false, .int .i64 0]) (by simp [results, Tryz.results9, go_sem, k0, k1, k2, k3]) rfl ⟨rfl, HWF.out, HFF.out⟩
set_option maxRecDepth 100000 in
set_option maxHeartbeats 4000000 in
theorem woDo_x (h : WoAt w wo tb lk B K S) (i x : Int) (hi : 0 ≤ i ∧ i < (K.n : Int)) (hx : x ≠ 0 ∧ x ≠ 1 ∧ x ≠ 2 ∧ x ≠ 3 ∧ x ≠ 4) : Calls Tryz.prog 9 #[.pointer (some ⟨wo, 0, none⟩), .agg #[.int .i64 i, .int .i64 x]] w fun e w' => e = .returned (evV (5) (i) (0)) ∧ WoAt w' wo tb lk B K (S) ∧ Frm (CZ B K) w w' := by
  have HB := Lib.hid ((HAt.new w #[.int .i64 i, .int .i64 x] 38).frm ((Frm.refl [] _).alloc (.cells #[.int .i64 0, .int .i64 0, .bool false, .int .i64 0] 35)) (by simp))
  have hr := HAt.new (w.alloc (.cells #[.int .i64 i, .int .i64 x] 38)) #[.int .i64 0, .int .i64 0, .bool false, .int .i64 0] 35
  rw [World.size_alloc] at hr
  have HR := Lib.hid hr
  have HF0 := Lib.hid (((Frm.refl [] w).alloc (.cells #[.int .i64 i, .int .i64 x] 38)).alloc (.cells #[.int .i64 0, .int .i64 0, .bool false, .int .i64 0] 35))
  have H := Lib.hid h
  have HTH := Lib.hid (fun (W : World) (hf : Frm [] w W) => woThreads (h.same hf))
  have hcc := fun (W : World) (hf : Frm [] w W) => woState (h.same hf) i
  unfold evV
  have d1 : decide (i < 0) = false := by simpa using hi.1
  have d2 : decide ((K.n : Int) ≤ i) = false := by simpa using hi.2
  clear hi
  have x0 : (x == 0) = false := by simpa using hx.1
  have x1 : (x == 1) = false := by simpa using hx.2.1
  have x2 : (x == 2) = false := by simpa using hx.2.2.1
  have x3 : (x == 3) = false := by simpa using hx.2.2.2.1
  have x4 : (x == 4) = false := by simpa using hx.2.2.2.2
  clear hx
  generalize stOf (coPc K S i) = st at *
  have HC := Lib.hid hcc
  clear hcc
  have b0 := HB.out.cell (i := 0) rfl
  have b1 := HB.out.cell (i := 1) rfl
  clear h hr
  go_enter Tryz.func9, Tryz.ntmps9
  go_wp2_with fail
  generalize (w.alloc (.cells #[.int .i64 i, .int .i64 x] 38)).alloc (.cells #[.int .i64 0, .int .i64 0, .bool false, .int .i64 0] 35) = W0 at *
  have hne : Nonempty (HW (fun wx => Frm [] W0 wx)) := ⟨⟨W0, Frm.refl _ _⟩⟩
  have hz0 : ∀ q : HW (fun wx => Frm [] W0 wx), q.w.cell? ⟨w.heap.size, 0, none⟩ = some (.int .i64 i) := fun q => (HB.out.frm q.h (by simp)).cell (i := 0) rfl
  refine held_begin (S := fun wx => Frm [] W0 wx) (by kernel_rfl) ?_
  refine held_row_at (fuel := 3) (is := [0, 1, 2, 3, 4, 5, 6]) (.cons rfl (.cons rfl (.cons rfl (.cons rfl (.cons rfl (.cons rfl (.cons rfl .nil))))))) (by kernel_rfl) (fun _ _ _ _ _ h => h) rfl (by kernel_rfl) (Frm.refl _ _).drew1 ?_
  intro K' hK
  repeat (go_big_quiet_step (fail))
  refine wpQuiet_nil (hK _ ?_)
  clear hK K'
  refine held_call (fuel := 2) (i := 7) rfl (by kernel_rfl) ?_
  go_wp2_with fail
  refine (HTH.out _ HF0.out.drew1).mono ?_
  rintro e w' ⟨rfl, rfl⟩
  go_wp2_with fail
  refine onNormal_mk ⟨(Frm.refl _ _).drew1, ?_⟩
  refine held_row_at (fuel := 0) (is := [8, 9]) (.cons rfl (.cons rfl .nil)) (by kernel_rfl) (fun _ _ _ _ _ h => h) rfl (by kernel_rfl) (Frm.refl _ _).drew1 ?_
  intro K' hK
  repeat (go_big_quiet_step (fail))
  refine wpQuiet_nil (hK _ ?_)
  clear hK K' hne hz0
  refine held_end (by kernel_rfl) ?_
  have HB1 := Lib.hid (HB.out.drew1)
  have HR1 := Lib.hid (HR.out.drew1)
  have HF1 := Lib.hid (HF0.out.drew1)
  clear HB HR HF0 HTH b0 b1
  generalize W0.drew = w1 at *
  have b0 := HB1.out.cell (i := 0) rfl
  have b1 := HB1.out.cell (i := 1) rfl
  go_wp2_with fail
  refine (HC.out _ HF1.out).mono ?_
  rintro e w2 ⟨rfl, hF2⟩
  have HR2 := Lib.hid (HR1.out.frm hF2 (by simp))
  have HB2 := Lib.hid (HB1.out.frm hF2 (by simp))
  have HF2 := Lib.hid ((HF1.out.trans hF2).mono (S' := CZ B K) (by simp))
  have HW2 := Lib.hid ((H.out.same HF1.out).same hF2)
  clear hF2 b0 b1
  have b0 := HB2.out.cell (i := 0) rfl
  have hfin := ev_fin HR2.out 5 (i) 0 rfl
  have HWF := Lib.hid (HW2.out.evs HR2.out hfin.2)
  have HRF := Lib.hid hfin.1
  have HFF := Lib.hid (HF2.out.widen hfin.2 (fun z hz => .inr (by simp at hz; omega)))
  have r0 := HR2.out.cell (i := 0) rfl
  have r1 := HR2.out.cell (i := 1) rfl
  have r2 := HR2.out.cell (i := 2) rfl
  have r3 := HR2.out.cell (i := 3) rfl
  have rz := HR2.out.frozen
  have rl := HR2.out.lt
  clear hfin
  go_wp2_with fail
  generalize ((((w2).setCell ⟨w.heap.size + 1, 0, none⟩ (.int .i64 5)).setCell ⟨w.heap.size + 1, 1, none⟩ (.int .i64 (i))).setCell ⟨w.heap.size + 1, 2, none⟩ (.bool false)).setCell ⟨w.heap.size + 1, 3, none⟩ (.int .i64 0) = W2 at *
  have k0 := HRF.out.cell (i := 0) rfl
  have k1 := HRF.out.cell (i := 1) rfl
  have k2 := HRF.out.cell (i := 2) rfl
  have k3 := HRF.out.cell (i := 3) rfl
  exact bodyPost_ret (v := .agg #[.int .i64 5, .int .i64 (i), .bool false, .int .i64 0]) (by simp [results, Tryz.results9, go_sem, k0, k1, k2, k3]) rfl ⟨rfl, HWF.out, HFF.out⟩
theorem woDo (h : WoAt w wo tb lk B K S) (hp : CoPc K S) (i x : Int) : Calls Tryz.prog 9 #[.pointer (some ⟨wo, 0, none⟩), .agg #[.int .i64 i, .int .i64 x]] w fun e w' => e = .returned (evV (doE K S i x).1 (doE K S i x).2.1 (doE K S i x).2.2) ∧ WoAt w' wo tb lk B K (doS K S i x) ∧ Frm (CZ B K) w w' := by
  cases hs : sHas K.n i with
  | false =>
    rw [show doE K S i x = (0, 0, 0) from by unfold doE; rw [if_pos hs], show doS K S i x = S from by unfold doS; rw [if_pos hs]]
    by_cases h0 : i < 0
    · exact woDo_neg h i x h0
    · refine woDo_big h i x ?_
      unfold sHas at hs
      simp at hs; omega
  | true =>
    have hi : 0 ≤ i ∧ i < (K.n : Int) := by unfold sHas at hs; simpa using hs
    have hn : ¬ sHas K.n i = false := by rw [hs]; simp
    by_cases x0 : x = 0
    · subst x0
      rw [show doE K S i 0 = ((stepE K S i).1, i, (stepE K S i).2) from by unfold doE; rw [if_neg hn, if_pos rfl], show doS K S i 0 = coStepS K S i from by unfold doS; rw [if_neg hn, if_pos rfl]]
      exact woDo_0 h hp i 0 hi
    by_cases x1 : x = 1
    · subst x1
      rw [show doE K S i 1 = (if kTurnOk K.n S.TS i 0 = true then 1 else 5, i, 0) from by unfold doE; rw [if_neg hn, if_neg x0, if_pos rfl], show doS K S i 1 = coAskS K S i from by unfold doS; rw [if_neg hn, if_neg x0, if_pos rfl]]
      exact woDo_1 h i 1 hi
    by_cases x2 : x = 2
    · subst x2
      rw [show doE K S i 2 = (if kTurnOk K.n S.TS i 10 = true then 3 else 5, i, 0) from by unfold doE; rw [if_neg hn, if_neg x0, if_neg x1, if_pos rfl], show doS K S i 2 = coLeaveS K S i from by unfold doS; rw [if_neg hn, if_neg x0, if_neg x1, if_pos rfl]]
      exact woDo_2 h i 2 hi
    rw [show doE K S i x = (5, i, 0) from by unfold doE; rw [if_neg hn, if_neg x0, if_neg x1, if_neg x2], show doS K S i x = S from by unfold doS; rw [if_neg hn, if_neg x0, if_neg x1, if_neg x2]]
    by_cases x3 : x = 3
    · subst x3; exact woDo_3 h i 3 hi
    by_cases x4 : x = 4
    · subst x4; exact woDo_4 h i 4 hi
    exact woDo_x h i x hi ⟨x0, x1, x2, x3, x4⟩
end
end Go.Proofs.YteijjhahgabalaaGreat

/- A cohort's invariant is kept by each step: plain lemmas. -/
namespace Go.Proofs.YteijjhahgabalaaGreat
open Go.RowKit
def touch (K : CK) (A A' : AR) : Bool := decide (A.ops < A'.ops) && decide (A'.at_ ≤ (K.G.size : Int))
/-- what a step of thread t leaves, and what its event says -/
def StepLaw (K : CK) (S : CS) (tc : Nat → Bool) (O : Nat → Option Nat) (t : Nat) : Prop :=
  ∃ b o, b = (tc (K.nd t) || touch K S.A (coStepS K S t).A) ∧ CI K (coStepS K S t) (upO tc (K.nd t) (if (stepE K S t).1 = 2 then false else b)) (upO O (K.nd t) o) ∧
    ((stepE K S t).1 = 2 → (1 < (stepE K S t).2 → b = false) ∧ ((stepE K S t).2 = 1 → b = true)) ∧ (coStepS K S t).A.taken = S.A.taken ∧ S.A.ops ≤ (coStepS K S t).A.ops ∧ (coStepS K S t).A.ops ≤ S.A.ops + 1
section
variable {K : CK} {S S' : CS} {tc : Nat → Bool} {O : Nat → Option Nat} {m : Nat}
theorem stp_is {t : Nat} (ht : t < K.n) {S1 : CS} {p' : Int} (hgo : coGo K S t = (S1, p')) (h0 : S.TS t 0 ≠ 0) (h10 : S.TS t 0 ≠ 10) : coStepS K S (t : Nat) = { S1 with TS := spPut S1.TS t 0 p' } ∧ coStepR K S (t : Nat) = (p' == 10 || p' == 0) := by
  have hm : coMoves K S (t : Nat) = true := by unfold coMoves; rw [sHas_nat ht, Int.toNat_natCast]; simp [h0, h10]
  unfold coStepS coStepR
  rw [hm, Int.toNat_natCast, hgo]
  exact ⟨rfl, rfl⟩
theorem CI.went {t : Nat} (ht : t < K.n) {S1 : CS} {p' : Int} (hgo : coGo K S t = (S1, p')) (h0 : S.TS t 0 ≠ 0) (h10 : S.TS t 0 ≠ 10) (hz : S.TS t 0 < 10 → p' ≠ 0) (hz' : 10 < S.TS t 0 → p' ≠ 10) (b : Bool) (o : Option Nat) (hb : b = (tc (K.nd t) || touch K S.A S1.A))
    (hC : CI K { S1 with TS := spPut S1.TS t 0 p' } (upO tc (K.nd t) (if p' = 10 then false else b)) (upO O (K.nd t) o))
    (hc : p' = 10 → (1 < S1.TS t 1 → b = false) ∧ (S1.TS t 1 = 1 → b = true)) (htk : S1.A.taken = S.A.taken) (ho1 : S.A.ops ≤ S1.A.ops) (ho2 : S1.A.ops ≤ S.A.ops + 1) : StepLaw K S tc O t := by
  obtain ⟨e1, e2⟩ := stp_is ht hgo h0 h10
  unfold StepLaw
  have hpc : coPc K S (t : Nat) = S.TS t 0 := by unfold coPc; rw [sHas_nat ht, Int.toNat_natCast]; rfl
  have hk : (stepE K S (t : Nat)).1 = 2 ↔ p' = 10 := by
    unfold stepE
    rw [hpc, e2]
    unfold stOf
    rw [if_neg h0]
    by_cases hl : S.TS t 0 < 10
    · rw [if_pos hl]
      have := hz hl
      by_cases e : p' = 10
      · subst e; simp
      · have r : (p' == 10 || p' == 0) = false := by simp [e, this]
        rw [r]; simp [e]
    · rw [if_neg hl, if_neg h10]
      have := hz' (by omega)
      rw [if_neg (by simp)]
      constructor
      · intro x; split at x <;> simp at x
      · intro x; exact absurd x this
  have hcn : p' = 10 → (stepE K S (t : Nat)).2 = S1.TS t 1 := by
    intro e
    subst e
    unfold stepE
    have hl : S.TS t 0 < 10 := by
      have := hz'; omega
    rw [hpc, e2, e1]
    unfold stOf
    rw [if_neg h0, if_pos hl, if_pos ⟨rfl, by simp⟩]
    unfold coCountV
    have r : kTurnOk K.n (spPut S1.TS t 0 10) (t : Nat) 10 = true := by unfold kTurnOk; rw [sHas_nat ht, Int.toNat_natCast, spat, if_pos ⟨rfl, rfl⟩]; rfl
    show (if kTurnOk K.n (spPut S1.TS t 0 10) (t : Nat) 10 = true then spPut S1.TS t 0 10 (t : Int).toNat 1 else 0) = _
    rw [if_pos r, Int.toNat_natCast, spat, if_neg (by simp)]
  refine ⟨b, o, by rw [e1]; exact hb, ?_, ?_, by rw [e1]; exact htk, by rw [e1]; exact ho1, by rw [e1]; exact ho2⟩
  · have : (if (stepE K S (t : Nat)).1 = 2 then false else b) = (if p' = 10 then false else b) := by
      by_cases e : p' = 10
      · rw [if_pos e, if_pos (hk.2 e)]
      · rw [if_neg e, if_neg (fun x => e (hk.1 x))]
    rw [this, e1]; exact hC
  · intro x
    have e := hk.1 x
    rw [hcn e]; exact hc e
end
end Go.Proofs.YteijjhahgabalaaGreat

/- A cohort's invariant: what an op of one region leaves of the others. -/
namespace Go.Proofs.YteijjhahgabalaaGreat
open Go.RowKit
section
variable {K : CK} {S S' : CS} {tc : Nat → Bool} {O : Nat → Option Nat} {m : Nat} {A' : AR}
theorem CoL.sz (L : CoL K m) {v : Nat} (hv : v < K.E) : 1 ≤ (K.L v).size ∧ 1 ≤ (K.L v).b := ⟨by
  have := (L.lOk v hv).n1; have := (L.lOk v hv).p1
  rcases (L.lOk v hv).five with e | e | e | e | e
  · rw [sz1 e]; omega
  · rw [sz2 e]; omega
  · rw [sz3 e]; omega
  · rw [sz4 e]; omega
  · rw [sz5 e]; omega, (L.lOk v hv).b1⟩
theorem CoL.cn_loc (L : CoL K m) {u v : Nat} (hu : u < K.E) (hv : v < K.E) : K.cn u < (K.L v).b ∨ (K.L v).b + (K.L v).size ≤ K.cn u := by
  have l1 := L.lay u hu; have l2 := L.lay v hv
  have s1 := L.sz hu
  by_cases e : u < v
  · exact .inl (L.apart u v e hv)
  · by_cases e2 : u = v
    · subst e2; exact .inr l1.2.1
    · have := L.apart v u (by omega) hu; right; omega
theorem CoL.cn_ne (L : CoL K m) {u v : Nat} (hu : u < K.E) (hv : v < K.E) (hne : u ≠ v) : K.cn u ≠ K.cn v := by
  have l1 := L.lay u hu; have l2 := L.lay v hv
  by_cases e : u < v
  · have := L.apart u v e hv; omega
  · have := L.apart v u (by omega) hu; omega
theorem CoL.loc_loc (L : CoL K m) {u v : Nat} (hu : u < K.E) (hv : v < K.E) (hne : u ≠ v) : (K.L u).b + (K.L u).size ≤ (K.L v).b ∨ (K.L v).b + (K.L v).size ≤ (K.L u).b := by
  have l1 := L.lay u hu; have l2 := L.lay v hv
  by_cases e : u < v
  · have := L.apart u v e hv; omega
  · have := L.apart v u (by omega) hu; omega
theorem touch_far {b n : Nat} (hop : Op1 b n S.A A') (hb : K.G.size < b) : touch K S.A A' = false := by
  unfold touch
  rcases hop.ops with e | ⟨e, e1, e2⟩
  · rw [e]; simp
  · have : ¬ A'.at_ ≤ (K.G.size : Int) := by omega
    simp [this]
theorem CI.atLoc (h : CI K S tc O) (L : CoL K S.A.taken) {v : Nat} (hv : v < K.E) {L' : Nat → Nat → Int} (hop : Op1 (K.L v).b (K.L v).size S.A A') (hl : S.A.ops < 1000000000) (hfi : FI (K.L v) L' A') :
    A'.Fit ∧ FI K.G S.GS A' ∧ (∀ u, u < K.E → FI (K.L u) (upL S.LS v L' u) A') ∧ (∀ u, u < K.E → A'.get (K.cn u : Nat) = S.A.get (K.cn u : Nat)) ∧ touch K S.A A' = false := by
  have l := L.lay v hv
  have g1 := L.gb
  refine ⟨hop.fit h.fit hl, h.g.frame L.gOk (fun i h1 h2 => hop.out i (by omega)) hop.le.1, fun u hu => ?_, fun u hu => hop.out _ (by have := L.cn_loc hu hv; omega), touch_far hop (by omega)⟩
  unfold upL
  by_cases e : u = v
  · subst e; rw [if_pos rfl]; exact hfi
  · rw [if_neg e]
    exact (h.l u hu).frame (L.lOk u hu) (fun i h1 h2 => hop.out i (by have := L.loc_loc hu hv e; omega)) hop.le.1
theorem CI.atCn (h : CI K S tc O) (L : CoL K S.A.taken) {v : Nat} (hv : v < K.E) (hop : Op1 (K.cn v) 1 S.A A') (hl : S.A.ops < 1000000000) :
    A'.Fit ∧ FI K.G S.GS A' ∧ (∀ u, u < K.E → FI (K.L u) (S.LS u) A') ∧ (∀ u, u < K.E → u ≠ v → A'.get (K.cn u : Nat) = S.A.get (K.cn u : Nat)) ∧ touch K S.A A' = false := by
  have l := L.lay v hv
  have g1 := L.gb
  have s1 := L.sz hv
  refine ⟨hop.fit h.fit hl, h.g.frame L.gOk (fun i h1 h2 => hop.out i (by omega)) hop.le.1, fun u hu => ?_, fun u hu hne => hop.out _ (by have := L.cn_ne hu hv hne; omega), touch_far hop (by omega)⟩
  exact (h.l u hu).frame (L.lOk u hu) (fun i h1 h2 => hop.out i (by have := L.cn_loc hv hu; omega)) hop.le.1
theorem CI.atG (h : CI K S tc O) (L : CoL K S.A.taken) (hop : Op1 K.G.b K.G.size S.A A') (hl : S.A.ops < 1000000000) :
    A'.Fit ∧ (∀ u, u < K.E → FI (K.L u) (S.LS u) A') ∧ (∀ u, u < K.E → A'.get (K.cn u : Nat) = S.A.get (K.cn u : Nat)) ∧ (A'.ops = S.A.ops + 1 → touch K S.A A' = true) := by
  have g1 := L.gb
  refine ⟨hop.fit h.fit hl, fun u hu => ?_, fun u hu => hop.out _ (by have l := L.lay u hu; have := L.sz hu; omega), fun e => ?_⟩
  · have l := L.lay u hu
    exact (h.l u hu).frame (L.lOk u hu) (fun i h1 h2 => hop.out i (by omega)) hop.le.1
  · unfold touch
    rcases hop.ops with x | ⟨x, e1, e2⟩
    · rw [x] at e; omega
    · have h1 : S.A.ops < A'.ops := by omega
      have h2 : A'.at_ ≤ (K.G.size : Int) := by omega
      simp [h1, h2]
theorem CI.cnOp (h : CI K S tc O) (L : CoL K S.A.taken) {v : Nat} (hv : v < K.E) : S.A.has (K.cn v : Nat) = true ∧ Op1 (K.cn v) 1 S.A (S.A.load (K.cn v : Nat)) ∧ ∀ x, Op1 (K.cn v) 1 S.A (S.A.store (K.cn v : Nat) x) ∧ (S.A.store (K.cn v : Nat) x).get (K.cn v : Nat) = x := by
  have l := L.lay v hv
  have s1 := L.sz hv
  have hi : S.A.has (K.cn v : Nat) = true := has_iff.2 (by omega)
  refine ⟨hi, (op_load h.fit hi (by omega) (by omega)).1, fun x => ⟨(op_store h.fit hi (by omega) (by omega)).1, ?_⟩⟩
  rw [get_store h.fit.1 hi, if_pos rfl]
end
end Go.Proofs.YteijjhahgabalaaGreat

/- A cohort's invariant is kept by each step of a thread: plain lemmas. -/
namespace Go.Proofs.YteijjhahgabalaaGreat
open Go.RowKit
section
variable {K : CK} {S S1 S' : CS} {tc tc' : Nat → Bool} {O : Nat → Option Nat} {t v : Nat} {p' : Int} {b : Bool}
theorem NodeP.me (h : OwnP K.bud p' (S1.TS t 1) (S1.A.get (K.cn v : Nat)) (S1.GS v 0) b) : NodeP K { S1 with TS := spPut S1.TS t 0 p' } (upO tc v b) v (some t) := by
  show OwnP K.bud (spPut S1.TS t 0 p' t 0) (spPut S1.TS t 0 p' t 1) (S1.A.get (K.cn v : Nat)) (S1.GS v 0) (upO tc v b v)
  have e1 : spPut S1.TS t 0 p' t 0 = p' := by rw [spat, if_pos ⟨rfl, rfl⟩]
  have e2 : spPut S1.TS t 0 p' t 1 = S1.TS t 1 := by rw [spat, if_neg (by simp)]
  have e3 : upO tc v b v = b := by unfold upO; rw [if_pos rfl]
  rw [e1, e2, e3]; exact h
theorem NodeP.non (h : RestP (S1.A.get (K.cn v : Nat)) (S1.GS v 0) b) : NodeP K { S1 with TS := spPut S1.TS t 0 p' } (upO tc v b) v none := by
  show RestP (S1.A.get (K.cn v : Nat)) (S1.GS v 0) (upO tc v b v)
  have e3 : upO tc v b v = b := by unfold upO; rw [if_pos rfl]
  rw [e3]; exact h
theorem NodeP.keep {o : Option Nat} (h : NodeP K S tc v o) (hn : o ≠ some t) (hc : S1.A.get (K.cn v : Nat) = S.A.get (K.cn v : Nat)) (hg : S1.GS v 0 = S.GS v 0) (hb : b = tc v) (hts : ∀ u, u ≠ t → ∀ k, S1.TS u k = S.TS u k) : NodeP K { S1 with TS := spPut S1.TS t 0 p' } (upO tc v b) v o := by
  have e3 : upO tc v b v = b := by unfold upO; rw [if_pos rfl]
  cases o with
  | none =>
    show RestP (S1.A.get (K.cn v : Nat)) (S1.GS v 0) (upO tc v b v)
    rw [e3, hc, hg, hb]; exact h
  | some u =>
    have hne : u ≠ t := fun e => hn (by rw [e])
    show OwnP K.bud (spPut S1.TS t 0 p' u 0) (spPut S1.TS t 0 p' u 1) (S1.A.get (K.cn v : Nat)) (S1.GS v 0) (upO tc v b v)
    rw [e3, hc, hg, hb, spat, if_neg (by simp [hne]), spat, if_neg (by simp [hne]), hts u hne, hts u hne]; exact h
/-- a step by what it does -/
theorem CI.by (h : CI K S tc O) (L : CoL K S.A.taken) (ht : t < K.n) (hgo : coGo K S t = (S1, p')) (h0 : S.TS t 0 ≠ 0) (h10 : S.TS t 0 ≠ 10) (hz : S.TS t 0 < 10 → p' ≠ 0) (hz' : 10 < S.TS t 0 → p' ≠ 10) (o : Option Nat)
    (hop : S1.A.taken = S.A.taken ∧ S.A.ops ≤ S1.A.ops ∧ S1.A.ops ≤ S.A.ops + 1) (hb : b = (tc (K.nd t) || touch K S.A S1.A))
    (hfit : S1.A.Fit) (hg : FI K.G S1.GS S1.A) (hl : ∀ v, v < K.E → FI (K.L v) (S1.LS v) S1.A)
    (hts : ∀ u, u ≠ t → ∀ k, S1.TS u k = S.TS u k) (hlo : ∀ v, v ≠ K.nd t → S1.LS v = S.LS v) (hls : ∀ s, s ≠ K.sl t → S1.LS (K.nd t) s 0 = S.LS (K.nd t) s 0)
    (hgs : ∀ v, v ≠ K.nd t → S1.GS v 0 = S.GS v 0) (hcn : ∀ v, v < K.E → v ≠ K.nd t → S1.A.get (K.cn v : Nat) = S.A.get (K.cn v : Nat))
    (hloc : LocP p' (S1.LS (K.nd t) (K.sl t) 0)) (ho : hold p' ↔ o = some t) (hoth : ∀ u, u ≠ t → (O (K.nd t) = some u ↔ o = some u))
    (hst : NodeP K { S1 with TS := spPut S1.TS t 0 p' } (upO tc (K.nd t) (if p' = 10 then false else b)) (K.nd t) o)
    (hc : p' = 10 → (1 < S1.TS t 1 → b = false) ∧ (S1.TS t 1 = 1 → b = true)) : StepLaw K S tc O t := by
  refine CI.went ht hgo h0 h10 hz hz' b o hb ?_ hc hop.1 hop.2.1 hop.2.2
  have e1 : spPut S1.TS t 0 p' t 0 = p' := by rw [spat, if_pos ⟨rfl, rfl⟩]
  refine h.turn ht _ o hfit hg hl (fun u hu k => ?_) hlo hls hgs hcn ?_ ?_ hoth hst (fun u hu e1 e2 => L.inj t u ht hu e1 e2)
  · show spPut S1.TS t 0 p' u k = _
    rw [spat, if_neg (by simp [hu])]; exact hts u hu k
  · show LocP (spPut S1.TS t 0 p' t 0) _
    rw [e1]; exact hloc
  · show hold (spPut S1.TS t 0 p' t 0) ↔ _
    rw [e1]; exact ho
theorem upL_me (f : Nat → Nat → Nat → Int) (v : Nat) (x : Nat → Nat → Int) : upL f v x v = x := by unfold upL; rw [if_pos rfl]
theorem upL_ne {f : Nat → Nat → Nat → Int} {v u : Nat} {x : Nat → Nat → Int} (h : u ≠ v) : upL f v x u = f u := by unfold upL; rw [if_neg h]
theorem not_hold {p : Int} (h : p = 0 ∨ p = 1 ∨ 16 ≤ p) : ¬ hold p := by unfold hold; omega
theorem CI.idleO (h : CI K S tc O) (ht : t < K.n) (hh : ¬ hold (S.TS t 0)) : O (K.nd t) ≠ some t := fun e => hh ((h.own t ht).2 e)
/-- a local step: 1 and 16 -/
theorem CI.step_loc (h : CI K S tc O) (L : CoL K S.A.taken) (ht : t < K.n) (hl : S.A.ops < 1000000000) (hp : S.TS t 0 = 1 ∨ S.TS t 0 = 16) : StepLaw K S tc O t := by
  obtain ⟨hv, hs⟩ := L.nd t ht
  have hlay := L.lay _ hv
  obtain ⟨hfi, hop, -, hok⟩ := (h.l _ hv).step (L.lOk _ hv) h.fit hl (by omega) hs
  obtain ⟨k1, k2, k3, k4, k5⟩ := h.atLoc L hv hop hl hfi
  have hO := h.idleO ht (not_hold (by omega))
  have hloc := h.loc t ht
  have hbt : (tc (K.nd t) || touch K S.A (fStepA (K.L (K.nd t)) (S.LS (K.nd t)) S.A (K.sl t : Nat))) = tc (K.nd t) := by rw [k5]; simp
  have hone : ∀ u, O (K.nd t) = some u → ¬ 10 ≤ fStepS (K.L (K.nd t)) (S.LS (K.nd t)) S.A (K.sl t : Nat) (K.sl t) 0 := by
    intro u hu hc
    obtain ⟨un, und⟩ := h.ow _ _ hu
    have hne : u ≠ t := fun e => hO (by subst e; exact hu)
    have hh : hold (S.TS u 0) := (h.own u un).2 (by rw [und]; exact hu)
    have hlu := h.loc u un
    have hsl : K.sl u ≠ K.sl t := fun e => hne (L.inj u t un ht und e)
    have hq : S.LS (K.nd u) (K.sl u) 0 = 10 := by
      rcases hlu with q | q | q | q
      · exact absurd hh (not_hold (by omega))
      · exact absurd hh (not_hold (by omega))
      · exact q.2
      · exact absurd hh (not_hold (by omega))
    rw [und] at hq
    have hus : K.sl u < (K.L (K.nd t)).n := by rw [← und]; exact (L.nd u un).2
    have := hfi.one (L.lOk _ hv) hus hs (by rw [hok.others _ hsl, hq]; omega) hc
    exact hsl this
  generalize hA : fStepA (K.L (K.nd t)) (S.LS (K.nd t)) S.A (K.sl t : Nat) = A' at *
  generalize hL : fStepS (K.L (K.nd t)) (S.LS (K.nd t)) S.A (K.sl t : Nat) = L' at *
  generalize hR : fStepR (K.L (K.nd t)) (S.LS (K.nd t)) S.A (K.sl t : Nat) = R at *
  have ho3 := hop.le
  have hcases : ∃ p', coGo K S t = ({ S with A := A', LS := upL S.LS (K.nd t) L' }, p') ∧ ((S.TS t 0 = 1 ∧ R = true ∧ p' = 2 ∧ L' (K.sl t) 0 = 10) ∨ (S.TS t 0 = 1 ∧ p' = 1 ∧ 1 ≤ L' (K.sl t) 0 ∧ L' (K.sl t) 0 ≤ 9) ∨ (S.TS t 0 = 16 ∧ p' = 0 ∧ L' (K.sl t) 0 = 0) ∨ (S.TS t 0 = 16 ∧ p' = 16 ∧ 11 ≤ L' (K.sl t) 0)) := by
    rcases hp with e | e
    · refine ⟨if R = true then 2 else 1, ?_, ?_⟩
      · unfold coGo coIn; rw [if_pos (by omega), if_pos e, hA, hL, hR]
      · have hq : 1 ≤ S.LS (K.nd t) (K.sl t) 0 ∧ S.LS (K.nd t) (K.sl t) 0 ≤ 9 := by
          rcases hloc with q | q | q | q
          · omega
          · exact q.2
          · exact absurd q.1 (not_hold (by omega))
          · omega
        obtain ⟨c1, c2, c3⟩ := hok.coming (by omega) (by omega)
        cases R with
        | true => exact .inl ⟨e, rfl, rfl, c3.1 rfl⟩
        | false =>
          refine .inr (.inl ⟨e, rfl, c1, ?_⟩)
          have : L' (K.sl t) 0 ≠ 10 := fun x => by simpa using c3.2 x
          omega
    · refine ⟨if R = true then 0 else 16, ?_, ?_⟩
      · unfold coGo coOut; rw [if_neg (by omega), if_neg (by omega), if_neg (by omega), if_neg (by omega), if_neg (by omega), if_neg (by omega), hA, hL, hR]
      · have hq : 11 ≤ S.LS (K.nd t) (K.sl t) 0 := by
          rcases hloc with q | q | q | q
          · omega
          · omega
          · exact absurd q.1 (not_hold (by omega))
          · exact q.2
        obtain ⟨c1, c3⟩ := hok.going (by omega)
        cases R with
        | true => exact .inr (.inr (.inl ⟨e, rfl, c3.1 rfl⟩))
        | false =>
          refine .inr (.inr (.inr ⟨e, rfl, ?_⟩))
          have : L' (K.sl t) 0 ≠ 0 := fun x => by simpa using c3.2 x
          omega
  obtain ⟨p', hgo, hc⟩ := hcases
  have hst := h.st _ hv
  by_cases hr : p' = 2
  · have hno : O (K.nd t) = none := by
      cases e : O (K.nd t) with
      | none => rfl
      | some u => exact absurd (by omega) (hone u e)
    rw [hno] at hst
    refine h.by L ht hgo (by omega) (by omega) (by omega) (by omega) (some t) ⟨hop.taken, ho3.1, ho3.2⟩ hbt.symm k1 k2 k3 (fun _ _ _ => rfl) (fun u hu => upL_ne hu) (fun s hs' => by show upL S.LS (K.nd t) L' (K.nd t) s 0 = _; rw [upL_me]; exact hok.others s hs') (fun _ _ => rfl) (fun u hu _ => k4 u hu) ?_ ?_ (fun u hu => ?_) ?_ (by omega)
    · show LocP p' (upL S.LS (K.nd t) L' (K.nd t) (K.sl t) 0); rw [upL_me]; exact .inr (.inr (.inl ⟨.inl (by omega), by omega⟩))
    · exact ⟨fun _ => rfl, fun _ => .inl (by omega)⟩
    · rw [hno]; constructor
      · intro x; cases x
      · intro x; exact absurd (Option.some.inj x).symm hu
    · rw [if_neg (by omega)]
      refine NodeP.me (?_)
      refine ⟨fun _ => ?_, by omega, by omega, by omega, by omega, by omega, by omega⟩
      show RestP (A'.get (K.cn (K.nd t) : Nat)) (S.GS (K.nd t) 0) (tc (K.nd t))
      rw [k4 _ hv]; exact hst
  · refine h.by L ht hgo (by omega) (by omega) (by omega) (by omega) (O (K.nd t)) ⟨hop.taken, ho3.1, ho3.2⟩ hbt.symm k1 k2 k3 (fun _ _ _ => rfl) (fun u hu => upL_ne hu) (fun s hs' => by show upL S.LS (K.nd t) L' (K.nd t) s 0 = _; rw [upL_me]; exact hok.others s hs') (fun _ _ => rfl) (fun u hu _ => k4 u hu) ?_ ?_ (fun u hu => Iff.rfl) ?_ (by omega)
    · show LocP p' (upL S.LS (K.nd t) L' (K.nd t) (K.sl t) 0); rw [upL_me]
      unfold LocP; omega
    · exact ⟨fun x => absurd x (not_hold (by omega)), fun x => absurd x hO⟩
    · rw [if_neg (by omega)]
      exact hst.keep hO (k4 _ hv) rfl rfl (fun _ _ _ => rfl)
end
end Go.Proofs.YteijjhahgabalaaGreat

/- A cohort's invariant is kept by the steps of a thread that has its local lock: plain lemmas. -/
namespace Go.Proofs.YteijjhahgabalaaGreat
open Go.RowKit
section
variable {K : CK} {S S1 S' : CS} {tc tc' : Nat → Bool} {O : Nat → Option Nat} {t v : Nat} {p' : Int} {b : Bool}
/-- who has its local lock -/
theorem CI.mine (h : CI K S tc O) (L : CoL K S.A.taken) (ht : t < K.n) (hh : hold (S.TS t 0)) : O (K.nd t) = some t ∧ S.LS (K.nd t) (K.sl t) 0 = 10 ∧ OwnP K.bud (S.TS t 0) (S.TS t 1) (S.A.get (K.cn (K.nd t) : Nat)) (S.GS (K.nd t) 0) (tc (K.nd t)) := by
  have e := (h.own t ht).1 hh
  have hst := h.st _ (L.nd t ht).1
  rw [e] at hst
  refine ⟨e, ?_, hst⟩
  rcases h.loc t ht with q | q | q | q
  · exact absurd hh (not_hold (by omega))
  · exact absurd hh (not_hold (by omega))
  · exact q.2
  · exact absurd hh (not_hold (by omega))
/-- a step that keeps the local lock, by an op at the count -/
theorem CI.by_cn (h : CI K S tc O) (L : CoL K S.A.taken) (ht : t < K.n) (hl : S.A.ops < 1000000000) (hh : hold (S.TS t 0)) (h10 : S.TS t 0 ≠ 10) {A' : AR} {T' : Nat → Nat → Int} {G' : Nat → Nat → Int} (hgo : coGo K S t = (⟨A', G', S.LS, T'⟩, p')) (hp' : hold p') (hp0 : 10 < S.TS t 0 → p' ≠ 10)
    (hop : Op1 (K.cn (K.nd t)) 1 S.A A') (hT : ∀ u, u ≠ t → ∀ k, T' u k = S.TS u k) (hg : FI K.G S.GS A' → FI K.G G' A') (hgs : ∀ v, v ≠ K.nd t → G' v 0 = S.GS v 0)
    (hst : OwnP K.bud p' (T' t 1) (A'.get (K.cn (K.nd t) : Nat)) (G' (K.nd t) 0) (if p' = 10 then false else tc (K.nd t)))
    (hc : p' = 10 → (1 < T' t 1 → tc (K.nd t) = false) ∧ (T' t 1 = 1 → tc (K.nd t) = true)) : StepLaw K S tc O t := by
  obtain ⟨hO, hq, -⟩ := h.mine L ht hh
  obtain ⟨k1, k2, k3, k4, k5⟩ := h.atCn L (L.nd t ht).1 hop hl
  have h0 : S.TS t 0 ≠ 0 := fun e => not_hold (.inl e) hh
  have h0' : p' ≠ 0 := fun e => not_hold (.inl e) hp'
  have ho3 := hop.le
  exact h.by L ht hgo h0 h10 (fun _ => h0') hp0 (some t) ⟨hop.taken, ho3.1, ho3.2⟩ (by rw [k5]; simp) k1 (hg k2) k3 hT (fun _ _ => rfl) (fun _ _ => rfl) hgs k4 (.inr (.inr (.inl ⟨hp', hq⟩))) ⟨fun _ => rfl, fun _ => hp'⟩ (fun u hu => by rw [hO]) (NodeP.me hst) hc
theorem CI.step2 (h : CI K S tc O) (L : CoL K S.A.taken) (ht : t < K.n) (hl : S.A.ops < 1000000000) (hp : S.TS t 0 = 2) : StepLaw K S tc O t := by
  have hh : hold (S.TS t 0) := .inl (by omega)
  obtain ⟨hO, hq, hown⟩ := h.mine L ht hh
  obtain ⟨hv, hs⟩ := L.nd t ht
  obtain ⟨hi, hld, -⟩ := h.cnOp L hv
  have hr := hown.1 hp
  obtain ⟨c, hc⟩ : ∃ c, c = S.A.get (K.cn (K.nd t) : Nat) := ⟨_, rfl⟩
  have hgl : (S.A.load (K.cn (K.nd t) : Nat)).get (K.cn (K.nd t) : Nat) = c := by rw [get_load, hc]
  have e1 : ∀ T : Nat → Nat → Int, spPut T t 1 c t 1 = c := fun T => by rw [spat, if_pos ⟨rfl, rfl⟩]
  have e2 : ∀ u, u ≠ t → ∀ k, spPut S.TS t 1 c u k = S.TS u k := fun u hu k => by rw [spat, if_neg (by simp [hu])]
  by_cases hpos : 0 < c
  · have hr1 := hr.1 (by rw [← hc]; exact hpos)
    refine h.by_cn L ht hl hh (by omega) (A' := S.A.load (K.cn (K.nd t) : Nat)) (T' := spPut S.TS t 1 c) (G' := S.GS) (p' := 10) ?_ (.inr (by omega)) (by omega) hld e2 id (fun _ _ => rfl) ?_ (fun _ => ?_)
    · unfold coGo coIn; rw [if_pos (by omega), if_neg (by omega), if_pos hp, ← hc, if_pos hpos]
    · rw [hgl, if_pos rfl, e1]
      exact ⟨by omega, by omega, by omega, fun _ => hr1.2.1, fun _ => ⟨rfl, by omega⟩, by omega, by omega⟩
    · rw [e1]
      exact ⟨fun _ => hr1.2.2, fun x => by omega⟩
  · have hg0 := hr.2 (by rw [← hc]; omega)
    refine h.by_cn L ht hl hh (by omega) (A' := S.A.load (K.cn (K.nd t) : Nat)) (T' := spPut S.TS t 1 c) (G' := fAsk K.G S.GS (K.nd t : Nat)) (p' := 3) ?_ (.inl (by omega)) (by omega) hld e2 (fun f => (f.ask L.gOk (by rw [L.gn]; exact hv) hg0).1) (h.g.ask L.gOk (by rw [L.gn]; exact hv) hg0).2.2 ?_ (by omega)
    · unfold coGo coIn; rw [if_pos (by omega), if_neg (by omega), if_pos hp, ← hc, if_neg hpos]
    · have hask := (h.g.ask L.gOk (j := K.nd t) (by rw [L.gn]; exact hv) hg0).2.1
      rw [hgl, if_neg (by omega), e1, hask]
      exact ⟨by omega, fun _ => ⟨by omega, by omega, .inl rfl⟩, by omega, by omega, by omega, by omega, by omega⟩
theorem CI.step4 (h : CI K S tc O) (L : CoL K S.A.taken) (ht : t < K.n) (hl : S.A.ops < 1000000000) (hp : S.TS t 0 = 4) : StepLaw K S tc O t := by
  have hh : hold (S.TS t 0) := .inl (by omega)
  obtain ⟨hO, hq, hown⟩ := h.mine L ht hh
  obtain ⟨hv, hs⟩ := L.nd t ht
  obtain ⟨hi, -, hsto⟩ := h.cnOp L hv
  obtain ⟨hop, hget⟩ := hsto 1
  have hr := hown.2.2.1 hp
  have e1 : spPut S.TS t 1 1 t 1 = 1 := by rw [spat, if_pos ⟨rfl, rfl⟩]
  refine h.by_cn L ht hl hh (by omega) (A' := S.A.store (K.cn (K.nd t) : Nat) 1) (T' := spPut S.TS t 1 1) (G' := S.GS) (p' := 10) ?_ (.inr (by omega)) (by omega) hop (fun u hu k => by rw [spat, if_neg (by simp [hu])]) id (fun _ _ => rfl) ?_ (fun _ => ?_)
  · unfold coGo coIn; rw [if_pos (by omega), if_neg (by omega), if_neg (by omega), if_neg (by omega)]
  · rw [hget, if_pos rfl, e1]
    exact ⟨by omega, by omega, by omega, fun _ => hr.1, fun _ => ⟨rfl, by omega⟩, by omega, by omega⟩
  · rw [e1]; exact ⟨by omega, fun _ => hr.2⟩
theorem CI.step11 (h : CI K S tc O) (L : CoL K S.A.taken) (ht : t < K.n) (hl : S.A.ops < 1000000000) (hp : S.TS t 0 = 11) : StepLaw K S tc O t := by
  have hh : hold (S.TS t 0) := .inr (by omega)
  obtain ⟨hO, hq, hown⟩ := h.mine L ht hh
  obtain ⟨hv, hs⟩ := L.nd t ht
  obtain ⟨hi, hld, -⟩ := h.cnOp L hv
  obtain ⟨c, hc⟩ : ∃ c, c = S.A.get (K.cn (K.nd t) : Nat) := ⟨_, rfl⟩
  have hgl : (S.A.load (K.cn (K.nd t) : Nat)).get (K.cn (K.nd t) : Nat) = c := by rw [get_load, hc]
  have e1 : spPut S.TS t 1 c t 1 = c := by rw [spat, if_pos ⟨rfl, rfl⟩]
  have hg := hown.2.2.2.1 (by omega)
  have hb := hown.2.2.2.2.1 (by omega)
  rw [← hc] at hb
  by_cases hlt : K.bud < c
  · refine h.by_cn L ht hl hh (by omega) (A' := S.A.load (K.cn (K.nd t) : Nat)) (T' := spPut S.TS t 1 c) (G' := S.GS) (p' := 14) ?_ (.inr (by omega)) (by omega) hld (fun u hu k => by rw [spat, if_neg (by simp [hu])]) id (fun _ _ => rfl) ?_ (by omega)
    · unfold coGo coOut; rw [if_neg (by omega), if_pos hp, ← hc, if_pos hlt]
    · rw [hgl, if_neg (by omega), e1]
      exact ⟨by omega, by omega, by omega, fun _ => hg, by omega, by omega, by omega⟩
  · refine h.by_cn L ht hl hh (by omega) (A' := S.A.load (K.cn (K.nd t) : Nat)) (T' := spPut S.TS t 1 c) (G' := S.GS) (p' := 12) ?_ (.inr (by omega)) (by omega) hld (fun u hu k => by rw [spat, if_neg (by simp [hu])]) id (fun _ _ => rfl) ?_ (by omega)
    · unfold coGo coOut; rw [if_neg (by omega), if_pos hp, ← hc, if_neg hlt]
    · rw [hgl, if_neg (by omega), e1]
      exact ⟨by omega, by omega, by omega, fun _ => hg, fun _ => hb, fun _ => ⟨rfl, by omega⟩, by omega⟩
theorem CI.step14 (h : CI K S tc O) (L : CoL K S.A.taken) (ht : t < K.n) (hl : S.A.ops < 1000000000) (hp : S.TS t 0 = 14) : StepLaw K S tc O t := by
  have hh : hold (S.TS t 0) := .inr (by omega)
  obtain ⟨hO, hq, hown⟩ := h.mine L ht hh
  obtain ⟨hv, hs⟩ := L.nd t ht
  obtain ⟨hi, -, hsto⟩ := h.cnOp L hv
  obtain ⟨hop, hget⟩ := hsto 0
  have hg := hown.2.2.2.1 (by omega)
  have hlv := h.g.leave L.gOk (j := K.nd t) (by rw [L.gn]; exact hv) hg
  refine h.by_cn L ht hl hh (by omega) (A' := S.A.store (K.cn (K.nd t) : Nat) 0) (T' := S.TS) (G' := fLeave K.G S.GS (K.nd t : Nat)) (p' := 15) ?_ (.inr (by omega)) (by omega) hop (fun _ _ _ => rfl) (fun f => (f.leave L.gOk (by rw [L.gn]; exact hv) hg).1) hlv.2.2 ?_ (by omega)
  · unfold coGo coOut; rw [if_neg (by omega), if_neg (by omega), if_neg (by omega), if_neg (by omega), if_pos hp]
  · rw [hget, if_neg (by omega), hlv.2.1]
    exact ⟨by omega, by omega, by omega, by omega, by omega, by omega, fun _ => ⟨by omega, rfl⟩⟩
end
end Go.Proofs.YteijjhahgabalaaGreat

/- A cohort's invariant is kept by any step; by who asks and who leaves: plain lemmas. -/
namespace Go.Proofs.YteijjhahgabalaaGreat
open Go.RowKit
section
variable {K : CK} {S S1 S' : CS} {tc tc' : Nat → Bool} {O : Nat → Option Nat} {t v : Nat} {p' : Int} {b : Bool}
theorem CI.step3 (h : CI K S tc O) (L : CoL K S.A.taken) (ht : t < K.n) (hl : S.A.ops < 1000000000) (hp : S.TS t 0 = 3) : StepLaw K S tc O t := by
  have hh : hold (S.TS t 0) := .inl (by omega)
  obtain ⟨hO, hq, hown⟩ := h.mine L ht hh
  obtain ⟨hv, hs⟩ := L.nd t ht
  have hr := hown.2.1 hp
  have gm := L.gm; have gb := L.gb
  obtain ⟨hfi, hop, hone, hok⟩ := h.g.step L.gOk h.fit hl (by omega) (j := K.nd t) (by rw [L.gn]; exact hv)
  obtain ⟨k1, k2, k3, k4⟩ := h.atG L hop hl
  obtain ⟨c1, c2, c3⟩ := hok.coming hr.1 (by omega)
  have ho3 := hop.le
  have hb : (tc (K.nd t) || touch K S.A (fStepA K.G S.GS S.A (K.nd t : Nat))) = true := by
    rcases hr.2.2 with e | e
    · rw [k4 (hone e)]; simp
    · rw [e]; simp
  refine h.by L ht (S1 := { S with A := fStepA K.G S.GS S.A (K.nd t : Nat), GS := fStepS K.G S.GS S.A (K.nd t : Nat) }) (p' := if fStepR K.G S.GS S.A (K.nd t : Nat) then 4 else 3) ?_ (by omega) (by omega) (fun _ => by split <;> omega) (by omega) (some t) ⟨hop.taken, ho3.1, ho3.2⟩ hb.symm k1 hfi k2 (fun _ _ _ => rfl) (fun _ _ => rfl) (fun _ _ => rfl) (fun u hu => hok.others u hu) (fun u hu _ => k3 u hu) (.inr (.inr (.inl ⟨.inl (by split <;> omega), hq⟩))) ⟨fun _ => rfl, fun _ => .inl (by split <;> omega)⟩ (fun u hu => by rw [hO]) (NodeP.me ?_) (fun e => by split at e <;> omega)
  · unfold coGo coIn; rw [if_pos (by omega), if_neg (by omega), if_neg (by omega), if_pos hp]
  · show OwnP K.bud (if fStepR K.G S.GS S.A (K.nd t : Nat) then 4 else 3) (S.TS t 1) ((fStepA K.G S.GS S.A (K.nd t : Nat)).get (K.cn (K.nd t) : Nat)) (fStepS K.G S.GS S.A (K.nd t : Nat) (K.nd t) 0) _
    generalize fStepS K.G S.GS S.A (K.nd t : Nat) (K.nd t) 0 = g' at *
    cases hR : fStepR K.G S.GS S.A (K.nd t : Nat) with
    | true =>
      have := c3.1 hR
      rw [if_pos rfl, if_neg (by omega)]
      exact ⟨by omega, by omega, fun _ => ⟨this, rfl⟩, by omega, by omega, by omega, by omega⟩
    | false =>
      have : g' ≠ 10 := fun x => by have := c3.2 x; rw [hR] at this; simp at this
      rw [if_neg (by simp), if_neg (by omega)]
      exact ⟨by omega, fun _ => ⟨c1, by omega, .inr rfl⟩, by omega, by omega, by omega, by omega, by omega⟩
theorem passes_le {a bud : Int} {r : Bool} (_ : passes a bud r = true) : True := trivial
theorem CI.step12 (h : CI K S tc O) (L : CoL K S.A.taken) (ht : t < K.n) (hl : S.A.ops < 1000000000) (hp : S.TS t 0 = 12) : StepLaw K S tc O t := by
  have hh : hold (S.TS t 0) := .inr (by omega)
  obtain ⟨hO, hq, hown⟩ := h.mine L ht hh
  obtain ⟨hv, hs⟩ := L.nd t ht
  have hlay := L.lay _ hv
  obtain ⟨hop, hget⟩ := (h.l _ hv).alone (L.lOk _ hv) h.fit (by omega) hs
  have hfi := (h.l _ hv).frame (L.lOk _ hv) (fun i _ _ => hget i) hop.le.1
  obtain ⟨k1, k2, k3, k4, k5⟩ := h.atLoc L hv hop hl hfi
  have ho3 := hop.le
  have hg := hown.2.2.2.1 (by omega)
  have hb := hown.2.2.2.2.1 (by omega)
  have ha := hown.2.2.2.2.2.1 (by omega)
  refine h.by L ht (S1 := { S with A := fAlA (K.L (K.nd t)) (S.LS (K.nd t)) S.A (K.sl t : Nat) }) (p' := if passes (S.TS t 1) K.bud (fAlR (K.L (K.nd t)) (S.LS (K.nd t)) S.A (K.sl t : Nat)) then 13 else 14) (b := tc (K.nd t)) ?_ (by omega) (by omega) (by omega) (fun _ => by split <;> omega) (some t) ⟨hop.taken, ho3.1, ho3.2⟩ (by rw [k5]; simp) k1 k2 (fun u hu => (h.l u hu).frame (L.lOk u hu) (fun i _ _ => hget i) ho3.1) (fun _ _ _ => rfl) (fun _ _ => rfl) (fun _ _ => rfl) (fun _ _ => rfl) (fun u hu _ => k4 u hu) (.inr (.inr (.inl ⟨.inr (by split <;> omega), hq⟩))) ⟨fun _ => rfl, fun _ => .inr (by split <;> omega)⟩ (fun u hu => by rw [hO]) (NodeP.me ?_) (fun e => by split at e <;> omega)
  · unfold coGo coOut; rw [if_neg (by omega), if_neg (by omega), if_pos hp]
  · show OwnP K.bud (if passes (S.TS t 1) K.bud (fAlR (K.L (K.nd t)) (S.LS (K.nd t)) S.A (K.sl t : Nat)) then 13 else 14) (S.TS t 1) ((fAlA (K.L (K.nd t)) (S.LS (K.nd t)) S.A (K.sl t : Nat)).get (K.cn (K.nd t) : Nat)) (S.GS (K.nd t) 0) _
    rw [hget]
    by_cases e : passes (S.TS t 1) K.bud (fAlR (K.L (K.nd t)) (S.LS (K.nd t)) S.A (K.sl t : Nat)) = true
    · rw [if_pos e, if_neg (by omega)]
      exact ⟨by omega, by omega, by omega, fun _ => hg, fun _ => hb, fun _ => ha, by omega⟩
    · rw [if_neg e, if_neg (by omega)]
      exact ⟨by omega, by omega, by omega, fun _ => hg, by omega, by omega, by omega⟩
theorem CI.step13 (h : CI K S tc O) (L : CoL K S.A.taken) (ht : t < K.n) (hl : S.A.ops < 1000000000) (hp : S.TS t 0 = 13) : StepLaw K S tc O t := by
  have hh : hold (S.TS t 0) := .inr (by omega)
  obtain ⟨hO, hq, hown⟩ := h.mine L ht hh
  obtain ⟨hv, hs⟩ := L.nd t ht
  obtain ⟨hi, -, hsto⟩ := h.cnOp L hv
  have hg := hown.2.2.2.1 (by omega)
  have hb := hown.2.2.2.2.1 (by omega)
  have ha := hown.2.2.2.2.2.1 (by omega)
  have hbud := L.bud
  have hw : wrap64 (S.TS t 1 + 1) = S.TS t 1 + 1 := wr_id (by omega)
  obtain ⟨hop, hget⟩ := hsto (S.TS t 1 + 1)
  obtain ⟨k1, k2, k3, k4, k5⟩ := h.atCn L hv hop hl
  have ho3 := hop.le
  have hlv := (k3 _ hv).leave (L.lOk _ hv) hs hq
  refine h.by L ht (S1 := { S with A := S.A.store (K.cn (K.nd t) : Nat) (S.TS t 1 + 1), LS := upL S.LS (K.nd t) (fLeave (K.L (K.nd t)) (S.LS (K.nd t)) (K.sl t : Nat)) }) (p' := 16) (b := tc (K.nd t)) ?_ (by omega) (by omega) (by omega) (by omega) none ⟨hop.taken, ho3.1, ho3.2⟩ (by rw [k5]; simp) k1 k2 (fun u hu => ?_) (fun _ _ _ => rfl) (fun u hu => upL_ne hu) (fun s hs' => by show upL S.LS (K.nd t) _ (K.nd t) s 0 = _; rw [upL_me]; exact hlv.2.2 s hs') (fun _ _ => rfl) k4 ?_ ⟨fun x => absurd x (not_hold (by omega)), fun x => by cases x⟩ (fun u hu => ?_) (NodeP.non ?_) (by omega)
  · unfold coGo coOut; rw [if_neg (by omega), if_neg (by omega), if_neg (by omega), if_pos hp, hw]
  · show FI (K.L u) (upL S.LS (K.nd t) _ u) _
    by_cases e : u = K.nd t
    · subst e; rw [upL_me]; exact hlv.1
    · rw [upL_ne e]; exact k3 u hu
  · show LocP 16 (upL S.LS (K.nd t) _ (K.nd t) (K.sl t) 0); rw [upL_me]
    exact .inr (.inr (.inr ⟨rfl, by rw [hlv.2.1]; omega⟩))
  · rw [hO]; constructor
    · intro x; exact absurd (Option.some.inj x).symm hu
    · intro x; cases x
  · show RestP ((S.A.store (K.cn (K.nd t) : Nat) (S.TS t 1 + 1)).get (K.cn (K.nd t) : Nat)) (S.GS (K.nd t) 0) _
    rw [hget, if_neg (by omega)]
    exact ⟨fun _ => ⟨by omega, hg, hb.1⟩, by omega⟩
theorem CI.step15 (h : CI K S tc O) (L : CoL K S.A.taken) (ht : t < K.n) (hl : S.A.ops < 1000000000) (hp : S.TS t 0 = 15) : StepLaw K S tc O t := by
  have hh : hold (S.TS t 0) := .inr (by omega)
  obtain ⟨hO, hq, hown⟩ := h.mine L ht hh
  obtain ⟨hv, hs⟩ := L.nd t ht
  have hr := hown.2.2.2.2.2.2 hp
  have gm := L.gm; have gb := L.gb
  obtain ⟨hfi, hop, hone, hok⟩ := h.g.step L.gOk h.fit hl (by omega) (j := K.nd t) (by rw [L.gn]; exact hv)
  obtain ⟨k1, k2, k3, k4⟩ := h.atG L hop hl
  obtain ⟨c1, c3⟩ := hok.going (by omega)
  have ho3 := hop.le
  have hlv := (k2 _ hv).leave (L.lOk _ hv) hs hq
  cases hR : fStepR K.G S.GS S.A (K.nd t : Nat) with
  | true =>
    have hg0 := c3.1 hR
    refine h.by L ht (S1 := { S with A := fStepA K.G S.GS S.A (K.nd t : Nat), GS := fStepS K.G S.GS S.A (K.nd t : Nat), LS := upL S.LS (K.nd t) (fLeave (K.L (K.nd t)) (S.LS (K.nd t)) (K.sl t : Nat)) }) (p' := 16) ?_ (by omega) (by omega) (by omega) (by omega) none ⟨hop.taken, ho3.1, ho3.2⟩ rfl k1 hfi (fun u hu => ?_) (fun _ _ _ => rfl) (fun u hu => upL_ne hu) (fun s hs' => by show upL S.LS (K.nd t) _ (K.nd t) s 0 = _; rw [upL_me]; exact hlv.2.2 s hs') (fun u hu => hok.others u hu) (fun u hu _ => k3 u hu) ?_ ⟨fun x => absurd x (not_hold (by omega)), fun x => by cases x⟩ (fun u hu => ?_) (NodeP.non ?_) (by omega)
    · unfold coGo coOut; rw [if_neg (by omega), if_neg (by omega), if_neg (by omega), if_neg (by omega), if_neg (by omega), if_pos hp, hR]; rfl
    · show FI (K.L u) (upL S.LS (K.nd t) _ u) _
      by_cases e : u = K.nd t
      · subst e; rw [upL_me]; exact hlv.1
      · rw [upL_ne e]; exact k2 u hu
    · show LocP 16 (upL S.LS (K.nd t) _ (K.nd t) (K.sl t) 0); rw [upL_me]
      exact .inr (.inr (.inr ⟨rfl, by rw [hlv.2.1]; omega⟩))
    · rw [hO]; constructor
      · intro x; exact absurd (Option.some.inj x).symm hu
      · intro x; cases x
    · show RestP ((fStepA K.G S.GS S.A (K.nd t : Nat)).get (K.cn (K.nd t) : Nat)) (fStepS K.G S.GS S.A (K.nd t : Nat) (K.nd t) 0) _
      rw [k3 _ hv, hr.2, hg0]
      exact ⟨by omega, fun _ => rfl⟩
  | false =>
    have hg0 : fStepS K.G S.GS S.A (K.nd t : Nat) (K.nd t) 0 ≠ 0 := fun x => by have := c3.2 x; rw [hR] at this; simp at this
    refine h.by L ht (S1 := { S with A := fStepA K.G S.GS S.A (K.nd t : Nat), GS := fStepS K.G S.GS S.A (K.nd t : Nat) }) (p' := 15) ?_ (by omega) (by omega) (by omega) (by omega) (some t) ⟨hop.taken, ho3.1, ho3.2⟩ rfl k1 hfi k2 (fun _ _ _ => rfl) (fun _ _ => rfl) (fun _ _ => rfl) (fun u hu => hok.others u hu) (fun u hu _ => k3 u hu) (.inr (.inr (.inl ⟨.inr (by omega), hq⟩))) ⟨fun _ => rfl, fun _ => .inr (by omega)⟩ (fun u hu => by rw [hO]) (NodeP.me ?_) (by omega)
    · unfold coGo coOut; rw [if_neg (by omega), if_neg (by omega), if_neg (by omega), if_neg (by omega), if_neg (by omega), if_pos hp, hR]; rfl
    · show OwnP K.bud 15 (S.TS t 1) ((fStepA K.G S.GS S.A (K.nd t : Nat)).get (K.cn (K.nd t) : Nat)) (fStepS K.G S.GS S.A (K.nd t : Nat) (K.nd t) 0) _
      rw [k3 _ hv]
      exact ⟨by omega, by omega, by omega, by omega, by omega, by omega, fun _ => ⟨by omega, hr.2⟩⟩
end
end Go.Proofs.YteijjhahgabalaaGreat

/- A cohort's invariant is kept by each pick, and stands at first: plain lemmas. -/
namespace Go.Proofs.YteijjhahgabalaaGreat
open Go.RowKit
/-- what a pick of thread t leaves, and what its event says -/
def DoLaw (K : CK) (S : CS) (tc : Nat → Bool) (O : Nat → Option Nat) (t : Nat) (x : Int) : Prop :=
  ∃ b o, b = (tc (K.nd t) || touch K S.A (doS K S t x).A) ∧ CI K (doS K S t x) (upO tc (K.nd t) (if (doE K S t x).1 = 2 then false else b)) (upO O (K.nd t) o) ∧
    ((doE K S t x).1 = 2 → (1 < (doE K S t x).2.2 → b = false) ∧ ((doE K S t x).2.2 = 1 → b = true)) ∧ (doS K S t x).A.taken = S.A.taken ∧ S.A.ops ≤ (doS K S t x).A.ops ∧ (doS K S t x).A.ops ≤ S.A.ops + 1
section
variable {K : CK} {S S1 S' : CS} {tc tc' : Nat → Bool} {O : Nat → Option Nat} {t v : Nat} {p' : Int} {b : Bool}
theorem CI.steps (h : CI K S tc O) (L : CoL K S.A.taken) (ht : t < K.n) (hl : S.A.ops < 1000000000) (h0 : S.TS t 0 ≠ 0) (h10 : S.TS t 0 ≠ 10) : StepLaw K S tc O t := by
  have hp := h.pcs ht
  have : S.TS t 0 = 1 ∨ S.TS t 0 = 16 ∨ S.TS t 0 = 2 ∨ S.TS t 0 = 3 ∨ S.TS t 0 = 4 ∨ S.TS t 0 = 11 ∨ S.TS t 0 = 12 ∨ S.TS t 0 = 13 ∨ S.TS t 0 = 14 ∨ S.TS t 0 = 15 := by omega
  rcases this with e | e | e | e | e | e | e | e | e | e
  · exact h.step_loc L ht hl (.inl e)
  · exact h.step_loc L ht hl (.inr e)
  · exact h.step2 L ht hl e
  · exact h.step3 L ht hl e
  · exact h.step4 L ht hl e
  · exact h.step11 L ht hl e
  · exact h.step12 L ht hl e
  · exact h.step13 L ht hl e
  · exact h.step14 L ht hl e
  · exact h.step15 L ht hl e
theorem upO_self {α : Type} (f : Nat → α) (v : Nat) : upO f v (f v) = f := by
  funext u; unfold upO; split
  · rename_i e; rw [e]
  · rfl
theorem touch_self (K : CK) (A : AR) : touch K A A = false := by
  unfold touch
  have : ¬ A.ops < A.ops := by omega
  simp [this]
/-- where nothing changes -/
theorem DoLaw.idle (h : CI K S tc O) {x : Int} (hS : doS K S t x = S) (hE : (doE K S t x).1 ≠ 2) : DoLaw K S tc O t x := by
  unfold DoLaw
  rw [hS]
  refine ⟨tc (K.nd t), O (K.nd t), by rw [touch_self]; simp, ?_, fun e => absurd e hE, rfl, by omega, by omega⟩
  rw [if_neg hE, upO_self, upO_self]; exact h
theorem CI.mv (h : CI K S tc O) (L : CoL K S.A.taken) (ht : t < K.n) (hl : S.A.ops < 1000000000) (x : Int) : DoLaw K S tc O t x := by
  have hs : sHas K.n (t : Nat) = true := sHas_nat ht
  have hn : ¬ sHas K.n (t : Nat) = false := by rw [hs]; simp
  obtain ⟨hv, hsl⟩ := L.nd t ht
  have hpc : coPc K S (t : Nat) = S.TS t 0 := by unfold coPc; rw [hs, Int.toNat_natCast]; rfl
  by_cases x0 : x = 0
  · subst x0
    have e1 : doE K S (t : Nat) 0 = ((stepE K S (t : Nat)).1, ((t : Nat) : Int), (stepE K S (t : Nat)).2) := by unfold doE; rw [if_neg hn, if_pos rfl]
    have e2 : doS K S (t : Nat) 0 = coStepS K S (t : Nat) := by unfold doS; rw [if_neg hn, if_pos rfl]
    by_cases h0 : S.TS t 0 = 0 ∨ S.TS t 0 = 10
    · have s1 : stOf (coPc K S (t : Nat)) ≠ 1 := by rw [hpc]; unfold stOf; rcases h0 with e | e <;> rw [e] <;> simp
      have s3 : stOf (coPc K S (t : Nat)) ≠ 3 := by rw [hpc]; unfold stOf; rcases h0 with e | e <;> rw [e] <;> simp
      refine DoLaw.idle h (by rw [e2]; exact step_idle s1 s3) ?_
      rw [e1]
      unfold stepE
      rw [if_neg (fun q => s1 q.1), if_neg (fun q => s3 q.1)]
      simp
    · obtain ⟨b, o, q1, q2, q3, q4⟩ := h.steps L ht hl (fun e => h0 (.inl e)) (fun e => h0 (.inr e))
      unfold DoLaw
      rw [e1, e2]
      exact ⟨b, o, q1, q2, q3, q4⟩
  by_cases x1 : x = 1
  · subst x1
    have e1 : doE K S (t : Nat) 1 = (if kTurnOk K.n S.TS (t : Nat) 0 = true then 1 else 5, ((t : Nat) : Int), 0) := by unfold doE; rw [if_neg hn, if_neg (by omega), if_pos rfl]
    have e2 : doS K S (t : Nat) 1 = coAskS K S (t : Nat) := by unfold doS; rw [if_neg hn, if_neg (by omega), if_pos rfl]
    have hne : (doE K S (t : Nat) 1).1 ≠ 2 := by rw [e1]; show (if _ then (1 : Int) else 5) ≠ 2; split <;> omega
    by_cases h0 : S.TS t 0 = 0
    · have hk : kTurnOk K.n S.TS (t : Nat) 0 = true := by unfold kTurnOk; rw [hs, Int.toNat_natCast, h0]; rfl
      have hq : S.LS (K.nd t) (K.sl t) 0 = 0 := by
        rcases h.loc t ht with q | q | q | q
        · exact q.2
        · omega
        · have := q.1; unfold hold at this; omega
        · omega
      have ha : coAskS K S (t : Nat) = { S with LS := upL S.LS (K.nd t) (fAsk (K.L (K.nd t)) (S.LS (K.nd t)) (K.sl t : Nat)), TS := spPut S.TS t 0 1 } := by unfold coAskS; rw [hk, if_pos rfl, Int.toNat_natCast]
      obtain ⟨a1, a2, a3⟩ := (h.l _ hv).ask (L.lOk _ hv) hsl hq
      have hO := h.idleO ht (not_hold (.inl h0))
      unfold DoLaw
      refine ⟨tc (K.nd t), O (K.nd t), by rw [e2, ha]; show _ = (_ || touch K S.A S.A); rw [touch_self]; simp, ?_, fun e => absurd e hne, by rw [e2, ha], by rw [e2, ha]; exact Int.le_refl _, by rw [e2, ha]; show S.A.ops ≤ _; omega⟩
      rw [if_neg hne, e2, ha]
      refine h.turn ht _ _ h.fit h.g (fun u hu => ?_) (fun u hu k => ?_) (fun u hu => upL_ne hu) (fun s hs' => ?_) (fun _ _ => rfl) (fun _ _ _ => rfl) ?_ ?_ (fun u hu => Iff.rfl) ?_ (fun u hu e1 e2 => L.inj t u ht hu e1 e2)
      · show FI (K.L u) (upL S.LS (K.nd t) _ u) _
        by_cases e : u = K.nd t
        · subst e; rw [upL_me]; exact a1
        · rw [upL_ne e]; exact h.l u hu
      · show spPut S.TS t 0 1 u k = _; rw [spat, if_neg (by simp [hu])]
      · show upL S.LS (K.nd t) _ (K.nd t) s 0 = _; rw [upL_me]; exact a3 s hs'
      · show LocP (spPut S.TS t 0 1 t 0) (upL S.LS (K.nd t) _ (K.nd t) (K.sl t) 0); rw [upL_me, a2, spat, if_pos ⟨rfl, rfl⟩]
        exact .inr (.inl (by omega))
      · show hold (spPut S.TS t 0 1 t 0) ↔ _; rw [spat, if_pos ⟨rfl, rfl⟩]
        exact ⟨fun q => absurd q (not_hold (by omega)), fun q => absurd q hO⟩
      · have := (h.st _ hv).keep (S1 := { S with LS := upL S.LS (K.nd t) (fAsk (K.L (K.nd t)) (S.LS (K.nd t)) (K.sl t : Nat)) }) (p' := 1) (b := tc (K.nd t)) hO rfl rfl rfl (fun _ _ _ => rfl)
        exact this
    · have hk : kTurnOk K.n S.TS (t : Nat) 0 = false := by unfold kTurnOk; rw [hs, Int.toNat_natCast]; simpa using h0
      exact DoLaw.idle h (by rw [e2]; unfold coAskS; rw [hk]; rfl) hne
  by_cases x2 : x = 2
  · subst x2
    have e1 : doE K S (t : Nat) 2 = (if kTurnOk K.n S.TS (t : Nat) 10 = true then 3 else 5, ((t : Nat) : Int), 0) := by unfold doE; rw [if_neg hn, if_neg (by omega), if_neg (by omega), if_pos rfl]
    have e2 : doS K S (t : Nat) 2 = coLeaveS K S (t : Nat) := by unfold doS; rw [if_neg hn, if_neg (by omega), if_neg (by omega), if_pos rfl]
    have hne : (doE K S (t : Nat) 2).1 ≠ 2 := by rw [e1]; show (if _ then (3 : Int) else 5) ≠ 2; split <;> omega
    by_cases h0 : S.TS t 0 = 10
    · have hk : kTurnOk K.n S.TS (t : Nat) 10 = true := by unfold kTurnOk; rw [hs, Int.toNat_natCast, h0]; rfl
      have ha : coLeaveS K S (t : Nat) = { S with TS := spPut S.TS t 0 11 } := by unfold coLeaveS; rw [kTurn_nat ht h0]
      have hh : hold (S.TS t 0) := .inr (by omega)
      obtain ⟨hO, hq, hown⟩ := h.mine L ht hh
      unfold DoLaw
      refine ⟨tc (K.nd t), some t, by rw [e2, ha]; show _ = (_ || touch K S.A S.A); rw [touch_self]; simp, ?_, fun e => absurd e hne, by rw [e2, ha], by rw [e2, ha]; exact Int.le_refl _, by rw [e2, ha]; show S.A.ops ≤ _; omega⟩
      rw [if_neg hne, e2, ha]
      refine h.turn ht _ _ h.fit h.g h.l (fun u hu k => ?_) (fun u hu => rfl) (fun s hs' => rfl) (fun _ _ => rfl) (fun _ _ _ => rfl) ?_ ?_ (fun u hu => by rw [hO]) ?_ (fun u hu e1 e2 => L.inj t u ht hu e1 e2)
      · show spPut S.TS t 0 11 u k = _; rw [spat, if_neg (by simp [hu])]
      · show LocP (spPut S.TS t 0 11 t 0) _; rw [spat, if_pos ⟨rfl, rfl⟩]
        exact .inr (.inr (.inl ⟨.inr (by omega), hq⟩))
      · show hold (spPut S.TS t 0 11 t 0) ↔ _; rw [spat, if_pos ⟨rfl, rfl⟩]
        exact ⟨fun _ => rfl, fun _ => .inr (by omega)⟩
      · have hg := hown.2.2.2.1 (by omega)
        have hb := hown.2.2.2.2.1 (by omega)
        exact NodeP.me (S1 := S) (p' := 11) (b := tc (K.nd t)) ⟨by omega, by omega, by omega, fun _ => hg, fun _ => hb, by omega, by omega⟩
    · have hk : kTurnOk K.n S.TS (t : Nat) 10 = false := by unfold kTurnOk; rw [hs, Int.toNat_natCast]; simpa using h0
      exact DoLaw.idle h (by rw [e2]; unfold coLeaveS kTurn; rw [hk]; rfl) hne
  · refine DoLaw.idle h (by unfold doS; rw [if_neg hn, if_neg x0, if_neg x1, if_neg x2]) ?_
    unfold doE; rw [if_neg hn, if_neg x0, if_neg x1, if_neg x2]; show (5 : Int) ≠ 2; omega
end
end Go.Proofs.YteijjhahgabalaaGreat

/- A cohort's invariant stands at first: plain lemmas. -/
namespace Go.Proofs.YteijjhahgabalaaGreat
open Go.RowKit
def coAv (P T : List Int) (gk lk par bud : Nat) (A : AR) (v : Nat) : AR := coArs lk par T (tE P) (fA0 (coK P T gk lk par bud A).G A) v
theorem count_take_lt {T : List Int} {t : Nat} (ht : t < T.length) : (T.take t).count (T[t]?.getD 0) < T.count (T[t]?.getD 0) := by
  have e : T = T.take t ++ T.drop t := (List.take_append_drop t T).symm
  have e2 : T.drop t = T[t] :: T.drop (t + 1) := List.drop_eq_getElem_cons ht
  have e3 : T[t]?.getD 0 = T[t] := by rw [List.getElem?_eq_getElem ht]; rfl
  have h1 : T.count T[t] = (T.take t).count T[t] + (T.drop t).count T[t] := by
    rw [← List.count_append, ← e]
  rw [e2, List.count_cons_self] at h1
  rw [e3]; omega
theorem count_take_mono {T : List Int} {x : Int} {t u : Nat} (h : t ≤ u) : (T.take t).count x ≤ (T.take u).count x := by
  have : T.take t = (T.take u).take t := by rw [List.take_take, Nat.min_eq_left h]
  rw [this]
  exact (List.take_sublist _ _).count_le _
theorem count_take_inj {T : List Int} {t u : Nat} (ht : t < T.length) (hu : u < T.length) (e : T[t]?.getD 0 = T[u]?.getD 0) (h : (T.take t).count (T[t]?.getD 0) = (T.take u).count (T[u]?.getD 0)) : t = u := by
  have key : ∀ {a b : Nat}, a < b → a < T.length → T[a]?.getD 0 = T[b]?.getD 0 → (T.take a).count (T[a]?.getD 0) < (T.take b).count (T[b]?.getD 0) := by
    intro a b hab ha e
    have h1 := count_take_lt (T := T.take b) (t := a) (by rw [List.length_take]; omega)
    have h2 : (T.take b)[a]?.getD 0 = T[a]?.getD 0 := by rw [List.getElem?_take, if_pos hab]
    rw [h2, List.take_take, Nat.min_eq_left (by omega)] at h1
    rw [← e]; exact h1
  rcases Nat.lt_trichotomy t u with q | q | q
  · have := key q ht e; omega
  · exact q
  · have := key q hu e.symm; omega
theorem idx_inj {E : List Int} {x y : Int} (hx : x ∈ E) (hy : y ∈ E) (h : E.idxOf x = E.idxOf y) : x = y := by
  have h1 := List.idxOf_lt_length_iff.2 hx
  have h2 := List.idxOf_lt_length_iff.2 hy
  have e1 := List.getElem_idxOf h1
  have e2 := List.getElem_idxOf h2
  rw [← e1, ← e2]; congr 1
section
variable {P T : List Int} {gk lk par bud : Nat} {A : AR}
theorem coAv_zero : coAv P T gk lk par bud A 0 = fA0 (coK P T gk lk par bud A).G A := rfl
theorem coAv_succ (v : Nat) : coAv P T gk lk par bud A (v + 1) = { fA0 ((coK P T gk lk par bud A).L v) (coAv P T gk lk par bud A v) with taken := (fA0 ((coK P T gk lk par bud A).L v) (coAv P T gk lk par bud A v)).taken + 1 } := rfl
theorem coL_b (v : Nat) : ((coK P T gk lk par bud A).L v).b = (coAv P T gk lk par bud A v).taken + 1 := rfl
theorem coCn (v : Nat) : (coK P T gk lk par bud A).cn v = (fA0 ((coK P T gk lk par bud A).L v) (coAv P T gk lk par bud A v)).taken + 1 := rfl
theorem CoArg.one (h : CoArg P T gk lk par bud A) {v : Nat} (hv : v < (tE P).length) :
    (Grew ((coK P T gk lk par bud A).L v) (coAv P T gk lk par bud A v) (fA0 ((coK P T gk lk par bud A).L v) (coAv P T gk lk par bud A v)) ∧ FI ((coK P T gk lk par bud A).L v) (fS0 ((coK P T gk lk par bud A).L v)) (fA0 ((coK P T gk lk par bud A).L v) (coAv P T gk lk par bud A v))) ∧ (coAv P T gk lk par bud A v).taken + ((coK P T gk lk par bud A).L v).size + 1 ≤ (coAv P T gk lk par bud A v).ws.length ∧ ArsOk A (coAv P T gk lk par bud A (v + 1)) (v + 1) :=
  h.step hv (h.ars v (Nat.le_of_lt hv))
theorem CoArg.nx (h : CoArg P T gk lk par bud A) {v : Nat} (hv : v < (tE P).length) :
    (coAv P T gk lk par bud A (v + 1)).taken = (coK P T gk lk par bud A).cn v ∧ (coK P T gk lk par bud A).cn v = ((coK P T gk lk par bud A).L v).b + ((coK P T gk lk par bud A).L v).size ∧
    (∀ i : Int, (coAv P T gk lk par bud A (v + 1)).get i = (fA0 ((coK P T gk lk par bud A).L v) (coAv P T gk lk par bud A v)).get i) ∧ (coAv P T gk lk par bud A v).ops ≤ (coAv P T gk lk par bud A (v + 1)).ops ∧ (fA0 ((coK P T gk lk par bud A).L v) (coAv P T gk lk par bud A v)).ops = (coAv P T gk lk par bud A (v + 1)).ops := by
  obtain ⟨⟨g, _⟩, hr, _⟩ := h.one hv
  have gt := g.taken; have gl := g.len; have go := g.ops
  refine ⟨by rw [coAv_succ, coCn], by rw [coCn, coL_b, gt]; omega, fun i => ?_, by rw [coAv_succ]; exact go.1, by rw [coAv_succ]⟩
  rw [coAv_succ]
  exact get_tk (m := 1) g.az (by omega) i
/-- what was taken early stays as it was -/
theorem CoArg.keeps (h : CoArg P T gk lk par bud A) (u : Nat) : ∀ d, u + d ≤ (tE P).length → (coAv P T gk lk par bud A u).taken ≤ (coAv P T gk lk par bud A (u + d)).taken ∧ (coAv P T gk lk par bud A u).ops ≤ (coAv P T gk lk par bud A (u + d)).ops ∧ ∀ i : Int, i ≤ (coAv P T gk lk par bud A u).taken → (coAv P T gk lk par bud A (u + d)).get i = (coAv P T gk lk par bud A u).get i
  | 0, _ => ⟨Nat.le_refl _, Int.le_refl _, fun _ _ => rfl⟩
  | d + 1, hd => by
    obtain ⟨a1, a2, a3⟩ := CoArg.keeps h u d (by omega)
    obtain ⟨b1, b2, b3, b4, b5⟩ := h.nx (v := u + d) (by omega)
    obtain ⟨⟨g, _⟩, hr, _⟩ := h.one (v := u + d) (by omega)
    have gt := g.taken
    have e := coL_b (P := P) (T := T) (gk := gk) (lk := lk) (par := par) (bud := bud) (A := A) (u + d)
    refine ⟨?_, by show _ ≤ (coAv P T gk lk par bud A (u + d + 1)).ops; omega, fun i hi => ?_⟩
    · show _ ≤ (coAv P T gk lk par bud A (u + d + 1)).taken
      rw [b1, b2, e]; omega
    · show (coAv P T gk lk par bud A (u + d + 1)).get i = _
      rw [b3, g.old i (by omega), a3 i hi]
theorem CoArg.keeps' (h : CoArg P T gk lk par bud A) {u v : Nat} (huv : u ≤ v) (hv : v ≤ (tE P).length) : (coAv P T gk lk par bud A u).taken ≤ (coAv P T gk lk par bud A v).taken ∧ (coAv P T gk lk par bud A u).ops ≤ (coAv P T gk lk par bud A v).ops ∧ ∀ i : Int, i ≤ (coAv P T gk lk par bud A u).taken → (coAv P T gk lk par bud A v).get i = (coAv P T gk lk par bud A u).get i := by
  have := h.keeps u (v - u) (by omega)
  rwa [show u + (v - u) = v by omega] at this
theorem CoArg.coL (h : CoArg P T gk lk par bud A) (h0 : A.taken = 0) : CoL (coK P T gk lk par bud A) (coAv P T gk lk par bud A (tE P).length).taken := by
  obtain ⟨⟨gg, _⟩, _⟩ := h.glob
  have hE : (coK P T gk lk par bud A).E = (tE P).length := rfl
  have hn : (coK P T gk lk par bud A).n = T.length := rfl
  have hb : (coK P T gk lk par bud A).G.b = A.taken + 1 := rfl
  have k0 := fun v (hv : v ≤ (tE P).length) => h.keeps' (Nat.zero_le v) hv
  have z0 : (coAv P T gk lk par bud A 0).taken = A.taken + (coK P T gk lk par bud A).G.size := gg.taken
  have hmem : ∀ t, t < T.length → T[t]?.getD 0 ∈ tE P := fun t ht => tE_mem h.ok (by rw [List.getElem?_eq_getElem ht]; exact List.getElem_mem ht)
  refine { gOk := h.gOk, gb := by rw [hb, h0], gn := rfl, gm := ?_, lOk := fun v hv => h.lOk v _, lay := fun v hv => ?_, apart := fun u v huv hv => ?_, nd := fun t ht => ?_, inj := fun t u ht hu e1 e2 => ?_, bud := ⟨Int.natCast_nonneg _, by have := h.b; show ((bud : Nat) : Int) ≤ 1000; omega⟩ }
  · have := (k0 _ (Nat.le_refl _)).1; omega
  · rw [hE] at hv
    obtain ⟨b1, b2, b3, b4, b5⟩ := h.nx hv
    have l1 := coL_b (P := P) (T := T) (gk := gk) (lk := lk) (par := par) (bud := bud) (A := A) v
    have k1 := (k0 v (Nat.le_of_lt hv)).1
    have k2 := (h.keeps' (u := v + 1) (v := (tE P).length) hv (Nat.le_refl _)).1
    refine ⟨by omega, by omega, by omega⟩
  · rw [hE] at hv
    obtain ⟨b1, b2, b3, b4, b5⟩ := h.nx (v := u) (by omega)
    have l1 := coL_b (P := P) (T := T) (gk := gk) (lk := lk) (par := par) (bud := bud) (A := A) v
    have k1 := (h.keeps' (u := u + 1) (v := v) huv (Nat.le_of_lt hv)).1
    omega
  · rw [hn] at ht
    have hm := hmem t ht
    have hi := List.idxOf_lt_length_iff.2 hm
    refine ⟨hi, ?_⟩
    show (T.take t).count (T[t]?.getD 0) < max 1 (T.count ((tE P)[(tE P).idxOf (T[t]?.getD 0)]?.getD 0))
    have e : (tE P)[(tE P).idxOf (T[t]?.getD 0)]?.getD 0 = T[t]?.getD 0 := by
      rw [List.getElem?_eq_getElem hi, Option.getD_some, List.getElem_idxOf]
    rw [e]
    have := count_take_lt ht
    omega
  · rw [hn] at ht hu
    exact count_take_inj ht hu (idx_inj (hmem t ht) (hmem u hu) e1) e2
theorem fS0_pc (K : FK) (j : Nat) : fS0 K j 0 = 0 := by
  unfold fS0; split
  · unfold hS0; rw [if_neg (by omega)]
  · rfl
theorem CoArg.first (h : CoArg P T gk lk par bud A) (h0 : A.taken = 0) : CI (coK P T gk lk par bud A) (firstS (coK P T gk lk par bud A) (coAv P T gk lk par bud A)) (fun _ => false) (fun _ => none) := by
  have L := h.coL h0
  obtain ⟨⟨gg, gf⟩, _⟩ := h.glob
  have z0 : (coAv P T gk lk par bud A 0).taken = A.taken + (coK P T gk lk par bud A).G.size := gg.taken
  have k0 := h.keeps' (Nat.zero_le (tE P).length) (Nat.le_refl _)
  have hA : (firstS (coK P T gk lk par bud A) (coAv P T gk lk par bud A)).A = coAv P T gk lk par bud A (tE P).length := rfl
  have hE : (coK P T gk lk par bud A).E = (tE P).length := rfl
  have hb : (coK P T gk lk par bud A).G.b = A.taken + 1 := rfl
  refine { fit := (h.ars _ (Nat.le_refl _)).fit, g := ?_, l := fun v hv => ?_, loc := fun t ht => .inl ⟨rfl, fS0_pc _ _⟩, own := fun t ht => ⟨fun q => absurd q (not_hold (.inl rfl)), fun q => (by cases q)⟩, ow := fun v t e => (by cases e), st := fun v hv => ?_ }
  · rw [hA]
    refine gf.frame h.gOk (fun i h1 h2 => ?_) ?_
    · exact k0.2.2 i (by omega)
    · exact k0.2.1
  · rw [hE] at hv
    rw [hA]
    obtain ⟨⟨g, f⟩, hr, _⟩ := h.one hv
    obtain ⟨b1, b2, b3, b4, b5⟩ := h.nx hv
    have k1 := h.keeps' (u := v + 1) (v := (tE P).length) hv (Nat.le_refl _)
    refine f.frame (h.lOk v _) (fun i h1 h2 => ?_) ?_
    · rw [k1.2.2 i (by omega), b3]
    · rw [b5]; exact k1.2.1
  · rw [hE] at hv
    obtain ⟨⟨g, f⟩, hr, _⟩ := h.one hv
    obtain ⟨b1, b2, b3, b4, b5⟩ := h.nx hv
    have k1 := h.keeps' (u := v + 1) (v := (tE P).length) hv (Nat.le_refl _)
    have l1 := coL_b (P := P) (T := T) (gk := gk) (lk := lk) (par := par) (bud := bud) (A := A) v
    have gt := g.taken
    show RestP ((firstS (coK P T gk lk par bud A) (coAv P T gk lk par bud A)).A.get ((coK P T gk lk par bud A).cn v : Nat)) (fS0 (coK P T gk lk par bud A).G v 0) false
    rw [hA, k1.2.2 _ (by omega), b3, get_out (by omega), fS0_pc]
    exact ⟨by omega, fun _ => rfl⟩
end
end Go.Proofs.YteijjhahgabalaaGreat

/- The top laws' own check of what must come, whatever the arguments are: it returns true. (Printed by gen_topawake.py.) -/
namespace Go.Proofs.YteijjhahgabalaaGreat
open Go.RowKit
def ofT (L : List (List Int)) : Nat → Nat → Int := fun i k => (L[i]?.getD [])[k]?.getD 0
/-- states that are alike where it counts -/
structure CSame (K : CK) (S S' : CS) : Prop where
  A : S.A = S'.A
  g : ∀ j, j < K.G.n → ∀ t, t < 4 → S.GS j t = S'.GS j t
  l : ∀ v, v < K.E → ∀ j, j < (K.L v).n → ∀ t, t < 4 → S.LS v j t = S'.LS v j t
  t : ∀ j, j < K.n → ∀ t, t < 4 → S.TS j t = S'.TS j t
theorem spC_ext {n : Nat} {S S' : Nat → Nat → Int} (h : ∀ j, j < n → ∀ t, t < 4 → S j t = S' j t) : spC n S = spC n S' := by
  unfold spC
  refine List.map_congr_left fun j hj => ?_
  have := List.mem_range.1 hj
  rw [h (j / 4) (by omega) (j % 4) (by omega)]
theorem FlAt.ext {w : World} {fb lb sb ab wb : Nat} {A : AR} {S S' : Nat → Nat → Int} {M : FK} (h : FlAt w fb lb sb ab wb A S M) (e : ∀ j, j < M.n → ∀ t, t < 4 → S j t = S' j t) : FlAt w fb lb sb ab wb A S' M := by
  have hs := spC_ext e
  cases h with
  | tas k hb h hA => exact .tas k hb { h with row := hs ▸ h.row } hA
  | ticket k hb h hA => exact .ticket k hb { h with row := hs ▸ h.row } hA
  | parted k hb h => exact .parted k hb { h with row := hs ▸ h.row }
  | mcs k hb h => exact .mcs k hb { h with row := hs ▸ h.row }
  | clh X k hb h => exact .clh X k hb { h with row := by rw [← hs]; exact h.row }
theorem CoAt.ext {w : World} {B : CB} {K : CK} {S S' : CS} (h : CoAt w B K S) (e : CSame K S S') : CoAt w B K S' := by
  have h1 := h.glo.ext e.g
  rw [e.A] at h1
  exact { box := h.box, tab := h.tab, glo := h1, nod := h.nod, loc := fun v hv => by have h2 := (h.loc v hv).ext (e.l v hv); rw [e.A] at h2; exact h2, row := by rw [← spC_ext e.t]; exact h.row, dif := h.dif, ok := h.ok }
theorem WoAt.ext {w : World} {wo tb lk : Nat} {B : CB} {K : CK} {S S' : CS} (h : WoAt w wo tb lk B K S) (e : CSame K S S') : WoAt w wo tb lk B K S' := ⟨h.box, h.lo.box, h.lo.co.ext e⟩
/-- a make by its values -/
def twL : CK := { P := [-1, 0, 0], T := [1, 1, 2, 2], G := ⟨2, 1, 1, 2⟩, L := fun v => if v = 0 then ⟨4, 1, 3, 2⟩ else ⟨4, 1, 9, 2⟩, cn := fun v => if v = 0 then 8 else 14, gk := 2, lk := 4, par := 1, bud := 1 }
abbrev twK : CK := coK [-1, 0, 0] [1, 1, 2, 2] 2 4 1 1 (AR.fresh 4096)
theorem CoAt.makes {w : World} {B : CB} {K K' : CK} {S : CS} (h : CoAt w B K S) (hP : K.P = K'.P) (hT : K.T = K'.T) (hG : K.G = K'.G) (h1 : K.gk = K'.gk) (h2 : K.lk = K'.lk) (h3 : K.par = K'.par) (h4 : K.bud = K'.bud) (hL : ∀ v, v < K.E → K.L v = K'.L v ∧ K.cn v = K'.cn v) : CoAt w B K' S := by
  obtain ⟨P, T, G, L, cn, gk, lk, par, bud⟩ := K
  obtain ⟨P', T', G', L', cn', gk', lk', par', bud'⟩ := K'
  simp only at hP hT hG h1 h2 h3 h4
  subst hP hT hG h1 h2 h3 h4
  obtain ⟨cells, hn, hc⟩ := h.nod
  exact { box := h.box, tab := h.tab, glo := h.glo, nod := ⟨cells, hn, fun v hv => by have h2 := (hL v hv).2; have h3 := hc v hv; rw [h2] at h3; exact h3⟩, loc := fun v hv => by have h2 := (hL v hv).1; have h3 := h.loc v hv; rw [h2] at h3; exact h3, row := h.row, dif := h.dif, ok := h.ok }
def twR (ws : List Int) (ops k at_ : Int) (wr : Bool) (g l0 l1 t : List (List Int)) : CS := ⟨⟨ws ++ List.replicate 4082 0, 14, ops, k, at_, wr⟩, ofT g, fun v => if v = 0 then ofT l0 else ofT l1, ofT t⟩
def twS : Nat → CS
  | 0 => twR [0, 0, 0, 0, 0, 0, 0, 0, 0, 0, 0, 0, 0, 0] 0 0 0 false [[0, 0, 0, 0], [0, 0, 0, 0]] [[0, 0, 0, 0], [0, 0, 0, 0]] [[0, 0, 0, 0], [0, 0, 0, 0]] [[0, 0, 0, 0], [0, 0, 0, 0], [0, 0, 0, 0], [0, 0, 0, 0]]
  | 1 => twR [0, 0, 0, 0, 0, 0, 0, 0, 0, 0, 0, 0, 0, 0] 0 0 0 false [[0, 0, 0, 0], [0, 0, 0, 0]] [[1, 0, 0, 0], [0, 0, 0, 0]] [[0, 0, 0, 0], [0, 0, 0, 0]] [[1, 0, 0, 0], [0, 0, 0, 0], [0, 0, 0, 0], [0, 0, 0, 0]]
  | 2 => twR [0, 0, 0, 0, 0, 0, 0, 0, 0, 0, 0, 0, 0, 0] 1 2 4 true [[0, 0, 0, 0], [0, 0, 0, 0]] [[2, 0, 0, 0], [0, 0, 0, 0]] [[0, 0, 0, 0], [0, 0, 0, 0]] [[1, 0, 0, 0], [0, 0, 0, 0], [0, 0, 0, 0], [0, 0, 0, 0]]
  | 3 => twR [0, 0, 0, 0, 1, 0, 0, 0, 0, 0, 0, 0, 0, 0] 2 2 5 true [[0, 0, 0, 0], [0, 0, 0, 0]] [[3, 0, 0, 0], [0, 0, 0, 0]] [[0, 0, 0, 0], [0, 0, 0, 0]] [[1, 0, 0, 0], [0, 0, 0, 0], [0, 0, 0, 0], [0, 0, 0, 0]]
  | 4 => twR [0, 0, 1, 0, 1, 0, 0, 0, 0, 0, 0, 0, 0, 0] 3 3 3 true [[0, 0, 0, 0], [0, 0, 0, 0]] [[10, 0, 0, 0], [0, 0, 0, 0]] [[0, 0, 0, 0], [0, 0, 0, 0]] [[2, 0, 0, 0], [0, 0, 0, 0], [0, 0, 0, 0], [0, 0, 0, 0]]
  | 5 => twR [0, 0, 1, 0, 1, 0, 0, 0, 0, 0, 0, 0, 0, 0] 4 1 8 false [[1, 0, 0, 0], [0, 0, 0, 0]] [[10, 0, 0, 0], [0, 0, 0, 0]] [[0, 0, 0, 0], [0, 0, 0, 0]] [[3, 0, 0, 0], [0, 0, 0, 0], [0, 0, 0, 0], [0, 0, 0, 0]]
  | 6 => twR [1, 0, 1, 0, 1, 0, 0, 0, 0, 0, 0, 0, 0, 0] 5 5 1 true [[2, 0, 0, 0], [0, 0, 0, 0]] [[10, 0, 0, 0], [0, 0, 0, 0]] [[0, 0, 0, 0], [0, 0, 0, 0]] [[3, 0, 0, 0], [0, 0, 0, 0], [0, 0, 0, 0], [0, 0, 0, 0]]
  | 7 => twR [1, 0, 1, 0, 1, 0, 0, 0, 0, 0, 0, 0, 0, 0] 6 1 2 false [[10, 0, 0, 0], [0, 0, 0, 0]] [[10, 0, 0, 0], [0, 0, 0, 0]] [[0, 0, 0, 0], [0, 0, 0, 0]] [[4, 0, 0, 0], [0, 0, 0, 0], [0, 0, 0, 0], [0, 0, 0, 0]]
  | 8 => twR [1, 0, 1, 0, 1, 0, 0, 1, 0, 0, 0, 0, 0, 0] 7 2 8 true [[10, 0, 0, 0], [0, 0, 0, 0]] [[10, 0, 0, 0], [0, 0, 0, 0]] [[0, 0, 0, 0], [0, 0, 0, 0]] [[10, 1, 0, 0], [0, 0, 0, 0], [0, 0, 0, 0], [0, 0, 0, 0]]
  | 9 => twR [1, 0, 1, 0, 1, 0, 0, 1, 0, 0, 0, 0, 0, 0] 7 2 8 true [[10, 0, 0, 0], [0, 0, 0, 0]] [[10, 0, 0, 0], [0, 0, 0, 0]] [[0, 0, 0, 0], [0, 0, 0, 0]] [[11, 1, 0, 0], [0, 0, 0, 0], [0, 0, 0, 0], [0, 0, 0, 0]]
  | 10 => twR [1, 0, 1, 0, 1, 0, 0, 1, 0, 0, 0, 0, 0, 0] 7 2 8 true [[10, 0, 0, 0], [0, 0, 0, 0]] [[10, 0, 0, 0], [0, 0, 0, 0]] [[0, 0, 0, 0], [1, 0, 0, 0]] [[11, 1, 0, 0], [0, 0, 0, 0], [0, 0, 0, 0], [1, 0, 0, 0]]
  | 11 => twR [1, 0, 1, 0, 1, 0, 0, 1, 0, 0, 0, 0, 0, 0] 8 1 8 false [[10, 0, 0, 0], [0, 0, 0, 0]] [[10, 0, 0, 0], [0, 0, 0, 0]] [[0, 0, 0, 0], [1, 0, 0, 0]] [[12, 1, 0, 0], [0, 0, 0, 0], [0, 0, 0, 0], [1, 0, 0, 0]]
  | 12 => twR [1, 0, 1, 0, 1, 0, 0, 1, 0, 0, 0, 0, 0, 0] 9 1 4 false [[10, 0, 0, 0], [0, 0, 0, 0]] [[10, 0, 0, 0], [0, 0, 0, 0]] [[0, 0, 0, 0], [1, 0, 0, 0]] [[14, 1, 0, 0], [0, 0, 0, 0], [0, 0, 0, 0], [1, 0, 0, 0]]
  | 13 => twR [1, 0, 1, 0, 1, 0, 0, 0, 0, 0, 0, 0, 0, 0] 10 2 8 true [[11, 0, 0, 0], [0, 0, 0, 0]] [[10, 0, 0, 0], [0, 0, 0, 0]] [[0, 0, 0, 0], [1, 0, 0, 0]] [[15, 1, 0, 0], [0, 0, 0, 0], [0, 0, 0, 0], [1, 0, 0, 0]]
  | 14 => twR [1, 1, 1, 0, 1, 0, 0, 0, 0, 0, 0, 0, 0, 0] 11 2 2 true [[0, 0, 0, 0], [0, 0, 0, 0]] [[11, 0, 0, 0], [0, 0, 0, 0]] [[0, 0, 0, 0], [1, 0, 0, 0]] [[16, 1, 0, 0], [0, 0, 0, 0], [0, 0, 0, 0], [1, 0, 0, 0]]
  | 15 => twR [1, 1, 1, 0, 1, 0, 0, 0, 0, 0, 0, 0, 0, 0] 12 1 4 false [[0, 0, 0, 0], [0, 0, 0, 0]] [[12, 0, 0, 0], [0, 0, 0, 0]] [[0, 0, 0, 0], [1, 0, 0, 0]] [[16, 1, 0, 0], [0, 0, 0, 0], [0, 0, 0, 0], [1, 0, 0, 0]]
  | 16 => twR [1, 1, 0, 0, 1, 0, 0, 0, 0, 0, 0, 0, 0, 0] 13 4 3 true [[0, 0, 0, 0], [0, 0, 0, 0]] [[0, 0, 0, 0], [0, 0, 0, 0]] [[0, 0, 0, 0], [1, 0, 0, 0]] [[0, 1, 0, 0], [0, 0, 0, 0], [0, 0, 0, 0], [1, 0, 0, 0]]
  | 17 => twR [1, 1, 0, 0, 1, 0, 0, 0, 0, 0, 0, 0, 0, 0] 14 2 12 true [[0, 0, 0, 0], [0, 0, 0, 0]] [[0, 0, 0, 0], [0, 0, 0, 0]] [[0, 0, 0, 0], [2, 0, 0, 0]] [[0, 1, 0, 0], [0, 0, 0, 0], [0, 0, 0, 0], [1, 0, 0, 0]]
  | 18 => twR [1, 1, 0, 0, 1, 0, 0, 0, 0, 0, 0, 0, 1, 0] 15 2 13 true [[0, 0, 0, 0], [0, 0, 0, 0]] [[0, 0, 0, 0], [0, 0, 0, 0]] [[0, 0, 0, 0], [3, 0, 0, 0]] [[0, 1, 0, 0], [0, 0, 0, 0], [0, 0, 0, 0], [1, 0, 0, 0]]
  | 19 => twR [1, 1, 0, 0, 1, 0, 0, 0, 2, 0, 0, 0, 1, 0] 16 3 9 true [[0, 0, 0, 0], [0, 0, 0, 0]] [[0, 0, 0, 0], [0, 0, 0, 0]] [[0, 0, 0, 0], [10, 0, 0, 0]] [[0, 1, 0, 0], [0, 0, 0, 0], [0, 0, 0, 0], [2, 0, 0, 0]]
  | 20 => twR [1, 1, 0, 0, 1, 0, 0, 0, 2, 0, 0, 0, 1, 0] 17 1 14 false [[0, 0, 0, 0], [1, 0, 0, 0]] [[0, 0, 0, 0], [0, 0, 0, 0]] [[0, 0, 0, 0], [10, 0, 0, 0]] [[0, 1, 0, 0], [0, 0, 0, 0], [0, 0, 0, 0], [3, 0, 0, 0]]
  | 21 => twR [2, 1, 0, 0, 1, 0, 0, 0, 2, 0, 0, 0, 1, 0] 18 5 1 true [[0, 0, 0, 0], [2, 1, 0, 0]] [[0, 0, 0, 0], [0, 0, 0, 0]] [[0, 0, 0, 0], [10, 0, 0, 0]] [[0, 1, 0, 0], [0, 0, 0, 0], [0, 0, 0, 0], [3, 0, 0, 0]]
  | 22 => twR [2, 1, 0, 0, 1, 0, 0, 0, 2, 0, 0, 0, 1, 0] 19 1 2 false [[0, 0, 0, 0], [10, 1, 0, 0]] [[0, 0, 0, 0], [0, 0, 0, 0]] [[0, 0, 0, 0], [10, 0, 0, 0]] [[0, 1, 0, 0], [0, 0, 0, 0], [0, 0, 0, 0], [4, 0, 0, 0]]
  | _ => twR [2, 1, 0, 0, 1, 0, 0, 0, 2, 0, 0, 0, 1, 1] 20 2 14 true [[0, 0, 0, 0], [10, 1, 0, 0]] [[0, 0, 0, 0], [0, 0, 0, 0]] [[0, 0, 0, 0], [10, 0, 0, 0]] [[0, 1, 0, 0], [0, 0, 0, 0], [0, 0, 0, 0], [10, 1, 0, 0]]
def pkL : List (Int × Int) := [(0, 1), (0, 0), (0, 0), (0, 0), (0, 0), (0, 0), (0, 0), (0, 0), (0, 2), (3, 1), (0, 0), (0, 0), (0, 0), (0, 0), (0, 0), (0, 0), (3, 0), (3, 0), (3, 0), (3, 0), (3, 0), (3, 0), (3, 0)]
def pkF (k : Nat) : Int × Int := pkL[k]?.getD (0, 0)
def evL : List (Int × Int × Int) := [(1, 0, 0), (0, 0, 0), (0, 0, 0), (0, 0, 0), (0, 0, 0), (0, 0, 0), (0, 0, 0), (2, 0, 1), (3, 0, 0), (1, 3, 0), (0, 0, 0), (0, 0, 0), (0, 0, 0), (0, 0, 0), (0, 0, 0), (4, 0, 0), (0, 3, 0), (0, 3, 0), (0, 3, 0), (0, 3, 0), (0, 3, 0), (0, 3, 0), (2, 3, 1)]
def evF (k : Nat) : Int × Int × Int := evL[k]?.getD (0, 0, 0)
def atL : List Nat := [0, 1, 1, 1, 1, 1, 1, 1, 2, 3, 4, 4, 4, 4, 4, 4, 5, 5, 5, 5, 5, 5, 5, 6]
def atF (k : Nat) : Nat := atL[k]?.getD 0
def waL : List Int := [1, 2, 3, 1, 4, 2]
theorem tw_step0 : CSame twL (doS twL (twS 0) (pkF 0).1 (pkF 0).2) (twS 1) := ⟨by kernel_rfl, by decide +kernel, by decide +kernel, by decide +kernel⟩
theorem tw_ev0 : doE twL (twS 0) (pkF 0).1 (pkF 0).2 = evF 0 := by decide +kernel
theorem tw_pc0 : CoPc twL (twS 0) := ⟨by decide +kernel, by unfold CPc; decide +kernel, by unfold CPc; decide +kernel⟩
theorem tw_step1 : CSame twL (doS twL (twS 1) (pkF 1).1 (pkF 1).2) (twS 2) := ⟨by kernel_rfl, by decide +kernel, by decide +kernel, by decide +kernel⟩
theorem tw_ev1 : doE twL (twS 1) (pkF 1).1 (pkF 1).2 = evF 1 := by decide +kernel
theorem tw_pc1 : CoPc twL (twS 1) := ⟨by decide +kernel, by unfold CPc; decide +kernel, by unfold CPc; decide +kernel⟩
theorem tw_step2 : CSame twL (doS twL (twS 2) (pkF 2).1 (pkF 2).2) (twS 3) := ⟨by kernel_rfl, by decide +kernel, by decide +kernel, by decide +kernel⟩
theorem tw_ev2 : doE twL (twS 2) (pkF 2).1 (pkF 2).2 = evF 2 := by decide +kernel
theorem tw_pc2 : CoPc twL (twS 2) := ⟨by decide +kernel, by unfold CPc; decide +kernel, by unfold CPc; decide +kernel⟩
theorem tw_step3 : CSame twL (doS twL (twS 3) (pkF 3).1 (pkF 3).2) (twS 4) := ⟨by kernel_rfl, by decide +kernel, by decide +kernel, by decide +kernel⟩
theorem tw_ev3 : doE twL (twS 3) (pkF 3).1 (pkF 3).2 = evF 3 := by decide +kernel
theorem tw_pc3 : CoPc twL (twS 3) := ⟨by decide +kernel, by unfold CPc; decide +kernel, by unfold CPc; decide +kernel⟩
theorem tw_step4 : CSame twL (doS twL (twS 4) (pkF 4).1 (pkF 4).2) (twS 5) := ⟨by kernel_rfl, by decide +kernel, by decide +kernel, by decide +kernel⟩
theorem tw_ev4 : doE twL (twS 4) (pkF 4).1 (pkF 4).2 = evF 4 := by decide +kernel
theorem tw_pc4 : CoPc twL (twS 4) := ⟨by decide +kernel, by unfold CPc; decide +kernel, by unfold CPc; decide +kernel⟩
theorem tw_step5 : CSame twL (doS twL (twS 5) (pkF 5).1 (pkF 5).2) (twS 6) := ⟨by kernel_rfl, by decide +kernel, by decide +kernel, by decide +kernel⟩
theorem tw_ev5 : doE twL (twS 5) (pkF 5).1 (pkF 5).2 = evF 5 := by decide +kernel
theorem tw_pc5 : CoPc twL (twS 5) := ⟨by decide +kernel, by unfold CPc; decide +kernel, by unfold CPc; decide +kernel⟩
theorem tw_step6 : CSame twL (doS twL (twS 6) (pkF 6).1 (pkF 6).2) (twS 7) := ⟨by kernel_rfl, by decide +kernel, by decide +kernel, by decide +kernel⟩
theorem tw_ev6 : doE twL (twS 6) (pkF 6).1 (pkF 6).2 = evF 6 := by decide +kernel
theorem tw_pc6 : CoPc twL (twS 6) := ⟨by decide +kernel, by unfold CPc; decide +kernel, by unfold CPc; decide +kernel⟩
theorem tw_step7 : CSame twL (doS twL (twS 7) (pkF 7).1 (pkF 7).2) (twS 8) := ⟨by kernel_rfl, by decide +kernel, by decide +kernel, by decide +kernel⟩
theorem tw_ev7 : doE twL (twS 7) (pkF 7).1 (pkF 7).2 = evF 7 := by decide +kernel
theorem tw_pc7 : CoPc twL (twS 7) := ⟨by decide +kernel, by unfold CPc; decide +kernel, by unfold CPc; decide +kernel⟩
theorem tw_step8 : CSame twL (doS twL (twS 8) (pkF 8).1 (pkF 8).2) (twS 9) := ⟨by kernel_rfl, by decide +kernel, by decide +kernel, by decide +kernel⟩
theorem tw_ev8 : doE twL (twS 8) (pkF 8).1 (pkF 8).2 = evF 8 := by decide +kernel
theorem tw_pc8 : CoPc twL (twS 8) := ⟨by decide +kernel, by unfold CPc; decide +kernel, by unfold CPc; decide +kernel⟩
theorem tw_step9 : CSame twL (doS twL (twS 9) (pkF 9).1 (pkF 9).2) (twS 10) := ⟨by kernel_rfl, by decide +kernel, by decide +kernel, by decide +kernel⟩
theorem tw_ev9 : doE twL (twS 9) (pkF 9).1 (pkF 9).2 = evF 9 := by decide +kernel
theorem tw_pc9 : CoPc twL (twS 9) := ⟨by decide +kernel, by unfold CPc; decide +kernel, by unfold CPc; decide +kernel⟩
theorem tw_step10 : CSame twL (doS twL (twS 10) (pkF 10).1 (pkF 10).2) (twS 11) := ⟨by kernel_rfl, by decide +kernel, by decide +kernel, by decide +kernel⟩
theorem tw_ev10 : doE twL (twS 10) (pkF 10).1 (pkF 10).2 = evF 10 := by decide +kernel
theorem tw_pc10 : CoPc twL (twS 10) := ⟨by decide +kernel, by unfold CPc; decide +kernel, by unfold CPc; decide +kernel⟩
theorem tw_step11 : CSame twL (doS twL (twS 11) (pkF 11).1 (pkF 11).2) (twS 12) := ⟨by kernel_rfl, by decide +kernel, by decide +kernel, by decide +kernel⟩
theorem tw_ev11 : doE twL (twS 11) (pkF 11).1 (pkF 11).2 = evF 11 := by decide +kernel
theorem tw_pc11 : CoPc twL (twS 11) := ⟨by decide +kernel, by unfold CPc; decide +kernel, by unfold CPc; decide +kernel⟩
theorem tw_step12 : CSame twL (doS twL (twS 12) (pkF 12).1 (pkF 12).2) (twS 13) := ⟨by kernel_rfl, by decide +kernel, by decide +kernel, by decide +kernel⟩
theorem tw_ev12 : doE twL (twS 12) (pkF 12).1 (pkF 12).2 = evF 12 := by decide +kernel
theorem tw_pc12 : CoPc twL (twS 12) := ⟨by decide +kernel, by unfold CPc; decide +kernel, by unfold CPc; decide +kernel⟩
theorem tw_step13 : CSame twL (doS twL (twS 13) (pkF 13).1 (pkF 13).2) (twS 14) := ⟨by kernel_rfl, by decide +kernel, by decide +kernel, by decide +kernel⟩
theorem tw_ev13 : doE twL (twS 13) (pkF 13).1 (pkF 13).2 = evF 13 := by decide +kernel
theorem tw_pc13 : CoPc twL (twS 13) := ⟨by decide +kernel, by unfold CPc; decide +kernel, by unfold CPc; decide +kernel⟩
theorem tw_step14 : CSame twL (doS twL (twS 14) (pkF 14).1 (pkF 14).2) (twS 15) := ⟨by kernel_rfl, by decide +kernel, by decide +kernel, by decide +kernel⟩
theorem tw_ev14 : doE twL (twS 14) (pkF 14).1 (pkF 14).2 = evF 14 := by decide +kernel
theorem tw_pc14 : CoPc twL (twS 14) := ⟨by decide +kernel, by unfold CPc; decide +kernel, by unfold CPc; decide +kernel⟩
theorem tw_step15 : CSame twL (doS twL (twS 15) (pkF 15).1 (pkF 15).2) (twS 16) := ⟨by kernel_rfl, by decide +kernel, by decide +kernel, by decide +kernel⟩
theorem tw_ev15 : doE twL (twS 15) (pkF 15).1 (pkF 15).2 = evF 15 := by decide +kernel
theorem tw_pc15 : CoPc twL (twS 15) := ⟨by decide +kernel, by unfold CPc; decide +kernel, by unfold CPc; decide +kernel⟩
theorem tw_step16 : CSame twL (doS twL (twS 16) (pkF 16).1 (pkF 16).2) (twS 17) := ⟨by kernel_rfl, by decide +kernel, by decide +kernel, by decide +kernel⟩
theorem tw_ev16 : doE twL (twS 16) (pkF 16).1 (pkF 16).2 = evF 16 := by decide +kernel
theorem tw_pc16 : CoPc twL (twS 16) := ⟨by decide +kernel, by unfold CPc; decide +kernel, by unfold CPc; decide +kernel⟩
theorem tw_step17 : CSame twL (doS twL (twS 17) (pkF 17).1 (pkF 17).2) (twS 18) := ⟨by kernel_rfl, by decide +kernel, by decide +kernel, by decide +kernel⟩
theorem tw_ev17 : doE twL (twS 17) (pkF 17).1 (pkF 17).2 = evF 17 := by decide +kernel
theorem tw_pc17 : CoPc twL (twS 17) := ⟨by decide +kernel, by unfold CPc; decide +kernel, by unfold CPc; decide +kernel⟩
theorem tw_step18 : CSame twL (doS twL (twS 18) (pkF 18).1 (pkF 18).2) (twS 19) := ⟨by kernel_rfl, by decide +kernel, by decide +kernel, by decide +kernel⟩
theorem tw_ev18 : doE twL (twS 18) (pkF 18).1 (pkF 18).2 = evF 18 := by decide +kernel
theorem tw_pc18 : CoPc twL (twS 18) := ⟨by decide +kernel, by unfold CPc; decide +kernel, by unfold CPc; decide +kernel⟩
theorem tw_step19 : CSame twL (doS twL (twS 19) (pkF 19).1 (pkF 19).2) (twS 20) := ⟨by kernel_rfl, by decide +kernel, by decide +kernel, by decide +kernel⟩
theorem tw_ev19 : doE twL (twS 19) (pkF 19).1 (pkF 19).2 = evF 19 := by decide +kernel
theorem tw_pc19 : CoPc twL (twS 19) := ⟨by decide +kernel, by unfold CPc; decide +kernel, by unfold CPc; decide +kernel⟩
theorem tw_step20 : CSame twL (doS twL (twS 20) (pkF 20).1 (pkF 20).2) (twS 21) := ⟨by kernel_rfl, by decide +kernel, by decide +kernel, by decide +kernel⟩
theorem tw_ev20 : doE twL (twS 20) (pkF 20).1 (pkF 20).2 = evF 20 := by decide +kernel
theorem tw_pc20 : CoPc twL (twS 20) := ⟨by decide +kernel, by unfold CPc; decide +kernel, by unfold CPc; decide +kernel⟩
theorem tw_step21 : CSame twL (doS twL (twS 21) (pkF 21).1 (pkF 21).2) (twS 22) := ⟨by kernel_rfl, by decide +kernel, by decide +kernel, by decide +kernel⟩
theorem tw_ev21 : doE twL (twS 21) (pkF 21).1 (pkF 21).2 = evF 21 := by decide +kernel
theorem tw_pc21 : CoPc twL (twS 21) := ⟨by decide +kernel, by unfold CPc; decide +kernel, by unfold CPc; decide +kernel⟩
theorem tw_step22 : CSame twL (doS twL (twS 22) (pkF 22).1 (pkF 22).2) (twS 23) := ⟨by kernel_rfl, by decide +kernel, by decide +kernel, by decide +kernel⟩
theorem tw_ev22 : doE twL (twS 22) (pkF 22).1 (pkF 22).2 = evF 22 := by decide +kernel
theorem tw_pc22 : CoPc twL (twS 22) := ⟨by decide +kernel, by unfold CPc; decide +kernel, by unfold CPc; decide +kernel⟩
theorem tw_all : ∀ k, k < 23 → CSame twL (doS twL (twS k) (pkF k).1 (pkF k).2) (twS (k + 1)) ∧ doE twL (twS k) (pkF k).1 (pkF k).2 = evF k ∧ CoPc twL (twS k)
  | 0, _ => ⟨tw_step0, tw_ev0, tw_pc0⟩
  | 1, _ => ⟨tw_step1, tw_ev1, tw_pc1⟩
  | 2, _ => ⟨tw_step2, tw_ev2, tw_pc2⟩
  | 3, _ => ⟨tw_step3, tw_ev3, tw_pc3⟩
  | 4, _ => ⟨tw_step4, tw_ev4, tw_pc4⟩
  | 5, _ => ⟨tw_step5, tw_ev5, tw_pc5⟩
  | 6, _ => ⟨tw_step6, tw_ev6, tw_pc6⟩
  | 7, _ => ⟨tw_step7, tw_ev7, tw_pc7⟩
  | 8, _ => ⟨tw_step8, tw_ev8, tw_pc8⟩
  | 9, _ => ⟨tw_step9, tw_ev9, tw_pc9⟩
  | 10, _ => ⟨tw_step10, tw_ev10, tw_pc10⟩
  | 11, _ => ⟨tw_step11, tw_ev11, tw_pc11⟩
  | 12, _ => ⟨tw_step12, tw_ev12, tw_pc12⟩
  | 13, _ => ⟨tw_step13, tw_ev13, tw_pc13⟩
  | 14, _ => ⟨tw_step14, tw_ev14, tw_pc14⟩
  | 15, _ => ⟨tw_step15, tw_ev15, tw_pc15⟩
  | 16, _ => ⟨tw_step16, tw_ev16, tw_pc16⟩
  | 17, _ => ⟨tw_step17, tw_ev17, tw_pc17⟩
  | 18, _ => ⟨tw_step18, tw_ev18, tw_pc18⟩
  | 19, _ => ⟨tw_step19, tw_ev19, tw_pc19⟩
  | 20, _ => ⟨tw_step20, tw_ev20, tw_pc20⟩
  | 21, _ => ⟨tw_step21, tw_ev21, tw_pc21⟩
  | 22, _ => ⟨tw_step22, tw_ev22, tw_pc22⟩
  | _ + 23, h => by omega
theorem tw_at : ∀ k, k < 23 → ((evF k).1 = 0 ∧ atF (k + 1) = atF k) ∨ ((evF k).1 ≠ 0 ∧ atF k < 6 ∧ waL[atF k]? = some (evF k).1 ∧ atF (k + 1) = atF k + 1) := by decide +kernel
theorem tw_le : ∀ k, k < 24 → atF k ≤ 6 := by decide +kernel
def pkC : List Value := (List.range 46).map fun j => if j % 2 = 0 then .int .i64 (pkF (j / 2)).1 else .int .i64 (pkF (j / 2)).2
theorem pkC_get {k : Nat} (hk : k < 23) : pkC[k * 2]? = some (.int .i64 (pkF k).1) ∧ pkC[k * 2 + 1]? = some (.int .i64 (pkF k).2) := by
  unfold pkC
  rw [List.getElem?_map, List.getElem?_range (by omega), List.getElem?_map, List.getElem?_range (by omega)]
  have e1 : k * 2 % 2 = 0 := by omega
  have e2 : (k * 2 + 1) % 2 ≠ 0 := by omega
  have e3 : k * 2 / 2 = k := by omega
  have e4 : (k * 2 + 1) / 2 = k := by omega
  rw [Option.map_some, Option.map_some, if_pos e1, if_neg e2, e3, e4]
  exact ⟨rfl, rfl⟩
theorem tok_two : TOk [-1, 0, 0] [1, 1, 2, 2] := by
  refine ⟨⟨by decide, by decide, by decide, by decide⟩, ⟨by decide, ?_⟩, ?_, by decide⟩
  · intro v h1 h2
    have h2' : v < 3 := h2
    rcases (by omega : v = 1 ∨ v = 2) with rfl | rfl <;> decide
  · intro v u h1 h2
    have h1' : v < 3 := h1
    have h2' : u < 3 := h2
    rcases (by omega : v = 0 ∨ v = 1 ∨ v = 2) with rfl | rfl | rfl <;> rcases (by omega : u = 0 ∨ u = 1 ∨ u = 2) with rfl | rfl | rfl <;> decide
theorem carg_fresh {P T : List Int} {gk lk par bud : Nat} (ok : TOk P T) (g : 1 ≤ gk ∧ gk ≤ 5) (l : 1 ≤ lk ∧ lk ≤ 5) (p : 1 ≤ par ∧ par ≤ 32) (b : bud ≤ 1000) : CoArg P T gk lk par bud (AR.fresh 4096) := by
  have hl : (AR.fresh 4096).ws.length = 4096 := List.length_replicate
  have hle := tE_le P
  have hs := ok.size
  exact { ok := ok, g1 := g.1, g5 := g.2, l1 := l.1, l5 := l.2, p1 := p.1, p32 := p.2, b := b, az := by
            intro k _
            show (List.replicate 4096 (0 : Int))[k]?.getD 0 = 0
            rw [List.getElem?_replicate]; split <;> rfl, fit := ⟨by rw [hl]; show 0 ≤ 4096; omega, by rw [hl]; omega, by show (0 : Int) ≤ 0; omega, by show (0 : Int) ≤ _; omega⟩, ops := by show (0 : Int) ≤ _; omega, room := by rw [hl]; show 0 + 65 + _ ≤ 4096; have := hs.2.1; omega }
theorem tw_first : CSame twL (firstS twK (coAv [-1, 0, 0] [1, 1, 2, 2] 2 4 1 1 (AR.fresh 4096))) (twS 0) := ⟨by kernel_rfl, by decide +kernel, by decide +kernel, by decide +kernel⟩
theorem tw_makes : ∀ v, v < twK.E → twK.L v = twL.L v ∧ twK.cn v = twL.cn v := by
  intro v hv
  have hv' : v < 2 := hv
  rcases (by omega : v = 0 ∨ v = 1) with rfl | rfl
  · exact ⟨by kernel_rfl, by kernel_rfl⟩
  · exact ⟨by kernel_rfl, by kernel_rfl⟩
theorem pkC_lit : pkC.toArray = #[.int .i64 0, .int .i64 1, .int .i64 0, .int .i64 0, .int .i64 0, .int .i64 0, .int .i64 0, .int .i64 0, .int .i64 0, .int .i64 0, .int .i64 0, .int .i64 0, .int .i64 0, .int .i64 0, .int .i64 0, .int .i64 0, .int .i64 0, .int .i64 2, .int .i64 3, .int .i64 1, .int .i64 0, .int .i64 0, .int .i64 0, .int .i64 0, .int .i64 0, .int .i64 0, .int .i64 0, .int .i64 0, .int .i64 0, .int .i64 0, .int .i64 0, .int .i64 0, .int .i64 3, .int .i64 0, .int .i64 3, .int .i64 0, .int .i64 3, .int .i64 0, .int .i64 3, .int .i64 0, .int .i64 3, .int .i64 0, .int .i64 3, .int .i64 0, .int .i64 3, .int .i64 0] := by kernel_rfl
set_option maxRecDepth 100000 in
set_option maxHeartbeats 4000000 in
theorem awake_ok (w : World) : Calls Tryz.prog 8 #[] w fun e w' => e = .returned (.bool true) ∧ Frm [] w w' := by
  have hch := (carg_fresh (gk := 2) (lk := 4) (par := 1) (bud := 1) tok_two (by omega) (by omega) (by omega) (by omega)).sch
  have HN := Lib.hid (fun (W : World) (v u : Value) (hx : RowAt W 0 v [-1, 0, 0]) (hy : RowAt W 0 u [1, 1, 2, 2]) => woNew_ok (K := twK) hx hy hch)
  clear hch
  go_enter Tryz.func8, Tryz.ntmps8
  go_wp2_with fail
  refine (two_ok _).mono ?_
  rintro e w1 ⟨v, u, rfl, hx, hy, hF1⟩
  have HNW := Lib.hid (HN.out w1 v u hx hy)
  have HF1 := Lib.hid hF1
  clear hx hy hF1 HN
  go_wp2_with fail
  refine HNW.out.mono ?_
  rintro e w2 ⟨wo, tb, lk, B, rfl, hW, hz, hF2⟩
  have hs1 := HF1.out.size
  have hW2 : WoAt w2 wo tb lk B twL (twS 0) := by
    have h1 : WoAt w2 wo tb lk B twL (firstS twK (coAv [-1, 0, 0] [1, 1, 2, 2] 2 4 1 1 (AR.fresh 4096))) := ⟨hW.box, hW.lo.box, hW.lo.co.makes rfl rfl rfl rfl rfl rfl rfl tw_makes⟩
    exact h1.ext tw_first
  have HW2 := Lib.hid hW2
  have HZ := Lib.hid (fun z (h : z ∈ CZ B twL) => Nat.le_trans hs1 (hz z h))
  have HF2 := Lib.hid (HF1.out.trans hF2)
  clear hW hz hF2 hW2 HNW
  go_wp2_with fail
  have hG := (HAt.new w2 #[.int .i64 1, .int .i64 2, .int .i64 3, .int .i64 1, .int .i64 4, .int .i64 2] 68).alloc (.cells pkC.toArray 38)
  have hPk := HAt.new (w2.alloc (.cells #[.int .i64 1, .int .i64 2, .int .i64 3, .int .i64 1, .int .i64 4, .int .i64 2] 68)) pkC.toArray 38
  rw [World.size_alloc] at hPk
  have hF3 := ((Frm.refl [] w2).alloc (.cells #[.int .i64 1, .int .i64 2, .int .i64 3, .int .i64 1, .int .i64 4, .int .i64 2] 68)).alloc (.cells pkC.toArray 38)
  have HG := Lib.hid hG
  have HPK := Lib.hid hPk
  have HW3 := Lib.hid (HW2.out.same hF3)
  have HF3 := Lib.hid (HF2.out.trans hF3)
  have hs2 : w2.heap.size + 1 < ((w2.alloc (.cells #[.int .i64 1, .int .i64 2, .int .i64 3, .int .i64 1, .int .i64 4, .int .i64 2] 68)).alloc (.cells pkC.toArray 38)).heap.size := by rw [World.size_alloc, World.size_alloc]; omega
  clear hG hPk hF3 HW2
  generalize hWW : World.alloc (w2.alloc (.cells #[.int .i64 1, .int .i64 2, .int .i64 3, .int .i64 1, .int .i64 4, .int .i64 2] 68)) _ = W3
  have hX : (w2.alloc (.cells #[.int .i64 1, .int .i64 2, .int .i64 3, .int .i64 1, .int .i64 4, .int .i64 2] 68)).alloc (.cells pkC.toArray 38) = W3 := by rw [← hWW, pkC_lit]
  rw [hX] at HG HPK HW3 HF3 hs2
  clear hWW hX
  generalize hgb : w2.heap.size = gb at *
  go_loopw [6, 4] (fun iv av wr => ∃ k : Nat, iv = .int .i64 k ∧ av = .int .i64 (atF k) ∧ k ≤ 23 ∧ WoAt wr wo tb lk B twL (twS k) ∧ Frm (CZ B twL) W3 wr) (fun iv _ _ => 23 - (intOf iv).toNat)
  case atStart => exact ⟨0, rfl, rfl, by omega, HW3.out, Frm.refl _ _⟩
  case round =>
    obtain ⟨k, rfl, rfl, hk, hW, hF⟩ := hrel
    have HF := Lib.hid hF
    have HWK := Lib.hid hW
    have hmut := hW.lo.co.mut
    have HMUT := Lib.hid hmut
    have hGk := HG.out.frm hF (HW3.out.lo.co.mut.not HG.out)
    have hPk := HPK.out.frm hF (HW3.out.lo.co.mut.not HPK.out)
    have HGK := Lib.hid hGk
    clear hF hW hmut
    by_cases hlt : k < 23
    · obtain ⟨a1, a2, a3⟩ := tw_all k hlt
      have hdo := woDo HWK.out a3 (pkF k).1 (pkF k).2
      rw [a2] at hdo
      have HDO := Lib.hid hdo
      have HSM := Lib.hid a1
      have c0 := hPk.cell (pkC_get hlt).1
      have c1 := hPk.cell (pkC_get hlt).2
      have hat := tw_at k hlt
      have hle := tw_le k (by omega)
      have e0 : decide ((k : Int) < 23) = true := decide_eq_true (by omega)
      have e0' : decide (k < 23) = true := by simpa using hlt
      have l1 : (k : Int) < 23 := by omega
      obtain ⟨ev, hev⟩ : ∃ ev, ev = evF k := ⟨_, rfl⟩
      obtain ⟨at_, hat_⟩ : ∃ at_, at_ = atF k := ⟨_, rfl⟩
      obtain ⟨at1, hat1⟩ : ∃ at1, at1 = atF (k + 1) := ⟨_, rfl⟩
      rw [← hev] at HDO hat
      rw [← hat_] at hat hle
      rw [← hat1] at hat
      rw [← hat_]
      obtain ⟨ek, et, ec⟩ := ev
      have HAT1 := Lib.hid hat1
      clear hdo a1 a2 a3 hat1 hat_ hev hPk hGk
      rcases hat with ⟨q1, q2⟩ | ⟨q1, q2, q3, q4⟩
      · have q1' : ek = 0 := q1
        subst q1' q2
        go_wp2_with fail
        refine HDO.out.mono ?_
        rintro e w4 ⟨rfl, hW4, hF4⟩
        have HW4 := Lib.hid hW4
        have HF4 := Lib.hid hF4
        clear hW4 hF4
        unfold evV
        go_wp2_with fail
        go_roundw
        case rel => exact ⟨k + 1, by go_num, by rw [← HAT1.out], by omega, (HW4.out.ext HSM.out).same ((Frm.refl _ _).alloc _), (HF.out.trans HF4.out).alloc _⟩
        case measure => simp [intOf]; omega
      · have q1' : ek ≠ 0 := q1
        subst q4
        have d1 : (ek == 0) = false := by simpa using q1'
        have d2 : decide ((6 : Int) ≤ at_) = false := by simp; omega
        have d2' : decide (6 ≤ at_) = false := by simp; omega
        have HQ3 := Lib.hid q3
        have l2 : (at_ : Int) < 6 := by omega
        clear q1 q1' q3 hle
        go_wp2_with fail
        refine HDO.out.mono ?_
        rintro e w4 ⟨rfl, hW4, hF4⟩
        have HW4 := Lib.hid hW4
        have HF4 := Lib.hid hF4
        have g0 := ((HGK.out.frm hF4 (HMUT.out.not HGK.out)).alloc (.cells #[.int .i64 ek, .int .i64 et, .bool false, .int .i64 ec] 35)).cell (i := at_) (v := .int .i64 ek) (by have := HQ3.out; unfold waL at this; show (waL.map (Value.int .i64))[at_]? = _; rw [List.getElem?_map]; unfold waL; rw [this]; rfl)
        have g1 := (HAt.new w4 #[.int .i64 ek, .int .i64 et, .bool false, .int .i64 ec] 35).cell (i := 0) rfl
        have HFA := Lib.hid ((Frm.refl [] w4).alloc (.cells #[.int .i64 ek, .int .i64 et, .bool false, .int .i64 ec] 35))
        clear hW4 hF4
        unfold evV
        go_wp2_with fail
        generalize w4.alloc (.cells #[.int .i64 ek, .int .i64 et, .bool false, .int .i64 ec] 35) = W5 at *
        have d3 : (ek != ek) = false := by simp
        go_wp2_with (go_region)
        go_roundw
        case rel => exact ⟨k + 1, by go_num, by rw [← HAT1.out]; go_num, by omega, ((HW4.out.ext HSM.out).same HFA.out.drew1), ((HF.out.trans HF4.out).trans (HFA.out.drew1.mono (by simp)))⟩
        case measure => simp [intOf]; omega
    · have e0 : decide ((k : Int) < 23) = false := decide_eq_false (by omega)
      have e0' : decide (k < 23) = false := by simpa using hlt
      obtain rfl : k = 23 := by omega
      have e1 : atF 23 = 6 := by decide
      rw [e1]
      clear hPk hGk
      go_wp2
      go_ret
      exact ⟨rfl, HF3.out.widen HF.out (fun z hz => .inr (HZ.out z hz))⟩
end Go.Proofs.YteijjhahgabalaaGreat

/- The top laws' made, for a cohort lock. -/
namespace Go.Proofs.YteijjhahgabalaaGreat
open Go.RowKit
abbrev quK (P T : List Int) (x0 x1 x2 : Int) : CK := coK P T (1 + x0 % 5).toNat (1 + x1 % 5).toNat (1 + x2 / 4 % 4).toNat (x2 % 4).toNat (AR.fresh 4096)
abbrev quA (P T : List Int) (x0 x1 x2 : Int) : Nat → AR := coAv P T (1 + x0 % 5).toNat (1 + x1 % 5).toNat (1 + x2 / 4 % 4).toNat (x2 % 4).toNat (AR.fresh 4096)
section
variable {w : World} {a b : Value} {P T : List Int} {x0 x1 x2 : Int}
theorem quArg (hT : TOk P T) (h0 : 0 ≤ x0 ∧ x0 < 256) (h1 : 0 ≤ x1 ∧ x1 < 256) (h2 : 0 ≤ x2 ∧ x2 < 256) : CoArg P T (1 + x0 % 5).toNat (1 + x1 % 5).toNat (1 + x2 / 4 % 4).toNat (x2 % 4).toNat (AR.fresh 4096) :=
  carg_fresh hT (by omega) (by omega) (by omega) (by omega)
set_option maxRecDepth 100000 in
set_option maxHeartbeats 4000000 in
theorem made_co (w : World) (hx : RowAt w 0 a P) (hy : RowAt w 0 b T) (h0 : 0 ≤ x0 ∧ x0 < 256) (h1 : 0 ≤ x1 ∧ x1 < 256) (h2 : 0 ≤ x2 ∧ x2 < 256) (m : Nat) :
    Calls Tryz.prog 6 #[.agg #[a, b], .agg #[.int .u8 x0, .int .u8 x1, .int .u8 x2, .int .u8 5], .int .i64 m] w fun e w' => Frm [] w w' ∧
      ((¬ tSmall P T m ∧ e = .returned (.pointer none)) ∨ (tSmall P T m ∧ ∃ (wo tb lk : Nat) (B : CB), e = .returned (.pointer (some ⟨wo, 0, none⟩)) ∧ WoAt w' wo tb lk B (quK P T x0 x1 x2) (firstS (quK P T x0 x1 x2) (quA P T x0 x1 x2)) ∧ ∀ z ∈ CZ B (quK P T x0 x1 x2), w.heap.size ≤ z)) := by
  have HF0 := Lib.hid (((Frm.refl [] w).alloc (.cells #[a, b] 24)).alloc (.cells #[.int .u8 x0, .int .u8 x1, .int .u8 x2, .int .u8 5] 25))
  have HSM := Lib.hid (fun (W : World) (hf : Frm [] w W) => Small_any W (hx.frm hf (by simp)) (hy.frm hf (by simp)) m)
  have HSP := Lib.hid (fun (W : World) => spec_any W x0 x1 x2 5 h0 h1 h2 (by omega))
  have HNW := Lib.hid (fun (W : World) (hf : Frm [] w W) (hs : tSmall P T m) => woNew_ok (K := quK P T x0 x1 x2) (hx.frm hf (by simp)) (hy.frm hf (by simp)) (quArg hs.1 h0 h1 h2).sch)
  have hB1 := (HAt.new w #[a, b] 24).alloc (.cells #[.int .u8 x0, .int .u8 x1, .int .u8 x2, .int .u8 5] 25)
  have hB2 := HAt.new (w.alloc (.cells #[a, b] 24)) #[.int .u8 x0, .int .u8 x1, .int .u8 x2, .int .u8 5] 25
  rw [World.size_alloc] at hB2
  have HB1 := Lib.hid hB1
  have HB2 := Lib.hid hB2
  have t0 := hB1.cell (i := 0) rfl
  have t1 := hB1.cell (i := 1) rfl
  obtain ⟨a1, cap1, rfl, -, -⟩ := hx
  obtain ⟨a2, cap2, rfl, -, -⟩ := hy
  have hnot : ∀ (x : Bool) (w : World), (Op.unary .not (.bool x)).run Tryz.prog w = .ok (.bool (!x)) w := fun _ _ => rfl
  have hk : spec5 x0 x1 x2 5 = .agg #[.int .i64 6, .int .i64 (quK P T x0 x1 x2).gk, .int .i64 (quK P T x0 x1 x2).lk, .int .i64 (quK P T x0 x1 x2).par, .int .i64 (quK P T x0 x1 x2).bud] := by
    unfold spec5
    show Value.agg #[.int .i64 (1 + 5 % 13), .int .i64 (1 + x0 % 5), .int .i64 (1 + x1 % 5), .int .i64 (1 + x2 / 4 % 4), .int .i64 (x2 % 4)] = .agg #[.int .i64 6, .int .i64 ((1 + x0 % 5).toNat : Nat), .int .i64 ((1 + x1 % 5).toNat : Nat), .int .i64 ((1 + x2 / 4 % 4).toNat : Nat), .int .i64 ((x2 % 4).toNat : Nat)]
    rw [Int.toNat_of_nonneg (by omega), Int.toNat_of_nonneg (by omega), Int.toNat_of_nonneg (by omega), Int.toNat_of_nonneg (by omega)]; rfl
  have HK := Lib.hid hk
  clear hB1 hB2 h0 h1 h2 hk
  by_cases hs : tSmall P T m
  · have HS := Lib.hid hs
    clear hs
    go_enter Tryz.func6, Tryz.ntmps6
    go_wp2_with fail
    refine (HSM.out _ HF0.out).mono ?_
    rintro e w1 ⟨r, rfl, hr, hF⟩
    obtain rfl : r = true := hr.2 HS.out
    have HF1 := Lib.hid (HF0.out.trans hF)
    have HB1 := Lib.hid (HB1.out.frm hF (by simp))
    have HB2 := Lib.hid (HB2.out.frm hF (by simp))
    clear hr hF t0 t1
    have hne : Nonempty (HW (fun wx => Frm [] w1 wx)) := ⟨⟨w1, Frm.refl _ _⟩⟩
    have hz0 : ∀ q : HW (fun wx => Frm [] w1 wx), q.w.cell? ⟨w.heap.size, 0, none⟩ = some (.slice a1 P.length cap1) := fun q => (HB1.out.frm q.h (by simp)).cell (i := 0) rfl
    have hz1 : ∀ q : HW (fun wx => Frm [] w1 wx), q.w.cell? ⟨w.heap.size, 1, none⟩ = some (.slice a2 T.length cap2) := fun q => (HB1.out.frm q.h (by simp)).cell (i := 1) rfl
    have hy0 : ∀ q : HW (fun wx => Frm [] w1 wx), q.w.cell? ⟨w.heap.size + 1, 0, none⟩ = some (.int .u8 x0) := fun q => (HB2.out.frm q.h (by simp)).cell (i := 0) rfl
    have hy1 : ∀ q : HW (fun wx => Frm [] w1 wx), q.w.cell? ⟨w.heap.size + 1, 1, none⟩ = some (.int .u8 x1) := fun q => (HB2.out.frm q.h (by simp)).cell (i := 1) rfl
    have hy2 : ∀ q : HW (fun wx => Frm [] w1 wx), q.w.cell? ⟨w.heap.size + 1, 2, none⟩ = some (.int .u8 x2) := fun q => (HB2.out.frm q.h (by simp)).cell (i := 2) rfl
    have hy3 : ∀ q : HW (fun wx => Frm [] w1 wx), q.w.cell? ⟨w.heap.size + 1, 3, none⟩ = some (.int .u8 5) := fun q => (HB2.out.frm q.h (by simp)).cell (i := 3) rfl
    go_wp2_with fail
    refine held_begin (S := fun wx => Frm [] w1 wx) (by kernel_rfl) ?_
    refine held_row_at (fuel := 7) (is := [0, 1]) (.cons rfl (.cons rfl .nil)) (by kernel_rfl) (fun _ _ _ _ _ h => h) rfl (by kernel_rfl) (Frm.refl _ _).drew1 ?_
    intro Kq hK
    repeat (go_big_quiet_step (fail))
    refine wpQuiet_nil (hK _ ?_)
    clear hK Kq
    refine held_call (fuel := 6) (i := 2) rfl (by kernel_rfl) ?_
    go_wp2_with fail
    refine (HSP.out _).mono ?_
    rintro e w2 ⟨rfl, hF⟩
    rw [HK.out]
    have HF2 := Lib.hid (((Frm.refl [] w1).drew1).trans hF)
    clear hF
    go_wp2_with fail
    refine onNormal_mk ⟨HF2.out, ?_⟩
    refine held_call (fuel := 5) (i := 3) rfl (by kernel_rfl) ?_
    go_wp2_with fail
    refine (HNW.out _ (HF1.out.trans HF2.out) HS.out).mono ?_
    rintro e w3 ⟨wo, tb, lk, B, rfl, hW, hz, hF⟩
    have HW3 := Lib.hid hW
    have HZ := Lib.hid (fun z h => Nat.le_trans (HF1.out.trans HF2.out).size (hz z h))
    have HF3 := Lib.hid (HF2.out.trans hF)
    clear hW hz hF
    go_wp2_with fail
    refine onNormal_mk ⟨HF3.out, ?_⟩
    refine held_row_at (fuel := 0) (is := [4, 5, 6, 7, 8]) (.cons rfl (.cons rfl (.cons rfl (.cons rfl (.cons rfl .nil))))) (by kernel_rfl) (fun _ _ _ _ _ h => h) rfl (by kernel_rfl) HF3.out ?_
    intro Kq hK
    repeat (go_big_quiet_step (fail))
    refine wpQuiet_nil (hK _ ?_)
    clear hK Kq
    refine held_end (by kernel_rfl) ?_
    go_wp2
    go_ret
    exact ⟨HF1.out.trans HF3.out, .inr ⟨HS.out, wo, tb, lk, B, rfl, HW3.out, HZ.out⟩⟩
  · have HS := Lib.hid hs
    clear hs
    go_enter Tryz.func6, Tryz.ntmps6
    go_wp2_with fail
    refine (HSM.out _ HF0.out).mono ?_
    rintro e w1 ⟨r, rfl, hr, hF⟩
    obtain rfl : r = false := by cases r; rfl; exact absurd (hr.1 rfl) HS.out
    have HF1 := Lib.hid (HF0.out.trans hF)
    have HB1 := Lib.hid (HB1.out.frm hF (by simp))
    have HB2 := Lib.hid (HB2.out.frm hF (by simp))
    clear hr hF t0 t1
    go_wp2
    go_ret
    exact ⟨HF1.out, .inl ⟨HS.out, rfl⟩⟩
end
end Go.Proofs.YteijjhahgabalaaGreat
