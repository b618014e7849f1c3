/- The contract of drain's Step, over a gauge and over none. -/
import Derived.Test.YtakhhbemnodahaaDrain
namespace Go.Proofs.Ytakhhbemnodahaa
open Go.RowKit

/-- what a step comes to, where Out would tell vo and In vi -/
def DR.step (D : DR) (vo vi : Int) : DR := if D.busy then (if D.second then D.last vi else D.first vo) else D
def DR.stepR (D : DR) (vi : Int) : Bool := D.busy && D.second && D.lastR vi
def AR.dStep (A : AR) (first nodes : Nat) (D : DR) : AR := if D.busy then A.gLoad first nodes D.at_ (if D.second then 0 else 1) else A

theorem dStep_any {w : World} {db gb ab wb first nodes : Nat} {D : DR} {A : AR} (h : DrAt w db (some ⟨gb, 0, none⟩) D) (hG : GgAt w gb ab first nodes) (hA : ArAt w ab wb A) (hne : db ≠ gb ∧ db ≠ ab ∧ db ≠ wb ∧ gb ≠ ab ∧ gb ≠ wb) :
    Calls Try.prog 44 #[.pointer (some ⟨db, 0, none⟩)] w fun e w' => e = .returned (.bool (D.stepR (A.gGet first nodes D.at_ 0))) ∧
      DrAt w' db (some ⟨gb, 0, none⟩) (D.step (A.gGet first nodes D.at_ 1) (A.gGet first nodes D.at_ 0)) ∧ ArAt w' ab wb (A.dStep first nodes D) ∧ GgAt w' gb ab first nodes ∧ Frm [db, ab, wb] w w' := by
  obtain ⟨n1, n2, n3, n4, n5⟩ := hne
  cases hb : D.busy with
  | false =>
    refine (dStep_idle h hb).mono fun e w' ⟨h1, h2⟩ => ?_
    subst h1 h2
    refine ⟨by unfold DR.stepR; rw [hb]; rfl, by unfold DR.step; rw [hb]; exact h, by unfold AR.dStep; rw [hb]; exact hA, hG, Frm.refl _ _⟩
  | true =>
    cases hs : D.second with
    | false =>
      have ht : Tells 23 (some ⟨gb, 0, none⟩) D.at_ (A.gGet first nodes D.at_ 1) db [ab, wb] (fun w' => ArAt w' ab wb (A.gLoad first nodes D.at_ 1)) w := fun wx hf => gOut_any (hG.frm hf (by simp; omega)) (hA.frm hf (by simp; omega) (by simp; omega)) D.at_
      refine (dStep_first h hb hs ht (by simp; omega) (fun w1 w2 hf hA => hA.frm hf (by simp; omega) (by simp; omega))).mono fun e w' ⟨h1, h2, h3, h4⟩ => ?_
      subst h1
      refine ⟨by unfold DR.stepR; rw [hs]; simp, by unfold DR.step; rw [hb, hs]; exact h2, by unfold AR.dStep; rw [hb, hs]; exact h3, hG.frm h4 (by simp; omega), h4⟩
    | true =>
      have ht : Tells 17 (some ⟨gb, 0, none⟩) D.at_ (A.gGet first nodes D.at_ 0) db [ab, wb] (fun w' => ArAt w' ab wb (A.gLoad first nodes D.at_ 0)) w := fun wx hf => gIn_any (hG.frm hf (by simp; omega)) (hA.frm hf (by simp; omega) (by simp; omega)) D.at_
      refine (dStep_last h hb hs ht (by simp; omega) (fun w1 w2 hf hA => hA.frm hf (by simp; omega) (by simp; omega))).mono fun e w' ⟨h1, h2, h3, h4⟩ => ?_
      subst h1
      refine ⟨by unfold DR.stepR; rw [hb, hs]; rfl, by unfold DR.step; rw [hb, hs]; exact h2, by unfold AR.dStep; rw [hb, hs]; exact h3, hG.frm h4 (by simp; omega), h4⟩

theorem dStep_none {w : World} {db : Nat} {D : DR} (h : DrAt w db none D) :
    Calls Try.prog 44 #[.pointer (some ⟨db, 0, none⟩)] w fun e w' => e = .returned (.bool (D.stepR 0)) ∧ DrAt w' db none (D.step 0 0) ∧ Frm [db] w w' := by
  cases hb : D.busy with
  | false =>
    refine (dStep_idle h hb).mono fun e w' ⟨h1, h2⟩ => ?_
    subst h1 h2
    refine ⟨by unfold DR.stepR; rw [hb]; rfl, by unfold DR.step; rw [hb]; exact h, Frm.refl _ _⟩
  | true =>
    cases hs : D.second with
    | false =>
      have ht : Tells 23 none D.at_ 0 db [] (fun _ => True) w := fun wx hf => (gOut_none (.inl rfl) D.at_).mono fun e w' h => ⟨h.1, trivial, h.2 ▸ Frm.refl _ _⟩
      refine (dStep_first h hb hs ht (by simp) (fun _ _ _ _ => trivial)).mono fun e w' ⟨h1, h2, _, h4⟩ => ?_
      subst h1
      refine ⟨by unfold DR.stepR; rw [hs]; simp, by unfold DR.step; rw [hb, hs]; exact h2, h4⟩
    | true =>
      have ht : Tells 17 none D.at_ 0 db [] (fun _ => True) w := fun wx hf => (gIn_none (.inl rfl) D.at_).mono fun e w' h => ⟨h.1, trivial, h.2 ▸ Frm.refl _ _⟩
      refine (dStep_last h hb hs ht (by simp) (fun _ _ _ _ => trivial)).mono fun e w' ⟨h1, h2, _, h4⟩ => ?_
      subst h1
      refine ⟨by unfold DR.stepR; rw [hb, hs]; rfl, by unfold DR.step; rw [hb, hs]; exact h2, h4⟩

end Go.Proofs.Ytakhhbemnodahaa
