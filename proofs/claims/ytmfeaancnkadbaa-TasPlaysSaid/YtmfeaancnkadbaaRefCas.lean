/- The contract of the reference's Cas. -/
import Derived.Test.YtmfeaancnkadbaaRefArena
namespace Go.Proofs.Ytmfeaancnkadbaa
open Go.RowKit

theorem rCas_any {w : World} {rb : Nat} {v : Value} {A : AR} (h : RfAt w rb v A) (i o x : Int) :
    Calls Try.prog 51 #[.pointer (some ⟨rb, 0, none⟩), .int .i64 i, .int .i64 o, .int .i64 x] w fun e w' => e = .returned (.bool (A.casOk i o)) ∧ RfAt w' rb v (A.cas i o x) ∧ Frm (rb :: vb v) w w' := by
  have HG := Lib.hid (rAt_any h i)
  cases hi : A.has i with
  | true =>
    by_cases hq : A.get i = o
    · have HO := Lib.hid (op_yes h 4 i x true hi)
      have hr : A.casOk i o = true := by unfold AR.casOk; rw [hi]; simpa using hq
      have hn : A.cas i o x = A.noted 4 i x true := by unfold AR.cas AR.noted; rw [hi, if_pos rfl, if_pos hq]; rfl
      have e1 : (A.get i == o) = true := by simpa using hq
      rw [hr, hn]
      clear h hr hn hq
      go_enter Try.func51, Try.ntmps51
      go_wp2_with fail
      refine HG.out.mono ?_
      rintro e w' ⟨rfl, rfl⟩
      go_wp2_with fail
      refine HO.out.mono ?_
      rintro e w1 ⟨rfl, hA, hF⟩
      have HA := Lib.hid hA
      have HF := Lib.hid hF
      clear hA hF
      go_wp2
      go_ret
      exact ⟨rfl, HA.out, HF.out⟩
    · have HO := Lib.hid (op_yes h 4 i x false hi)
      have hr : A.casOk i o = false := by unfold AR.casOk; rw [decide_eq_false hq]; simp
      have hn : A.cas i o x = A.noted 4 i x false := by unfold AR.cas AR.noted; rw [hi, if_pos rfl, if_neg hq]; rfl
      have e1 : (A.get i == o) = false := by simpa using hq
      rw [hr, hn]
      clear h hr hn hq
      go_enter Try.func51, Try.ntmps51
      go_wp2_with fail
      refine HG.out.mono ?_
      rintro e w' ⟨rfl, rfl⟩
      go_wp2_with fail
      refine HO.out.mono ?_
      rintro e w1 ⟨rfl, hA, hF⟩
      have HA := Lib.hid hA
      have HF := Lib.hid hF
      clear hA hF
      go_wp2
      go_ret
      exact ⟨rfl, HA.out, HF.out⟩
  | false =>
    have hr : A.casOk i o = false := by unfold AR.casOk; rw [hi]; rfl
    have hn : A.cas i o x = A := by unfold AR.cas; rw [hi]; rfl
    rw [hr, hn]
    have H := Lib.hid h
    cases he : (A.get i == o) with
    | true =>
      have HO := Lib.hid (op_no h 4 i x true hi)
      clear h hr hn hi
      go_enter Try.func51, Try.ntmps51
      go_wp2_with fail
      refine HG.out.mono ?_
      rintro e w' ⟨rfl, rfl⟩
      go_wp2_with fail
      refine HO.out.mono ?_
      rintro e w1 ⟨rfl, rfl⟩
      go_wp2
      go_ret
      exact ⟨rfl, H.out, Frm.refl _ _⟩
    | false =>
      have HO := Lib.hid (op_no h 4 i x false hi)
      clear h hr hn hi
      go_enter Try.func51, Try.ntmps51
      go_wp2_with fail
      refine HG.out.mono ?_
      rintro e w' ⟨rfl, rfl⟩
      go_wp2_with fail
      refine HO.out.mono ?_
      rintro e w1 ⟨rfl, rfl⟩
      go_wp2
      go_ret
      exact ⟨rfl, H.out, Frm.refl _ _⟩
end Go.Proofs.Ytmfeaancnkadbaa
