/- The contract of the reference's Add. -/
import Derived.Test.YtakhhbemnodahaaRefArena
namespace Go.Proofs.Ytakhhbemnodahaa
open Go.RowKit

theorem put_get {A : AR} (i x : Int) (hle : A.taken ≤ A.ws.length) (hi : A.has i = true) (k : Int) : ((A.note k i true).put i x).get i = x := by
  have h1 : 1 ≤ i ∧ i ≤ (A.taken : Int) := by unfold AR.has at hi; simpa using hi
  have hh : ((A.note k i true).put i x).has i = true := hi
  unfold AR.get
  rw [hh]
  show (A.ws.set (i.toNat - 1) x)[i.toNat - 1]?.getD 0 = x
  have : i.toNat - 1 < A.ws.length := by omega
  simp [this]

theorem rAdd_any {w : World} {rb : Nat} {v : Value} {A : AR} (h : RfAt w rb v A) (i d : Int) :
    Calls Try.prog 57 #[.pointer (some ⟨rb, 0, none⟩), .int .i64 i, .int .i64 d] w fun e w' => e = .returned (.int .i64 (A.addRes i d)) ∧ RfAt w' rb v (A.add i d) ∧ Frm (rb :: vb v) w w' := by
  have HG := Lib.hid (rAt_any h i)
  cases hi : A.has i with
  | true =>
    have hO := op_yes h 5 i (wrap64 (A.get i + d)) true hi
    have HP := Lib.hid (put_get (A := A) i (wrap64 (A.get i + d)) h.le hi 5)
    have hn : A.add i d = A.noted 5 i (wrap64 (A.get i + d)) true := by unfold AR.add AR.noted; rw [hi]; rfl
    have hr : A.addRes i d = wrap64 (A.get i + d) := by unfold AR.addRes; rw [hi]; rfl
    rw [hn, hr]
    clear h hi hn hr
    have HO := Lib.hid hO
    clear hO
    go_enter Try.func57, Try.ntmps57
    go_wp2_with fail
    refine HG.out.mono ?_
    rintro e w' ⟨rfl, rfl⟩
    go_wp2_with fail
    refine HO.out.mono ?_
    rintro e w1 ⟨rfl, hA, hF⟩
    have HA := Lib.hid hA
    have HF := Lib.hid hF
    have HG2 := Lib.hid (rAt_any hA i)
    clear hA hF
    go_wp2_with fail
    refine HG2.out.mono ?_
    rintro e w' ⟨rfl, rfl⟩
    go_wp2
    go_ret
    exact ⟨ret_int HP.out, HA.out, HF.out⟩
  | false =>
    have HO := Lib.hid (op_no h 5 i (wrap64 (A.get i + d)) true hi)
    have hn : A.add i d = A := by unfold AR.add; rw [hi]; rfl
    have hr : A.addRes i d = 0 := by unfold AR.addRes; rw [hi]; rfl
    rw [hn, hr]
    have H := Lib.hid h
    clear h hi hn hr
    go_enter Try.func57, Try.ntmps57
    go_wp2_with fail
    refine HG.out.mono ?_
    rintro e w' ⟨rfl, rfl⟩
    go_wp2_with fail
    refine HO.out.mono ?_
    rintro e w' ⟨rfl, rfl⟩
    go_wp2
    go_ret
    exact ⟨rfl, H.out, Frm.refl _ _⟩

end Go.Proofs.Ytakhhbemnodahaa
