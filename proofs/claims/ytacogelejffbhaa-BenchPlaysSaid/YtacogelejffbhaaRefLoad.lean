/- The contract of the reference's Load. -/
import Derived.Test.YtacogelejffbhaaRefArena
namespace Go.Proofs.Ytacogelejffbhaa
open Go.RowKit

theorem rLoad_any {w : World} {rb : Nat} {v : Value} {A : AR} (h : RfAt w rb v A) (i : Int) :
    Calls Try.prog 41 #[.pointer (some ⟨rb, 0, none⟩), .int .i64 i] w fun e w' => e = .returned (.int .i64 (A.get i)) ∧ RfAt w' rb v (A.load i) ∧ Frm (rb :: vb v) w w' := by
  cases hi : A.has i with
  | true =>
    have HO := Lib.hid (op_yes h 1 i 0 false hi)
    have hn : A.load i = A.noted 1 i 0 false := by unfold AR.load AR.noted; rw [hi]; rfl
    rw [hn]
    clear h hi hn
    go_enter Try.func41, Try.ntmps41
    go_wp2_with fail
    refine HO.out.mono ?_
    rintro e w' ⟨rfl, hA, hF⟩
    have HA := Lib.hid hA
    have HF := Lib.hid hF
    clear hA hF
    go_wp2
    go_ret
    exact ⟨rfl, HA.out, HF.out⟩
  | false =>
    have HO := Lib.hid (op_no h 1 i 0 false hi)
    have hn : A.load i = A := by unfold AR.load; rw [hi]; rfl
    have hg : A.get i = 0 := by unfold AR.get; rw [hi]; rfl
    rw [hn, hg]
    have H := Lib.hid h
    clear h hi hn hg
    go_enter Try.func41, Try.ntmps41
    go_wp2_with fail
    refine HO.out.mono ?_
    rintro e w' ⟨rfl, rfl⟩
    go_wp2
    go_ret
    exact ⟨rfl, H.out, Frm.refl _ _⟩

end Go.Proofs.Ytacogelejffbhaa
