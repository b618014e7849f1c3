/- The contract of the reference's Store. -/
import Derived.Test.YtacogelejffbhaaRefArena
namespace Go.Proofs.Ytacogelejffbhaa
open Go.RowKit

theorem rStore_any {w : World} {rb : Nat} {v : Value} {A : AR} (h : RfAt w rb v A) (i x : Int) :
    Calls Try.prog 40 #[.pointer (some ⟨rb, 0, none⟩), .int .i64 i, .int .i64 x] w fun e w' => e = .returned (.tuple #[]) ∧ RfAt w' rb v (A.store i x) ∧ Frm (rb :: vb v) w w' := by
  cases hi : A.has i with
  | true =>
    have HO := Lib.hid (op_yes h 2 i x true hi)
    have hn : A.store i x = A.noted 2 i x true := by unfold AR.store AR.noted; rw [hi]; rfl
    rw [hn]
    clear h hi hn
    go_enter Try.func40, Try.ntmps40
    go_wp2_with fail
    refine HO.out.mono ?_
    rintro e w' ⟨rfl, hA, hF⟩
    have HA := Lib.hid hA
    have HF := Lib.hid hF
    clear hA hF
    go_wp2
    go_end0
    exact ⟨rfl, HA.out, HF.out⟩
  | false =>
    have HO := Lib.hid (op_no h 2 i x true hi)
    have hn : A.store i x = A := by unfold AR.store; rw [hi]; rfl
    rw [hn]
    have H := Lib.hid h
    clear h hi hn
    go_enter Try.func40, Try.ntmps40
    go_wp2_with fail
    refine HO.out.mono ?_
    rintro e w' ⟨rfl, rfl⟩
    go_wp2
    go_end0
    exact ⟨rfl, H.out, Frm.refl _ _⟩

end Go.Proofs.Ytacogelejffbhaa
