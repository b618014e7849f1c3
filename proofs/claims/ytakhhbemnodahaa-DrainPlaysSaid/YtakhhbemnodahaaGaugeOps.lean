/- The contracts of what gauge exports: Enter, Exit, In, Out. -/
import Derived.Test.YtakhhbemnodahaaGauge
namespace Go.Proofs.Ytakhhbemnodahaa
open Go.RowKit

theorem gEnter_any {w : World} {gb ab wb first nodes : Nat} {A : AR} (h : GgAt w gb ab first nodes) (hA : ArAt w ab wb A) (k : Int) :
    Calls Try.prog 19 #[.pointer (some ⟨gb, 0, none⟩), .int .i64 k] w fun e w' => e = .returned (.tuple #[]) ∧ ArAt w' ab wb (A.gAdd first nodes k 0) ∧ Frm [ab, wb] w w' := by
  have HX := Lib.hid (gadd_any h hA k 0 (by omega))
  clear h hA
  go_enter Try.func19, Try.ntmps19
  go_wp2_with fail
  refine HX.out.mono ?_
  rintro e w' ⟨rfl, hA', hF⟩
  have HA := Lib.hid hA'
  have HF := Lib.hid hF
  clear hA' hF
  go_wp2
  go_end0
  exact ⟨rfl, HA.out, HF.out⟩
theorem gEnter_none {w : World} {p : Option Addr} (h : GNone w p) (k : Int) : Calls Try.prog 19 #[.pointer p, .int .i64 k] w fun e w' => e = .returned (.tuple #[]) ∧ w = w' := by
  have HN := Lib.hid (gadd_none h k 0)
  clear h
  go_enter Try.func19, Try.ntmps19
  go_wp2_with fail
  refine HN.out.mono ?_
  rintro e w' ⟨rfl, rfl⟩
  go_wp2
  go_end0
  exact ⟨rfl, rfl⟩

theorem gExit_any {w : World} {gb ab wb first nodes : Nat} {A : AR} (h : GgAt w gb ab first nodes) (hA : ArAt w ab wb A) (k : Int) :
    Calls Try.prog 21 #[.pointer (some ⟨gb, 0, none⟩), .int .i64 k] w fun e w' => e = .returned (.tuple #[]) ∧ ArAt w' ab wb (A.gAdd first nodes k 1) ∧ Frm [ab, wb] w w' := by
  have HX := Lib.hid (gadd_any h hA k 1 (by omega))
  clear h hA
  go_enter Try.func21, Try.ntmps21
  go_wp2_with fail
  refine HX.out.mono ?_
  rintro e w' ⟨rfl, hA', hF⟩
  have HA := Lib.hid hA'
  have HF := Lib.hid hF
  clear hA' hF
  go_wp2
  go_end0
  exact ⟨rfl, HA.out, HF.out⟩
theorem gExit_none {w : World} {p : Option Addr} (h : GNone w p) (k : Int) : Calls Try.prog 21 #[.pointer p, .int .i64 k] w fun e w' => e = .returned (.tuple #[]) ∧ w = w' := by
  have HN := Lib.hid (gadd_none h k 1)
  clear h
  go_enter Try.func21, Try.ntmps21
  go_wp2_with fail
  refine HN.out.mono ?_
  rintro e w' ⟨rfl, rfl⟩
  go_wp2
  go_end0
  exact ⟨rfl, rfl⟩

theorem gIn_any {w : World} {gb ab wb first nodes : Nat} {A : AR} (h : GgAt w gb ab first nodes) (hA : ArAt w ab wb A) (k : Int) :
    Calls Try.prog 17 #[.pointer (some ⟨gb, 0, none⟩), .int .i64 k] w fun e w' => e = .returned (.int .i64 (A.gGet first nodes k 0)) ∧ ArAt w' ab wb (A.gLoad first nodes k 0) ∧ Frm [ab, wb] w w' := by
  have HX := Lib.hid (gload_any h hA k 0 (by omega))
  clear h hA
  go_enter Try.func17, Try.ntmps17
  go_wp2_with fail
  refine HX.out.mono ?_
  rintro e w' ⟨rfl, hA', hF⟩
  have HA := Lib.hid hA'
  have HF := Lib.hid hF
  clear hA' hF
  go_wp2
  go_ret
  exact ⟨rfl, HA.out, HF.out⟩
theorem gIn_none {w : World} {p : Option Addr} (h : GNone w p) (k : Int) : Calls Try.prog 17 #[.pointer p, .int .i64 k] w fun e w' => e = .returned (.int .i64 0) ∧ w = w' := by
  have HN := Lib.hid (gload_none h k 0)
  clear h
  go_enter Try.func17, Try.ntmps17
  go_wp2_with fail
  refine HN.out.mono ?_
  rintro e w' ⟨rfl, rfl⟩
  go_wp2
  go_ret
  exact ⟨rfl, rfl⟩

theorem gOut_any {w : World} {gb ab wb first nodes : Nat} {A : AR} (h : GgAt w gb ab first nodes) (hA : ArAt w ab wb A) (k : Int) :
    Calls Try.prog 23 #[.pointer (some ⟨gb, 0, none⟩), .int .i64 k] w fun e w' => e = .returned (.int .i64 (A.gGet first nodes k 1)) ∧ ArAt w' ab wb (A.gLoad first nodes k 1) ∧ Frm [ab, wb] w w' := by
  have HX := Lib.hid (gload_any h hA k 1 (by omega))
  clear h hA
  go_enter Try.func23, Try.ntmps23
  go_wp2_with fail
  refine HX.out.mono ?_
  rintro e w' ⟨rfl, hA', hF⟩
  have HA := Lib.hid hA'
  have HF := Lib.hid hF
  clear hA' hF
  go_wp2
  go_ret
  exact ⟨rfl, HA.out, HF.out⟩
theorem gOut_none {w : World} {p : Option Addr} (h : GNone w p) (k : Int) : Calls Try.prog 23 #[.pointer p, .int .i64 k] w fun e w' => e = .returned (.int .i64 0) ∧ w = w' := by
  have HN := Lib.hid (gload_none h k 1)
  clear h
  go_enter Try.func23, Try.ntmps23
  go_wp2_with fail
  refine HN.out.mono ?_
  rintro e w' ⟨rfl, rfl⟩
  go_wp2
  go_ret
  exact ⟨rfl, rfl⟩

end Go.Proofs.Ytakhhbemnodahaa
