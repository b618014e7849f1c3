/- The contract of arena's Swap. -/
import Derived.Test.YtacogelejffbhaaArena
namespace Go.Proofs.Ytacogelejffbhaa
open Go.RowKit

theorem run_call_swap {P : Program} {f : FuncId} {fn : Func} (hf : P.funcs[f]? = some fn) (hname : (fn.name == "runtime.NumGoroutine") = false) (hb : fn.body.isNone = true) (hn : Extern.findNext fn = none) (k : IntKind)
    (he : Extern.find fn = some (Extern.Atomic.swapT (.int k))) {a : Addr} {x y : Int} {w : World} (hc : w.cell? a = some (.int k x)) (hz : w.frozen? a = false) :
    (callFunc f #[.pointer (some a), .int k y]).run P w = .ok (.value (.int k x)) (w.setCell a (.int k y)) := by
  rw [run_callFunc_extern hf hname hb hn he]
  change (Sem.run P (asAddr (.pointer (some a)) >>= fun a' => Extern.Atomic.read (.int k) a' >>= fun old => store a' (.int k y) .atomic >>= fun _ => pure old) w).andThen _ = _
  simp [Extern.Atomic.read, asAddr, hc, hz, run_store P w a (.int k y) .atomic rfl, Result.andThen]

theorem aSwap_any (w : World) (b i : Nat) (n v : Int) (h : w.cell? ⟨b, i, none⟩ = some (.int .i64 n)) (hz : w.frozen? ⟨b, i, none⟩ = false) :
    Calls Try.prog 79 #[.pointer (some ⟨b, i, none⟩), .int .i64 v] w fun e w' => e = .returned (.int .i64 n) ∧ w' = w.setCell ⟨b, i, none⟩ (.int .i64 v) := by
  have hl := run_call_swap (P := Try.prog) Try.func86 (by kernel_rfl) (by kernel_rfl) (by kernel_rfl) .i64 (by kernel_rfl) (y := v) h hz
  go_enter Try.func79, Try.ntmps79
  go_wp2
  go_ret
  exact ⟨rfl, rfl⟩

theorem Swap_no {w : World} {ab wb : Nat} {A : AR} (h : ArAt w ab wb A) (i v : Int) (hi : A.has i = false) :
    Calls Try.prog 66 #[.pointer (some ⟨ab, 0, none⟩), .int .i64 i, .int .i64 v] w fun e w' => e = .returned (.int .i64 0) ∧ w = w' := by
  have HW := Lib.hid (word_no h i hi)
  clear h hi
  go_enter Try.func66, Try.ntmps66
  go_wp2_with fail
  refine HW.out.mono ?_
  rintro e w' ⟨rfl, rfl⟩
  go_wp2
  go_ret
  exact ⟨rfl, rfl⟩

theorem Swap_yes {w : World} {ab wb : Nat} {A : AR} (h : ArAt w ab wb A) (i v : Int) (hi : A.has i = true) :
    Calls Try.prog 66 #[.pointer (some ⟨ab, 0, none⟩), .int .i64 i, .int .i64 v] w fun e w' => e = .returned (.int .i64 (A.get i)) ∧ ArAt w' ab wb ((A.note 3 i true).put i v) ∧ Frm [ab, wb] w w' := by
  have HW := Lib.hid (word_yes h i hi)
  have HN := Lib.hid (note_any h 3 i true)
  have hg : (A.note 3 i true).get i = A.get i := rfl
  have HC := Lib.hid hg
  have HI := Lib.hid (show (A.note 3 i true).has i = true from hi)
  clear h hi hg
  go_enter Try.func66, Try.ntmps66
  go_wp2_with fail
  refine HW.out.mono ?_
  rintro e w' ⟨rfl, rfl⟩
  go_wp2_with fail
  refine HN.out.mono ?_
  rintro e w1 ⟨rfl, hA, hF⟩
  have HA := Lib.hid hA
  have HF := Lib.hid hF
  clear hA hF
  go_wp2_with fail
  refine (aSwap_any _ _ _ _ _ (ar_cell HA.out i HI.out) (HA.out.row.frozen _)).mono ?_
  rintro e w2 ⟨rfl, rfl⟩
  go_wp2
  go_ret
  exact ⟨ret_int (by rw [HC.out]), HA.out.put i _, (HF.out.mono (by simp)).set _ _ (.inl (by simp))⟩

theorem Swap_any {w : World} {ab wb : Nat} {A : AR} (h : ArAt w ab wb A) (i v : Int) :
    Calls Try.prog 66 #[.pointer (some ⟨ab, 0, none⟩), .int .i64 i, .int .i64 v] w fun e w' => e = .returned (.int .i64 (A.get i)) ∧ ArAt w' ab wb (A.swap i v) ∧ Frm [ab, wb] w w' := by
  cases hi : A.has i with
  | true => exact (Swap_yes h i v hi).mono fun e w' ⟨h1, h2, h3⟩ => ⟨h1, by unfold AR.swap; rw [hi]; exact h2, h3⟩
  | false =>
    exact (Swap_no h i v hi).mono fun e w' ⟨h1, h2⟩ => by
      subst h2
      exact ⟨by rw [h1]; unfold AR.get; rw [hi]; rfl, by unfold AR.swap; rw [hi]; exact h, Frm.refl _ _⟩

end Go.Proofs.Ytacogelejffbhaa
