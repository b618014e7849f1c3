/- The walk of the law FieldOrder: it returns true, and writes nothing that was there. -/
import Derived.Test.YteapniipkpijkaaFieldAwake
import Derived.WalkSmall
namespace Go.Proofs.Yteapniipkpijkaa
open Go.RowKit

theorem run_equalIn_arr2 {P : Program} (w : World) (d : Nat) (t e : TypeId) (k : IntKind) (a0 a1 b0 b1 : Int) (ht : P.underlying t = some (.array 2 e)) (he : P.underlying e = some (.int k)) (hc : (sizeOf e).run P w = .ok 1 w)
    (hp : ∀ (xs : Array Value) (i : Nat) v, xs[i]? = some v → (part e xs i).run P w = .ok v w) :
    (Op.equalIn (d + 2) t (.agg #[.int k a0, .int k a1]) (.agg #[.int k b0, .int k b1])).run P w = .ok (a0 == b0 && a1 == b1) w := by
  rw [Op.equalIn]
  simp only [Sem.run_bind, run_underlying ht, Result.andThen_ok, hc]
  simp only [Std.Legacy.Range.forIn_eq_forIn_range', Std.Legacy.Range.size]
  simp [List.range', hp, run_equalIn_int _ _ _ k k _ _ he]
  by_cases h0 : a0 = b0 <;> by_cases h1 : a1 = b1 <;> simp [h0, h1]

theorem eqPairs (a0 a1 b0 b1 : Int) (q : Bool) (h : (a0 == b0 && a1 == b1) = q) (w : World) :
    (Op.equalIn 10000 22 (.agg #[.int .i64 a0, .int .i64 a1]) (.agg #[.int .i64 b0, .int .i64 b1])).run Try.prog w = .ok q w := by
  rw [← h]
  exact run_equalIn_arr2 w 9998 22 3 .i64 a0 a1 b0 b1 Try.underlying22 Try.underlying3 (by kernel_rfl) (fun xs i v hx => run_part_plain w (by kernel_rfl) hx)

set_option maxHeartbeats 2000000 in
theorem fieldOrder_ok (a0 a1 b0 b1 : Int) (w : World) (h1 : fPackOk a0 a1 = true) (h2 : fPackOk b0 b1 = true) (t1 t2 t3 : Bool) (d1 : decide (a1 < b1) = t1) (d2 : (a1 == b1) = t2) (d3 : decide (a0 < b0) = t3)
    (l1 : decide (fPack a0 a1 < fPack b0 b1) = (t1 || (t2 && t3))) (l2 : (fPack a0 a1 == fPack b0 b1) = (a0 == b0 && a1 == b1)) :
    Calls Try.prog 5 #[.agg #[.int .i64 a0, .int .i64 a1], .agg #[.int .i64 b0, .int .i64 b1]] w fun e w' => e = .returned (.bool true) ∧ Below w.heap.size w w' := by
  have e1 : fPackE a0 a1 = 0 := by unfold fPackE; rw [h1]; rfl
  have e2 : fPackE b0 b1 = 0 := by unfold fPackE; rw [h2]; rfl
  have p1 : fPack a0 a1 = a1 * 65536 + a0 := by unfold fPack; rw [h1]; rfl
  have g1 : 0 ≤ a0 ∧ a0 < 65536 ∧ 0 ≤ a1 ∧ a1 < 140737488355328 := by unfold fPackOk at h1; simpa using h1
  have l3 : decide (0 ≤ fPack a0 a1) = true := by rw [p1]; simp; omega
  have l4 : fIdx (fPack a0 a1) = a0 := by rw [p1]; unfold fIdx; omega
  have l5 : fNum (fPack a0 a1) = a1 := by rw [p1]; unfold fNum; omega
  obtain ⟨q, hq⟩ : ∃ q, (a0 == b0 && a1 == b1) = q := ⟨_, rfl⟩
  have eqp := eqPairs a0 a1 b0 b1 q hq
  rw [hq] at l2
  clear p1 g1 h1 h2 hq
  cases t1 <;> cases t2 <;> cases t3 <;> cases q
  all_goals
    go_enter Try.func5, Try.ntmps5
    go_wp2_with fail
    refine (Pack_any _ _ _).mono ?_
    rintro e w' ⟨rfl, n1, rfl⟩
    go_wp2_with fail
    refine (Pack_any _ _ _).mono ?_
    rintro e w' ⟨rfl, n2, rfl⟩
    go_wp2_with fail
    generalize hW : World.drewN _ (n1 + n2) = W
    have hb : Below w.heap.size w W := by subst hW; exact below_drewN (((Below.refl _ _).alloc (Nat.le_refl _) _).alloc (by simp) _) _
    have c0 : W.cell? ⟨w.heap.size, 0, none⟩ = some (.int .i64 a0) := by subst hW; simp
    have c1 : W.cell? ⟨w.heap.size, 1, none⟩ = some (.int .i64 a1) := by subst hW; simp
    have c2 : W.cell? ⟨w.heap.size + 1, 0, none⟩ = some (.int .i64 b0) := by subst hW; simp
    have c3 : W.cell? ⟨w.heap.size + 1, 1, none⟩ = some (.int .i64 b1) := by subst hW; simp
    clear hW
    go_quiet ((first | (go_at_call 11; exact Calls.quiet_of (Index_any _ _)) | (go_at_call 13; exact Calls.quiet_of (Number_any _ _)) | (go_at_call 19; exact Calls.quiet_of (fawake _))))
    go_wp2
    go_ret
    exact ⟨rfl, below_drewN hb _⟩

theorem fieldOrder_bad (a0 a1 b0 b1 : Int) (w : World) (h : fPackE a0 a1 = 1 ∨ (fPackE a0 a1 = 0 ∧ fPackE b0 b1 = 1)) :
    Calls Try.prog 5 #[.agg #[.int .i64 a0, .int .i64 a1], .agg #[.int .i64 b0, .int .i64 b1]] w fun e w' => e = .returned (.bool true) ∧ Below w.heap.size w w' := by
  rcases h with h1 | ⟨h1, h2⟩
  all_goals
    go_enter Try.func5, Try.ntmps5
    go_wp2_with fail
    refine (Pack_any _ _ _).mono ?_
    rintro e w' ⟨rfl, n1, rfl⟩
    go_wp2_with fail
    refine (Pack_any _ _ _).mono ?_
    rintro e w' ⟨rfl, n2, rfl⟩
    go_wp2_with fail
    refine (fawake _).mono ?_
    rintro e w' ⟨rfl, n3, rfl⟩
    go_wp2
    go_ret
    exact ⟨rfl, below_drewN (((Below.refl _ _).alloc (Nat.le_refl _) _).alloc (by simp) _) _⟩

theorem fieldOrder_walk (a0 a1 b0 b1 : Int) (w : World) (_ : I64 a0) (_ : I64 a1) (_ : I64 b0) (_ : I64 b1) :
    Calls Try.prog 5 #[.agg #[.int .i64 a0, .int .i64 a1], .agg #[.int .i64 b0, .int .i64 b1]] w fun e w' => e = .returned (.bool true) ∧ Below w.heap.size w w' := by
  cases h1 : fPackOk a0 a1 with
  | false => exact fieldOrder_bad _ _ _ _ _ (.inl (by unfold fPackE; rw [h1]; rfl))
  | true =>
    cases h2 : fPackOk b0 b1 with
    | false => exact fieldOrder_bad _ _ _ _ _ (.inr ⟨by unfold fPackE; rw [h1]; rfl, by unfold fPackE; rw [h2]; rfl⟩)
    | true =>
      have p1 : fPack a0 a1 = a1 * 65536 + a0 := by unfold fPack; rw [h1]; rfl
      have p2 : fPack b0 b1 = b1 * 65536 + b0 := by unfold fPack; rw [h2]; rfl
      have g1 : 0 ≤ a0 ∧ a0 < 65536 ∧ 0 ≤ a1 ∧ a1 < 140737488355328 := by unfold fPackOk at h1; simpa using h1
      have g2 : 0 ≤ b0 ∧ b0 < 65536 ∧ 0 ≤ b1 ∧ b1 < 140737488355328 := by unfold fPackOk at h2; simpa using h2
      refine fieldOrder_ok a0 a1 b0 b1 w h1 h2 _ _ _ rfl rfl rfl ?_ ?_
      · rw [p1, p2, Bool.eq_iff_iff]; simp; omega
      · rw [p1, p2, Bool.eq_iff_iff]; simp; omega

end Go.Proofs.Yteapniipkpijkaa
