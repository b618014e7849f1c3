/- The contracts of sync.Once, for a table that is found when it is asked for first. -/
import Derived.Defers
import Derived.RegionCalls
import Derived.Laws.LoneSync
import Derived.Laws.Pointers
import Derived.RegionTactic
import Derived.Test.YteijjhahgabalaaGreatQ05
namespace Go.Proofs.YteijjhahgabalaaGreat
open Go.RowKit
theorem race_disable (w : World) : (callFunc 122 #[]).run Tryz.prog w = .ok (.value (.tuple #[])) w := run_call_mark0 Tryz.func122 (by kernel_rfl) (by kernel_rfl) (by kernel_rfl) .disable (by kernel_rfl) w
theorem race_enable (w : World) : (callFunc 124 #[]).run Tryz.prog w = .ok (.value (.tuple #[])) w := run_call_mark0 Tryz.func124 (by kernel_rfl) (by kernel_rfl) (by kernel_rfl) .enable (by kernel_rfl) w
theorem race_acquire (a : Addr) (w : World) : (callFunc 125 #[.pointer (some a)]).run Tryz.prog w = .ok (.value (.tuple #[])) w := run_call_marked Tryz.func125 (by kernel_rfl) (by kernel_rfl) (by kernel_rfl) .acquire (by kernel_rfl) a w
theorem race_release (a : Addr) (w : World) : (callFunc 127 #[.pointer (some a)]).run Tryz.prog w = .ok (.value (.tuple #[])) w := run_call_marked Tryz.func127 (by kernel_rfl) (by kernel_rfl) (by kernel_rfl) .releaseMerge (by kernel_rfl) a w
set_option maxRecDepth 100000 in
theorem store_deferred (a : Addr) (x : Value) (u : FrameMode) (w : World) (hc : w.cell? a = some x) (hz : w.frozen? a = false) :
    CallsD Tryz.prog 117 #[.pointer (some a), .bool true] u w fun e u' w' => u' = u ∧ (e = .returned (.tuple #[]) ∧ w' = w.drew.setCell a (.int .u32 1)) := by
  have hc' : w.drew.cell? a = some x := by go_simp
  have hz' : w.drew.frozen? a = false := by go_simp
  have hst := run_call_store (P := Tryz.prog) Tryz.func120 (by kernel_rfl) (by kernel_rfl) (by kernel_rfl) (by kernel_rfl) (k := .u32) (y := 1) hc' hz'
  go_enter_d Tryz.func117, Tryz.ntmps117
  go_wp2
  go_region_calls
  all_goals (go_end0; exact ⟨rfl, rfl⟩)
set_option maxRecDepth 100000 in
theorem unlock_deferred (a : Addr) (u : FrameMode) (w : World) (hc : w.cell? a = some (.int .i32 1)) (hz : w.frozen? a = false) :
    CallsD Tryz.prog 116 #[.pointer (some a)] u w fun e u' w' => u' = u ∧ (e = .returned (.tuple #[]) ∧ w' = w.setCell a (.int .i32 0)) := by
  have hd := race_disable
  have he := race_enable
  have hr := race_release
  have hadd := run_call_add (P := Tryz.prog) Tryz.func128 (by kernel_rfl) (by kernel_rfl) (by kernel_rfl) .i32 (by kernel_rfl) (y := -1) (s := 0) hc hz (by simp [go_sem]; rfl)
  have hcv := run_convert_to_unsafe (P := Tryz.prog) (src := 279) (dst := 283) Tryz.underlying279 Tryz.underlying283 (by kernel_rfl) hc
  go_enter_d Tryz.func116, Tryz.ntmps116
  go_wp2
  go_end0
  go_wp2
  go_end0
  exact ⟨rfl, rfl⟩
set_option maxRecDepth 100000 in
theorem lock_free (a : Addr) (w : World) (hc : w.cell? a = some (.int .i32 0)) (hz : w.frozen? a = false) :
    Calls Tryz.prog 115 #[.pointer (some a)] w fun e w' => e = .returned (.tuple #[]) ∧ w' = w.setCell a (.int .i32 1) := by
  have hd := race_disable
  have he := race_enable
  have ha := race_acquire
  have hcas := run_call_cas_hit (P := Tryz.prog) Tryz.func123 (by kernel_rfl) (by kernel_rfl) (by kernel_rfl) .i32 (by kernel_rfl) (y := 1) hc hz
  have hc' : (w.setCell a (.int .i32 1)).cell? a = some (.int .i32 1) := World.cell?_setCell_same w a _ hc
  have hcv := run_convert_to_unsafe (P := Tryz.prog) (src := 279) (dst := 283) Tryz.underlying279 Tryz.underlying283 (by kernel_rfl) hc'
  go_enter Tryz.func115, Tryz.ntmps115
  go_wp2
  first | go_end0 | (simp only [Exit.inBlock, Exit.then]; refine bodyPost_ret (results_none rfl _ _ _) rfl ?_) | refine bodyPost_ret (results_none rfl _ _ _) rfl ?_
  go_wp2
  go_end0
  exact ⟨rfl, rfl⟩
set_option maxRecDepth 100000 in
set_option maxHeartbeats 1600000 in
theorem once_slow (tb : Nat) (Q : World → Prop) (w : World) (h0 : w.cell? ⟨tb, 2, none⟩ = some (.int .u32 0)) (h1 : w.cell? ⟨tb, 3, none⟩ = some (.int .i32 0)) (f1 : w.frozen? ⟨tb, 3, none⟩ = false)
    (hfind : Calls Tryz.prog 110 #[.pointer (some ⟨tb, 0, none⟩)] (w.setCell ⟨tb, 3, none⟩ (.int .i32 1)) fun e w' => e = .returned (.tuple #[]) ∧ (w'.cell? ⟨tb, 2, none⟩ = some (.int .u32 0) ∧ w'.cell? ⟨tb, 3, none⟩ = some (.int .i32 1) ∧ w'.frozen? ⟨tb, 2, none⟩ = false ∧ w'.frozen? ⟨tb, 3, none⟩ = false) ∧ Q w') :
    Calls Tryz.prog 112 #[.pointer (some ⟨tb, 2, none⟩), .func (.func 110) #[.pointer (some ⟨tb, 0, none⟩)] #[]] w fun e w' => e = .returned (.tuple #[]) ∧ ∃ w2, Q w2 ∧ w' = (w2.drew.setCell ⟨tb, 2, none⟩ (.int .u32 1)).setCell ⟨tb, 3, none⟩ (.int .i32 0) := by
  have hl := run_call_load (P := Tryz.prog) Tryz.func114 (by kernel_rfl) (by kernel_rfl) (by kernel_rfl) .u32 (by kernel_rfl) (w := w.setCell ⟨tb, 3, none⟩ (.int .i32 1)) (a := ⟨tb, 2, none⟩) (x := 0) ((World.cell?_setCell_other _ ⟨tb, 3, none⟩ ⟨tb, 2, none⟩ _ (by simp)).trans h0)
  have hnot : ∀ (x : Bool) (w : World), (Op.unary .not (.bool x)).run Tryz.prog w = .ok (.bool (!x)) w := fun _ _ => rfl
  have HFD := Lib.hid hfind
  clear hfind
  go_enter_defers Tryz.func112, Tryz.ntmps112
  go_wp2_with (go_at_call 115; refine (lock_free ⟨tb, 3, none⟩ _ (by go_simp) (by go_simp)).mono ?_; rintro e w' ⟨rfl, rfl⟩)
  go_wp2_with (first | (go_at_call 111; go_in) | (go_at_call 110; refine HFD.out.mono ?_; rintro e w2 ⟨rfl, hk, hQ⟩; have HK := Lib.hid hk; have HQ := Lib.hid hQ; clear hk hQ))
  first | go_end0 | skip
  obtain ⟨k0, k1, z0, z1⟩ := HK.out
  refine leaves_cons (f := 117) (args := #[.pointer (some ⟨tb, 2, none⟩), .bool true]) (by simp) (by simp [go_sem]) ?_
  refine (store_deferred ⟨tb, 2, none⟩ (.int .u32 0) .returning _ k0 z0).mono ?_
  rintro e u' w'' ⟨rfl, rfl, rfl⟩
  refine leaves_cons (f := 116) (args := #[.pointer (some ⟨tb, 3, none⟩)]) (by simp [settle]) (by simp [go_sem]) ?_
  refine (unlock_deferred ⟨tb, 3, none⟩ _ _ ?_ (by simp [z1])).mono ?_
  · exact (World.cell?_setCell_other _ ⟨tb, 2, none⟩ ⟨tb, 3, none⟩ _ (by simp)).trans k1
  rintro e u' w'' ⟨rfl, rfl, rfl⟩
  have HQ2 := HQ.out
  simp [Leaves, settle, results, Tryz.results112]
  exact ⟨w2, HQ2, rfl⟩
set_option maxRecDepth 100000 in
set_option maxHeartbeats 1600000 in
theorem once_first (tb : Nat) (Q : World → Prop) (w : World) (h0 : w.cell? ⟨tb, 2, none⟩ = some (.int .u32 0)) (h1 : w.cell? ⟨tb, 3, none⟩ = some (.int .i32 0)) (f1 : w.frozen? ⟨tb, 3, none⟩ = false)
    (hfind : Calls Tryz.prog 110 #[.pointer (some ⟨tb, 0, none⟩)] (w.setCell ⟨tb, 3, none⟩ (.int .i32 1)) fun e w' => e = .returned (.tuple #[]) ∧ (w'.cell? ⟨tb, 2, none⟩ = some (.int .u32 0) ∧ w'.cell? ⟨tb, 3, none⟩ = some (.int .i32 1) ∧ w'.frozen? ⟨tb, 2, none⟩ = false ∧ w'.frozen? ⟨tb, 3, none⟩ = false) ∧ Q w') :
    Calls Tryz.prog 109 #[.pointer (some ⟨tb, 2, none⟩), .func (.func 110) #[.pointer (some ⟨tb, 0, none⟩)] #[]] w fun e w' => e = .returned (.tuple #[]) ∧ ∃ w2, Q w2 ∧ w' = (w2.drew.setCell ⟨tb, 2, none⟩ (.int .u32 1)).setCell ⟨tb, 3, none⟩ (.int .i32 0) := by
  have hl := run_call_load (P := Tryz.prog) Tryz.func114 (by kernel_rfl) (by kernel_rfl) (by kernel_rfl) .u32 (by kernel_rfl) h0
  have hnot : ∀ (x : Bool) (w : World), (Op.unary .not (.bool x)).run Tryz.prog w = .ok (.bool (!x)) w := fun _ _ => rfl
  have HS := Lib.hid (once_slow tb Q w h0 h1 f1 hfind)
  clear hfind
  go_enter Tryz.func109, Tryz.ntmps109
  go_wp2_with (first | (go_at_call 112; refine HS.out.mono ?_; rintro e w' ⟨rfl, hQ⟩; have HQ := Lib.hid hQ; clear hQ) | (go_at_call 111; go_in))
  go_end0
  exact ⟨rfl, HQ.out⟩
theorem once_done (a : Addr) (fv : Value) (w : World) (h0 : w.cell? a = some (.int .u32 1)) :
    Calls Tryz.prog 109 #[.pointer (some a), fv] w fun e w' => e = .returned (.tuple #[]) ∧ w = w' := by
  have hl := run_call_load (P := Tryz.prog) Tryz.func114 (by kernel_rfl) (by kernel_rfl) (by kernel_rfl) .u32 (by kernel_rfl) h0
  have hnot : ∀ (x : Bool) (w : World), (Op.unary .not (.bool x)).run Tryz.prog w = .ok (.bool (!x)) w := fun _ _ => rfl
  go_enter Tryz.func109, Tryz.ntmps109
  go_wp2
  go_end0
  exact ⟨rfl, rfl⟩
end Go.Proofs.YteijjhahgabalaaGreat
