/- The contracts of turn's New, and of the reference's. -/
import Derived.Test.YtakhhbemnodahaaTurnRef
import Derived.Test.YtakhhbemnodahaaRefGauge
namespace Go.Proofs.Ytakhhbemnodahaa
open Go.RowKit

/-- what New comes to: the error; 0: there are turns -/
def AR.tNewE (A : AR) (nodes : Int) : Int := if nodes < 1 ∨ 32 < nodes then 1 else A.takeE nodes

theorem tNew_bad {w : World} {ab wb : Nat} {A : AR} (h : ArAt w ab wb A) (nodes : Int) (he : A.tNewE nodes ≠ 0) :
    Calls Try.prog 32 #[.pointer (some ⟨ab, 0, none⟩), .int .i64 nodes] w fun e w' => e = .returned (.tuple #[.pointer none, .int .i64 (A.tNewE nodes)]) ∧ ArAt w' ab wb A ∧ Frm [ab, wb] w w' := by
  have H := Lib.hid h
  by_cases h1 : nodes < 1
  · have hr : A.tNewE nodes = 1 := by unfold AR.tNewE; rw [if_pos (.inl h1)]
    rw [hr]
    clear h he hr
    go_enter Try.func32, Try.ntmps32
    go_wp2
    go_ret2
    exact ⟨rfl, H.out, Frm.refl _ _⟩
  · by_cases h2 : 32 < nodes
    · have hr : A.tNewE nodes = 1 := by unfold AR.tNewE; rw [if_pos (.inr h2)]
      rw [hr]
      have d1 : decide (nodes < 1) = false := by simp; omega
      have d2 : decide (32 < nodes) = true := by simp; omega
      clear h he hr h1 h2
      go_enter Try.func32, Try.ntmps32
      go_wp2
      go_ret2
      exact ⟨rfl, H.out, Frm.refl _ _⟩
    · have hr : A.tNewE nodes = A.takeE nodes := by unfold AR.tNewE; rw [if_neg (by omega)]
      rw [hr] at he ⊢
      have hT := Take_any h nodes
      have ht : A.take nodes = A := by unfold AR.take; rw [if_neg he]
      rw [ht] at hT
      have HT := Lib.hid hT
      have d1 : decide (nodes < 1) = false := by simp; omega
      have d2 : decide (32 < nodes) = false := by simp; omega
      have d3 : (A.takeE nodes == 0) = false := by simpa using he
      have d4 : (A.takeE nodes != 0) = true := by simpa using he
      clear h he hr hT ht
      go_enter Try.func32, Try.ntmps32
      go_wp2_with fail
      refine HT.out.mono ?_
      rintro e w' ⟨rfl, hA', hF⟩
      have HF := Lib.hid hF
      have HA := Lib.hid hA'
      clear hA' hF
      go_wp2
      go_ret2
      exact ⟨rfl, HA.out, HF.out⟩

theorem tNew_ok {w : World} {ab wb : Nat} {A : AR} (h : ArAt w ab wb A) (nodes : Int) (he : A.tNewE nodes = 0) :
    Calls Try.prog 32 #[.pointer (some ⟨ab, 0, none⟩), .int .i64 nodes] w fun e w' => ∃ tb, e = .returned (.tuple #[.pointer (some ⟨tb, 0, none⟩), .int .i64 0]) ∧ w.heap.size ≤ tb ∧
      TrAt w' tb ab (A.taken + 1) nodes.toNat (fun _ => 0) 0 ∧ ArAt w' ab wb (A.take nodes) ∧ Frm [ab, wb] w w' := by
  have h12 : ¬ (nodes < 1 ∨ 32 < nodes) := by intro hc; unfold AR.tNewE at he; rw [if_pos hc] at he; omega
  have hr : A.takeE nodes = 0 := by unfold AR.tNewE at he; rwa [if_neg h12] at he
  have h1 : ¬ nodes < 1 := by omega
  have h2 : ¬ 32 < nodes := by omega
  have d1 : decide (nodes < 1) = false := by simp; omega
  have d2 : decide (32 < nodes) = false := by simp; omega
  have hn : A.takeN nodes = (A.taken : Int) + 1 := by unfold AR.takeN; rw [if_pos hr]
  have hT := Take_any h nodes
  rw [hr, hn] at hT
  have HT := Lib.hid hT
  have hle := h.le
  have hroom := h.room
  have hab := h.box.lt
  have hwb := h.row.lt
  clear h he hr hT hn h12
  go_enter Try.func32, Try.ntmps32
  go_wp2_with fail
  refine HT.out.mono ?_
  rintro e w1 ⟨rfl, hA', hF⟩
  have hsz := hF.size
  have HF := Lib.hid hF
  have HA := Lib.hid hA'
  clear hA' hF
  go_wp2
  go_ret2
  refine ⟨w1.heap.size, rfl, hsz, ?_, ?_, HF.out.alloc _⟩
  · have hnew := HAt.new w1 (.pointer (some ⟨ab, 0, none⟩) :: .int .i64 ((A.taken : Int) + 1) :: .int .i64 nodes :: dn fun _ => 0).toArray 101
    refine { box := ?_, first1 := by omega, first2 := by omega, slots2 := by omega, bd := fun _ => Nat.le_refl _ }
    have e1 : ((nodes.toNat : Nat) : Int) = nodes := by omega
    rw [e1]
    exact hnew
  · exact { HA.out with box := HA.out.box.alloc _, row := HA.out.row.alloc _ }

theorem rtNew_bad {w : World} {rb : Nat} {v : Value} {A : AR} (h : RfAt w rb v A) (nodes : Int) (he : A.tNewE nodes ≠ 0) :
    Calls Try.prog 33 #[.pointer (some ⟨rb, 0, none⟩), .int .i64 nodes] w fun e w' => e = .returned (.tuple #[.pointer none, .int .i64 (A.tNewE nodes)]) ∧ Frm (rb :: vb v) w w' := by
  by_cases h1 : nodes < 1
  · have hr : A.tNewE nodes = 1 := by unfold AR.tNewE; rw [if_pos (.inl h1)]
    rw [hr]
    clear h he hr
    go_enter Try.func33, Try.ntmps33
    go_wp2
    go_ret2
    exact ⟨rfl, Frm.refl _ _⟩
  · by_cases h2 : 32 < nodes
    · have hr : A.tNewE nodes = 1 := by unfold AR.tNewE; rw [if_pos (.inr h2)]
      rw [hr]
      have d1 : decide (nodes < 1) = false := by simp; omega
      have d2 : decide (32 < nodes) = true := by simp; omega
      clear h he hr h1 h2
      go_enter Try.func33, Try.ntmps33
      go_wp2
      go_ret2
      exact ⟨rfl, Frm.refl _ _⟩
    · have hr : A.tNewE nodes = A.takeE nodes := by unfold AR.tNewE; rw [if_neg (by omega)]
      rw [hr] at he ⊢
      have HT := Lib.hid (rTake_any h nodes)
      have d1 : decide (nodes < 1) = false := by simp; omega
      have d2 : decide (32 < nodes) = false := by simp; omega
      have d3 : (A.takeE nodes == 0) = false := by simpa using he
      have d4 : (A.takeE nodes != 0) = true := by simpa using he
      clear h he hr
      go_enter Try.func33, Try.ntmps33
      go_wp2_with fail
      refine HT.out.mono ?_
      rintro e w' ⟨rfl, v', hA', hF, hv⟩
      have HF := Lib.hid hF
      clear hA' hF hv
      go_wp2
      go_ret2
      exact ⟨rfl, HF.out⟩

theorem rtNew_ok {w : World} {rb : Nat} {v : Value} {A : AR} (h : RfAt w rb v A) (nodes : Int) (he : A.tNewE nodes = 0) :
    Calls Try.prog 33 #[.pointer (some ⟨rb, 0, none⟩), .int .i64 nodes] w fun e w' => ∃ yb v', e = .returned (.tuple #[.pointer (some ⟨yb, 0, none⟩), .int .i64 0]) ∧ w.heap.size ≤ yb ∧
      RtAt w' yb rb (A.taken + 1) nodes.toNat ∧ RfAt w' rb v' (A.take nodes) ∧ Frm (rb :: vb v) w w' ∧ (∀ k, v'.ownBlock = some k → k ≠ yb ∧ (v.ownBlock = some k ∨ w.heap.size ≤ k)) := by
  have h12 : ¬ (nodes < 1 ∨ 32 < nodes) := by intro hc; unfold AR.tNewE at he; rw [if_pos hc] at he; omega
  have hr : A.takeE nodes = 0 := by unfold AR.tNewE at he; rwa [if_neg h12] at he
  have h1 : ¬ nodes < 1 := by omega
  have h2 : ¬ 32 < nodes := by omega
  have d1 : decide (nodes < 1) = false := by simp; omega
  have d2 : decide (32 < nodes) = false := by simp; omega
  have hn : A.takeN nodes = (A.taken : Int) + 1 := by unfold AR.takeN; rw [if_pos hr]
  have hT := rTake_any h nodes
  rw [hr, hn] at hT
  have HT := Lib.hid hT
  have hle := h.le
  have hroom := h.room
  have hrb := h.box.lt
  clear h he hr hT hn h12
  go_enter Try.func33, Try.ntmps33
  go_wp2_with fail
  refine HT.out.mono ?_
  rintro e w1 ⟨rfl, v', hA', hF, hv⟩
  have hsz := hF.size
  have HF := Lib.hid hF
  have HA := Lib.hid hA'
  have HV := Lib.hid hv
  clear hA' hF hv
  go_wp2
  go_ret2
  refine ⟨w1.heap.size, v', rfl, hsz, ?_, ?_, HF.out.alloc _, fun k hk => ⟨?_, HV.out k hk⟩⟩
  · have hnew := HAt.new w1 #[.pointer (some ⟨rb, 0, none⟩), .int .i64 ((A.taken : Int) + 1), .int .i64 nodes] 64
    refine { box := ?_, first1 := by omega, first2 := by omega, slots2 := by omega }
    have e1 : ((nodes.toNat : Nat) : Int) = nodes := by omega
    rw [e1]
    simpa using hnew
  · exact { HA.out with box := HA.out.box.alloc _, row := HA.out.row.frm ((Frm.refl [] _).alloc _) (by simp) }
  · have := own_lt HA.out.row k hk
    omega

end Go.Proofs.Ytakhhbemnodahaa
