/- The contracts of the reference's gauge. -/
import Derived.Test.YtakhhbemnodahaaGauge
import Derived.Test.YtakhhbemnodahaaRefTake
import Derived.Test.YtakhhbemnodahaaRefLoad
import Derived.Test.YtakhhbemnodahaaRefAdd
import Derived.Test.YtakhhbemnodahaaQuietTail
namespace Go.Proofs.Ytakhhbemnodahaa
open Go.RowKit

structure RgAt (w : World) (yb rb : Nat) (first nodes : Nat) : Prop where
  box : HAt w yb [.pointer (some ⟨rb, 0, none⟩), .int .i64 first, .int .i64 nodes] 49
  first1 : 1 ≤ first
  first2 : first ≤ 5000
  nodes2 : nodes ≤ 32
theorem RgAt.frm {w w' : World} {gb ab first nodes : Nat} (h : RgAt w gb ab first nodes) {S : List Nat} (hf : Frm S w w') (h1 : gb ∉ S) : RgAt w' gb ab first nodes :=
  { h with box := h.box.frm hf h1 }

theorem gWord_bd (first nodes : Nat) (k : Int) (h1 : 1 ≤ first) (h2 : first ≤ 5000) (h3 : nodes ≤ 32) : 0 ≤ gWord first nodes k ∧ gWord first nodes k ≤ 6000 := by
  unfold gWord
  cases hk : gHas nodes k with
  | true => unfold gHas at hk; simp at hk; simp; omega
  | false => simp
theorem own_lt {w : World} {base : Nat} {v : Value} {zs : List Int} (h : Own w base v zs) : ∀ k, v.ownBlock = some k → k < w.heap.size := by
  obtain ⟨h1, h2⟩ := h
  rcases h2 with ⟨rfl, h2⟩ | ⟨g, cap, cur, rfl, hg, hh, r⟩
  · intro k hk; simp [Value.ownBlock] at hk
  · intro k hk
    have : g = k := by simpa [Value.ownBlock] using hk
    subst this
    exact (Array.getElem?_eq_some_iff.1 hh).1

theorem rgWord_any {w : World} {yb rb first nodes : Nat} (h : RgAt w yb rb first nodes) (k : Int) : Calls Try.prog 29 #[.pointer (some ⟨yb, 0, none⟩), .int .i64 k] w fun e w' => e = .returned (.int .i64 (gWord first nodes k)) ∧ w = w' := by
  have c1 := h.box.cell (i := 1) rfl
  have c2 := h.box.cell (i := 2) rfl
  have h1 := h.first1
  have h2 := h.first2
  have h3 := h.nodes2
  clear h
  by_cases hneg : k < 0
  · have hr : gWord first nodes k = 0 := by unfold gWord gHas; rw [if_neg (by simp; omega)]
    rw [hr]
    clear hr
    go_enter Try.func29, Try.ntmps29
    go_wp2
    go_ret
    exact ⟨rfl, rfl⟩
  · have d1 : decide (k < 0) = false := by simp; omega
    by_cases hge : (nodes : Int) ≤ k
    · have hr : gWord first nodes k = 0 := by unfold gWord gHas; rw [if_neg (by simp; omega)]
      rw [hr]
      have d2 : decide ((nodes : Int) ≤ k) = true := by simpa using hge
      clear hr
      go_enter Try.func29, Try.ntmps29
      go_wp2
      go_ret
      exact ⟨rfl, rfl⟩
    · have hr : gWord first nodes k = (first : Int) + 2 * k := by unfold gWord gHas; rw [if_pos (by simp; omega)]
      rw [hr]
      have d2 : decide ((nodes : Int) ≤ k) = false := by simp; omega
      have hk1 : 0 ≤ k := by omega
      have hk2 : k ≤ 40 := by omega
      clear hr
      go_enter Try.func29, Try.ntmps29
      go_wp2
      go_ret
      exact ⟨rfl, rfl⟩

theorem rgEnter_any {w : World} {yb rb first nodes : Nat} {v : Value} {A : AR} (h : RgAt w yb rb first nodes) (hA : RfAt w rb v A) (k : Int) :
    Calls Try.prog 20 #[.pointer (some ⟨yb, 0, none⟩), .int .i64 k] w fun e w' => e = .returned (.tuple #[]) ∧ RfAt w' rb v (A.gAdd first nodes k 0) ∧ Frm (rb :: vb v) w w' := by
  have c0 := h.box.cell (i := 0) rfl
  have h1 := h.first1
  have h2 := h.first2
  have h3 := h.nodes2
  have hw := gWord_bd first nodes k h1 h2 h3
  cases hk : gHas nodes k with
  | true =>
    have hp : 0 < gWord first nodes k := by unfold gWord; rw [hk]; unfold gHas at hk; simp at hk; simp; omega
    have hg : A.gAdd first nodes k 0 = A.add (gWord first nodes k) 1 := by unfold AR.gAdd gWord; rw [hk]; simp only [if_true, Int.add_zero]
    rw [hg]
    have HW := Lib.hid (fun n => rgWord_any (h.frm (S := []) ((Frm.refl _ _).drew n) (by simp)) k)
    have HW0 := Lib.hid (rgWord_any h k)
    have HAdd := Lib.hid (fun n => rAdd_any (hA.frm (S := []) ((Frm.refl _ _).drew n) (by simp)) (gWord first nodes k) 1)
    clear h hA hk hg
    obtain ⟨b1, b2⟩ := hw
    generalize gWord first nodes k = q at *
    go_enter Try.func20, Try.ntmps20
    go_wp2_with fail
    refine HW0.out.mono ?_
    rintro e w' ⟨rfl, rfl⟩
    go_wp2_with fail
    refine wp_region_quiet_tail 7 (by kernel_rfl) (by kernel_rfl) ?_
    simp only [List.take_succ_cons, List.take_zero, List.drop_succ_cons, List.drop_zero]
    repeat (quiet_step (exact Calls.quiet_of ((HW.out _).mono (fun e w' h => ⟨h.1, 0, h.2.symm⟩))))
    refine wpQuiet_nil ?_
    rintro _ ⟨nq, rfl⟩
    go_wp2_with fail
    refine (HAdd.out nq).mono ?_
    rintro e w' ⟨rfl, hA', hF⟩
    have HA := Lib.hid hA'
    have HF := Lib.hid (((Frm.refl _ w).drew nq).trans hF)
    clear hA' hF
    go_wp2
    go_end0
    exact ⟨rfl, HA.out, HF.out⟩
  | false =>
    have hp : gWord first nodes k = 0 := by unfold gWord; rw [hk]; rfl
    have hg : A.gAdd first nodes k 0 = A := by unfold AR.gAdd; rw [hk]; rfl
    rw [hg]
    have hW := rgWord_any h k
    rw [hp] at hW
    have HW := Lib.hid hW
    have HA := Lib.hid hA
    clear h hA hk hg hp hW hw
    go_enter Try.func20, Try.ntmps20
    go_wp2_with fail
    refine HW.out.mono ?_
    rintro e w' ⟨rfl, rfl⟩
    go_wp2
    go_end0
    exact ⟨rfl, HA.out, Frm.refl _ _⟩

theorem rgExit_any {w : World} {yb rb first nodes : Nat} {v : Value} {A : AR} (h : RgAt w yb rb first nodes) (hA : RfAt w rb v A) (k : Int) :
    Calls Try.prog 22 #[.pointer (some ⟨yb, 0, none⟩), .int .i64 k] w fun e w' => e = .returned (.tuple #[]) ∧ RfAt w' rb v (A.gAdd first nodes k 1) ∧ Frm (rb :: vb v) w w' := by
  have c0 := h.box.cell (i := 0) rfl
  have h1 := h.first1
  have h2 := h.first2
  have h3 := h.nodes2
  have hw := gWord_bd first nodes k h1 h2 h3
  cases hk : gHas nodes k with
  | true =>
    have hp : 0 < gWord first nodes k := by unfold gWord; rw [hk]; unfold gHas at hk; simp at hk; simp; omega
    have hg : A.gAdd first nodes k 1 = A.add (gWord first nodes k + 1) 1 := by unfold AR.gAdd gWord; rw [hk]; simp only [if_true]
    rw [hg]
    have HW := Lib.hid (fun n => rgWord_any (h.frm (S := []) ((Frm.refl _ _).drew n) (by simp)) k)
    have HW0 := Lib.hid (rgWord_any h k)
    have HAdd := Lib.hid (fun n => rAdd_any (hA.frm (S := []) ((Frm.refl _ _).drew n) (by simp)) (gWord first nodes k + 1) 1)
    clear h hA hk hg
    obtain ⟨b1, b2⟩ := hw
    generalize gWord first nodes k = q at *
    go_enter Try.func22, Try.ntmps22
    go_wp2_with fail
    refine HW0.out.mono ?_
    rintro e w' ⟨rfl, rfl⟩
    go_wp2_with fail
    refine wp_region_quiet_tail 8 (by kernel_rfl) (by kernel_rfl) ?_
    simp only [List.take_succ_cons, List.take_zero, List.drop_succ_cons, List.drop_zero]
    repeat (quiet_step (exact Calls.quiet_of ((HW.out _).mono (fun e w' h => ⟨h.1, 0, h.2.symm⟩))))
    refine wpQuiet_nil ?_
    rintro _ ⟨nq, rfl⟩
    go_wp2_with fail
    refine (HAdd.out nq).mono ?_
    rintro e w' ⟨rfl, hA', hF⟩
    have HA := Lib.hid hA'
    have HF := Lib.hid (((Frm.refl _ w).drew nq).trans hF)
    clear hA' hF
    go_wp2
    go_end0
    exact ⟨rfl, HA.out, HF.out⟩
  | false =>
    have hp : gWord first nodes k = 0 := by unfold gWord; rw [hk]; rfl
    have hg : A.gAdd first nodes k 1 = A := by unfold AR.gAdd; rw [hk]; rfl
    rw [hg]
    have hW := rgWord_any h k
    rw [hp] at hW
    have HW := Lib.hid hW
    have HA := Lib.hid hA
    clear h hA hk hg hp hW hw
    go_enter Try.func22, Try.ntmps22
    go_wp2_with fail
    refine HW.out.mono ?_
    rintro e w' ⟨rfl, rfl⟩
    go_wp2
    go_end0
    exact ⟨rfl, HA.out, Frm.refl _ _⟩

theorem rgIn_any {w : World} {yb rb first nodes : Nat} {v : Value} {A : AR} (h : RgAt w yb rb first nodes) (hA : RfAt w rb v A) (k : Int) :
    Calls Try.prog 18 #[.pointer (some ⟨yb, 0, none⟩), .int .i64 k] w fun e w' => e = .returned (.int .i64 (A.gGet first nodes k 0)) ∧ RfAt w' rb v (A.gLoad first nodes k 0) ∧ Frm (rb :: vb v) w w' := by
  have c0 := h.box.cell (i := 0) rfl
  have h1 := h.first1
  have h2 := h.first2
  have h3 := h.nodes2
  have hw := gWord_bd first nodes k h1 h2 h3
  cases hk : gHas nodes k with
  | true =>
    have hp : (gWord first nodes k == 0) = false := by unfold gWord; rw [hk]; unfold gHas at hk; simp at hk; simp; omega
    have hg : A.gLoad first nodes k 0 = A.load (gWord first nodes k) := by unfold AR.gLoad gWord; rw [hk]; simp only [if_true, Int.add_zero]
    have hg' : A.gGet first nodes k 0 = A.get (gWord first nodes k) := by unfold AR.gGet gWord; rw [hk]; simp only [if_true, Int.add_zero]
    rw [hg, hg']
    have HW := Lib.hid (fun n => rgWord_any (h.frm (S := []) ((Frm.refl _ _).drew n) (by simp)) k)
    have HW0 := Lib.hid (rgWord_any h k)
    have HL := Lib.hid (fun n => rLoad_any (hA.frm (S := []) ((Frm.refl _ _).drew n) (by simp)) (gWord first nodes k))
    clear h hA hk hg hg'
    obtain ⟨b1, b2⟩ := hw
    generalize gWord first nodes k = q at *
    go_enter Try.func18, Try.ntmps18
    go_wp2_with fail
    refine HW0.out.mono ?_
    rintro e w' ⟨rfl, rfl⟩
    go_wp2_with fail
    refine wp_region_quiet_tail 7 (by kernel_rfl) (by kernel_rfl) ?_
    simp only [List.take_succ_cons, List.take_zero, List.drop_succ_cons, List.drop_zero]
    repeat (quiet_step (exact Calls.quiet_of ((HW.out _).mono (fun e w' h => ⟨h.1, 0, h.2.symm⟩))))
    refine wpQuiet_nil ?_
    rintro _ ⟨nq, rfl⟩
    go_wp2_with fail
    refine (HL.out nq).mono ?_
    rintro e w' ⟨rfl, hA', hF⟩
    have HA := Lib.hid hA'
    have HF := Lib.hid (((Frm.refl _ w).drew nq).trans hF)
    clear hA' hF
    go_wp2
    go_ret
    exact ⟨rfl, HA.out, HF.out⟩
  | false =>
    have hp : gWord first nodes k = 0 := by unfold gWord; rw [hk]; rfl
    have hg : A.gLoad first nodes k 0 = A := by unfold AR.gLoad; rw [hk]; rfl
    have hg' : A.gGet first nodes k 0 = 0 := by unfold AR.gGet; rw [hk]; rfl
    rw [hg, hg']
    have hW := rgWord_any h k
    rw [hp] at hW
    have HW := Lib.hid hW
    have HA := Lib.hid hA
    clear h hA hk hg hg' hp hW hw
    go_enter Try.func18, Try.ntmps18
    go_wp2_with fail
    refine HW.out.mono ?_
    rintro e w' ⟨rfl, rfl⟩
    go_wp2
    go_ret
    exact ⟨rfl, HA.out, Frm.refl _ _⟩

theorem rgOut_any {w : World} {yb rb first nodes : Nat} {v : Value} {A : AR} (h : RgAt w yb rb first nodes) (hA : RfAt w rb v A) (k : Int) :
    Calls Try.prog 24 #[.pointer (some ⟨yb, 0, none⟩), .int .i64 k] w fun e w' => e = .returned (.int .i64 (A.gGet first nodes k 1)) ∧ RfAt w' rb v (A.gLoad first nodes k 1) ∧ Frm (rb :: vb v) w w' := by
  have c0 := h.box.cell (i := 0) rfl
  have h1 := h.first1
  have h2 := h.first2
  have h3 := h.nodes2
  have hw := gWord_bd first nodes k h1 h2 h3
  cases hk : gHas nodes k with
  | true =>
    have hp : (gWord first nodes k == 0) = false := by unfold gWord; rw [hk]; unfold gHas at hk; simp at hk; simp; omega
    have hg : A.gLoad first nodes k 1 = A.load (gWord first nodes k + 1) := by unfold AR.gLoad gWord; rw [hk]; simp only [if_true]
    have hg' : A.gGet first nodes k 1 = A.get (gWord first nodes k + 1) := by unfold AR.gGet gWord; rw [hk]; simp only [if_true]
    rw [hg, hg']
    have HW := Lib.hid (fun n => rgWord_any (h.frm (S := []) ((Frm.refl _ _).drew n) (by simp)) k)
    have HW0 := Lib.hid (rgWord_any h k)
    have HL := Lib.hid (fun n => rLoad_any (hA.frm (S := []) ((Frm.refl _ _).drew n) (by simp)) (gWord first nodes k + 1))
    clear h hA hk hg hg'
    obtain ⟨b1, b2⟩ := hw
    generalize gWord first nodes k = q at *
    go_enter Try.func24, Try.ntmps24
    go_wp2_with fail
    refine HW0.out.mono ?_
    rintro e w' ⟨rfl, rfl⟩
    go_wp2_with fail
    refine wp_region_quiet_tail 8 (by kernel_rfl) (by kernel_rfl) ?_
    simp only [List.take_succ_cons, List.take_zero, List.drop_succ_cons, List.drop_zero]
    repeat (quiet_step (exact Calls.quiet_of ((HW.out _).mono (fun e w' h => ⟨h.1, 0, h.2.symm⟩))))
    refine wpQuiet_nil ?_
    rintro _ ⟨nq, rfl⟩
    go_wp2_with fail
    refine (HL.out nq).mono ?_
    rintro e w' ⟨rfl, hA', hF⟩
    have HA := Lib.hid hA'
    have HF := Lib.hid (((Frm.refl _ w).drew nq).trans hF)
    clear hA' hF
    go_wp2
    go_ret
    exact ⟨rfl, HA.out, HF.out⟩
  | false =>
    have hp : gWord first nodes k = 0 := by unfold gWord; rw [hk]; rfl
    have hg : A.gLoad first nodes k 1 = A := by unfold AR.gLoad; rw [hk]; rfl
    have hg' : A.gGet first nodes k 1 = 0 := by unfold AR.gGet; rw [hk]; rfl
    rw [hg, hg']
    have hW := rgWord_any h k
    rw [hp] at hW
    have HW := Lib.hid hW
    have HA := Lib.hid hA
    clear h hA hk hg hg' hp hW hw
    go_enter Try.func24, Try.ntmps24
    go_wp2_with fail
    refine HW.out.mono ?_
    rintro e w' ⟨rfl, rfl⟩
    go_wp2
    go_ret
    exact ⟨rfl, HA.out, Frm.refl _ _⟩

theorem rgNew_bad {w : World} {rb : Nat} {v : Value} {A : AR} (h : RfAt w rb v A) (nodes : Int) (he : A.gNewE nodes ≠ 0) :
    Calls Try.prog 16 #[.pointer (some ⟨rb, 0, none⟩), .int .i64 nodes] w fun e w' => e = .returned (.tuple #[.pointer none, .int .i64 (A.gNewE nodes)]) ∧ Frm (rb :: vb v) w w' := by
  by_cases h1 : nodes < 1
  · have hr : A.gNewE nodes = 1 := by unfold AR.gNewE; rw [if_pos (.inl h1)]
    rw [hr]
    clear h he hr
    go_enter Try.func16, Try.ntmps16
    go_wp2
    go_ret2
    exact ⟨rfl, Frm.refl _ _⟩
  · by_cases h2 : 32 < nodes
    · have hr : A.gNewE nodes = 1 := by unfold AR.gNewE; rw [if_pos (.inr h2)]
      rw [hr]
      have d1 : decide (nodes < 1) = false := by simp; omega
      have d2 : decide (32 < nodes) = true := by simp; omega
      clear h he hr h1 h2
      go_enter Try.func16, Try.ntmps16
      go_wp2
      go_ret2
      exact ⟨rfl, Frm.refl _ _⟩
    · have hr : A.gNewE nodes = A.takeE (2 * nodes) := by unfold AR.gNewE; rw [if_neg (by omega)]
      rw [hr] at he ⊢
      have HT := Lib.hid (rTake_any h (2 * nodes))
      have d1 : decide (nodes < 1) = false := by simp; omega
      have d2 : decide (32 < nodes) = false := by simp; omega
      have d3 : (A.takeE (2 * nodes) == 0) = false := by simpa using he
      have d4 : (A.takeE (2 * nodes) != 0) = true := by simpa using he
      clear h he hr
      go_enter Try.func16, Try.ntmps16
      go_wp2_with fail
      refine HT.out.mono ?_
      rintro e w' ⟨rfl, v', hA', hF, hv⟩
      have HF := Lib.hid hF
      clear hA' hF hv
      go_wp2
      go_ret2
      exact ⟨rfl, HF.out⟩

theorem rgNew_ok {w : World} {rb : Nat} {v : Value} {A : AR} (h : RfAt w rb v A) (nodes : Int) (he : A.gNewE nodes = 0) :
    Calls Try.prog 16 #[.pointer (some ⟨rb, 0, none⟩), .int .i64 nodes] w fun e w' => ∃ yb v', e = .returned (.tuple #[.pointer (some ⟨yb, 0, none⟩), .int .i64 0]) ∧ w.heap.size ≤ yb ∧
      RgAt w' yb rb (A.taken + 1) nodes.toNat ∧ RfAt w' rb v' (A.take (2 * nodes)) ∧ Frm (rb :: vb v) w w' ∧ (∀ k, v'.ownBlock = some k → k ≠ yb ∧ (v.ownBlock = some k ∨ w.heap.size ≤ k)) := by
  have h12 : ¬ (nodes < 1 ∨ 32 < nodes) := by intro hc; unfold AR.gNewE at he; rw [if_pos hc] at he; omega
  have hr : A.takeE (2 * nodes) = 0 := by unfold AR.gNewE at he; rwa [if_neg h12] at he
  have h1 : ¬ nodes < 1 := by omega
  have h2 : ¬ 32 < nodes := by omega
  have d1 : decide (nodes < 1) = false := by simp; omega
  have d2 : decide (32 < nodes) = false := by simp; omega
  have hn : A.takeN (2 * nodes) = (A.taken : Int) + 1 := by unfold AR.takeN; rw [if_pos hr]
  have hT := rTake_any h (2 * nodes)
  rw [hr, hn] at hT
  have HT := Lib.hid hT
  have hle := h.le
  have hroom := h.room
  have hrb := h.box.lt
  clear h he hr hT hn h12
  go_enter Try.func16, Try.ntmps16
  go_wp2_with fail
  refine HT.out.mono ?_
  rintro e w1 ⟨rfl, v', hA', hF, hv⟩
  have hsz := hF.size
  have HF := Lib.hid hF
  have HA := Lib.hid hA'
  have HV := Lib.hid hv
  clear hA' hF hv
  go_wp2
  go_ret2
  refine ⟨w1.heap.size, v', rfl, hsz, ?_, ?_, HF.out.alloc _, fun k hk => ⟨?_, HV.out k hk⟩⟩
  · have hnew := HAt.new w1 #[.pointer (some ⟨rb, 0, none⟩), .int .i64 ((A.taken : Int) + 1), .int .i64 nodes] 49
    refine { box := ?_, first1 := by omega, first2 := by omega, nodes2 := by omega }
    have e1 : ((nodes.toNat : Nat) : Int) = nodes := by omega
    rw [e1]
    simpa using hnew
  · exact { HA.out with box := HA.out.box.alloc _, row := HA.out.row.frm ((Frm.refl [] _).alloc _) (by simp) }
  · have := own_lt HA.out.row k hk
    omega

end Go.Proofs.Ytakhhbemnodahaa
