/- The contracts of malthus: Ask, Leave, a step of any number, and what the law does with a lock. -/
import Derived.Test.YtacogelejffbhaaMalOps
namespace Go.Proofs.Ytacogelejffbhaa
open Go.RowKit
section
variable {w w' : World} {lb sb bb ab wb tail first n : Nat} {bud : Int} {A : AR} {B : BK} {d : Int} {S : Nat → Nat → Int} {m : MS}
theorem mbeg_no (h : MAt w lb sb bb ab wb tail first n bud A B d S) (i fr to : Int) (hno : ¬ (sHas n i = true ∧ S i.toNat 0 = fr)) : Calls Try.prog 53 #[.pointer (some ⟨lb, 0, none⟩), .int .i64 i, .int .i64 fr, .int .i64 to] w fun e w' => e = .returned (.bool false) ∧ w = w' := by
  have HT := Lib.hid (mThreads_any h)
  by_cases hneg : i < 0
  · have d1 : decide (i < 0) = true := by simpa using hneg
    clear h hno
    go_enter Try.func53, Try.ntmps53
    go_wp2
    go_ret
    exact ⟨rfl, rfl⟩
  have d1 : decide (i < 0) = false := by simpa using hneg
  by_cases hbig : (n : Int) ≤ i
  · have d2 : decide ((n : Int) ≤ i) = true := by simpa using hbig
    clear h hno
    go_enter Try.func53, Try.ntmps53
    go_wp2_with fail
    refine HT.out.mono ?_
    rintro e w' ⟨rfl, rfl⟩
    go_wp2
    go_ret
    exact ⟨rfl, rfl⟩
  obtain ⟨j, rfl⟩ : ∃ j : Nat, i = j := ⟨i.toNat, by omega⟩
  have hj : j < n := by omega
  have d2 : decide ((n : Int) ≤ j) = false := by simp; omega
  have d3 : decide (n ≤ j) = false := by simp; omega
  have l1 : (j : Int) < n := by omega
  have c0 := h.p0 hj
  have c5 := h.box.cell (i := 5) rfl
  have hn := h.n32
  have hne : ¬ S j 0 = fr := fun e => hno ⟨by unfold sHas; simp; omega, by simpa using e⟩
  have d4 : (S j 0 != fr) = true := by simpa using hne
  have d5 : (S j 0 == fr) = false := by simpa using hne
  clear h hno hne hneg hbig
  generalize S j 0 = p at *
  go_enter Try.func53, Try.ntmps53
  go_wp2_with fail
  refine HT.out.mono ?_
  rintro e w' ⟨rfl, rfl⟩
  go_wp2
  go_ret
  exact ⟨rfl, rfl⟩
theorem mbeg_yes (h : MAt w lb sb bb ab wb tail first n bud A B d S) {j : Nat} (hj : j < n) (fr to : Int) (h0 : S j 0 = fr) : Calls Try.prog 53 #[.pointer (some ⟨lb, 0, none⟩), .int .i64 j, .int .i64 fr, .int .i64 to] w fun e w' => e = .returned (.bool true) ∧
    MAt w' lb sb bb ab wb tail first n bud A B d (spPut S j 0 to) ∧ Frm [sb] w w' := by
  have HT := Lib.hid (mThreads_any h)
  have d1 : decide ((j : Int) < 0) = false := by simp
  have d2 : decide ((n : Int) ≤ j) = false := by simp; omega
  have d3 : decide (n ≤ j) = false := by simp; omega
  have l1 : (j : Int) < n := by omega
  have c0 : w.cell? ⟨sb, j * 4, none⟩ = some (.int .i64 fr) := by rw [← h0]; exact h.p0 hj
  have c5 := h.box.cell (i := 5) rfl
  have hz := h.row.frozen
  have hn := h.n32
  have HM := Lib.hid (h.put j (t := 0) (by omega) to)
  clear h h0 hj
  go_enter Try.func53, Try.ntmps53
  go_wp2_with fail
  refine HT.out.mono ?_
  rintro e w' ⟨rfl, rfl⟩
  go_wp2
  go_ret
  exact ⟨rfl, HM.out, (Frm.refl [sb] w).set ⟨sb, j * 4, none⟩ (.int .i64 to) (.inl (by simp))⟩

/-- may a thread that is at a step go on at another one? -/
def mBegOk (n : Nat) (m : MS) (i fr : Int) : Bool := sHas n i && (m.S i.toNat 0 == fr)
def mBeg (n : Nat) (m : MS) (i fr to : Int) : MS := if mBegOk n m i fr then { m with S := spPut m.S i.toNat 0 to } else m
theorem mbeg_any (h : MLk w lb sb bb ab wb tail first n bud m) (i fr to : Int) : Calls Try.prog 53 #[.pointer (some ⟨lb, 0, none⟩), .int .i64 i, .int .i64 fr, .int .i64 to] w fun e w' => e = .returned (.bool (mBegOk n m i fr)) ∧
    MLk w' lb sb bb ab wb tail first n bud (mBeg n m i fr to) ∧ Frm [sb] w w' := by
  by_cases hb : sHas n i = true ∧ m.S i.toNat 0 = fr
  · have hok : mBegOk n m i fr = true := by unfold mBegOk; rw [hb.1, hb.2]; simp
    have hi' : 0 ≤ i ∧ i < (n : Int) := by have := hb.1; unfold sHas at this; simpa using this
    obtain ⟨j, rfl⟩ := Int.eq_ofNat_of_zero_le hi'.1
    have hm : mBeg n m j fr to = { m with S := spPut m.S j 0 to } := by unfold mBeg; rw [if_pos hok]; rfl
    rw [hok, hm]
    exact mbeg_yes h (by omega) fr to (by simpa using hb.2)
  · have hok : mBegOk n m i fr = false := by unfold mBegOk; simp; exact fun e => by simpa using fun g => hb ⟨e, g⟩
    have hm : mBeg n m i fr to = m := by unfold mBeg; rw [hok]; rfl
    rw [hok, hm]
    exact (mbeg_no h i fr to hb).mono fun e w' ⟨h1, h2⟩ => by subst h2; exact ⟨h1, h, Frm.refl _ _⟩
theorem mAsk_any (h : MLk w lb sb bb ab wb tail first n bud m) (i : Int) : Calls Try.prog 45 #[.pointer (some ⟨lb, 0, none⟩), .int .i64 i] w fun e w' => e = .returned (.bool (mBegOk n m i 0)) ∧
    MLk w' lb sb bb ab wb tail first n bud (mBeg n m i 0 1) ∧ Frm [sb] w w' := by
  have HB := Lib.hid (mbeg_any h i 0 1)
  clear h
  go_enter Try.func45, Try.ntmps45
  go_wp2_with fail
  refine HB.out.mono ?_
  rintro e w' ⟨rfl, hM⟩
  have HM := Lib.hid hM
  clear hM
  go_wp2
  go_ret
  exact ⟨rfl, HM.out⟩
theorem mLeave_any (h : MLk w lb sb bb ab wb tail first n bud m) (i : Int) : Calls Try.prog 34 #[.pointer (some ⟨lb, 0, none⟩), .int .i64 i] w fun e w' => e = .returned (.bool (mBegOk n m i 10)) ∧
    MLk w' lb sb bb ab wb tail first n bud (mBeg n m i 10 11) ∧ Frm [sb] w w' := by
  have HB := Lib.hid (mbeg_any h i 10 11)
  clear h
  go_enter Try.func34, Try.ntmps34
  go_wp2_with fail
  refine HB.out.mono ?_
  rintro e w' ⟨rfl, hM⟩
  have HM := Lib.hid hM
  clear hM
  go_wp2
  go_ret
  exact ⟨rfl, HM.out⟩
/-- a step of a thread of any number -/
def mStepI (tail first n : Nat) (bud : Int) (m : MS) (i : Int) : MS := if sHas n i then mStep tail first n bud m i.toNat else m
def mStepIR (tail first n : Nat) (bud : Int) (m : MS) (i : Int) : Bool := if sHas n i then mStepR tail first n bud m i.toNat else false
theorem mStep_any (h : MLk w lb sb bb ab wb tail first n bud m) (i : Int) (hp : ∀ j, j < n → PcOk (m.S j 0)) : Calls Try.prog 33 #[.pointer (some ⟨lb, 0, none⟩), .int .i64 i] w fun e w' => e = .returned (.bool (mStepIR tail first n bud m i)) ∧
    MLk w' lb sb bb ab wb tail first n bud (mStepI tail first n bud m i) ∧ Frm [lb, sb, bb, ab, wb] w w' := by
  by_cases hb : sHas n i = true
  · have hi' : 0 ≤ i ∧ i < (n : Int) := by unfold sHas at hb; simpa using hb
    obtain ⟨j, rfl⟩ := Int.eq_ofNat_of_zero_le hi'.1
    have h1 : mStepI tail first n bud m j = mStep tail first n bud m j := if_pos hb
    have h2 : mStepIR tail first n bud m j = mStepR tail first n bud m j := if_pos hb
    rw [h1, h2]
    exact mStep_at h (by omega) (hp _ (by omega))
  · have h1 : mStepI tail first n bud m i = m := if_neg hb
    have h2 : mStepIR tail first n bud m i = false := if_neg hb
    rw [h1, h2]
    exact (m_idle h i (.inl (by simpa using hb))).mono fun e w' ⟨h1, h2⟩ => ⟨h1, h.frm h2 (by simp), h2.mono (by simp)⟩

/-- an act: 0 step, 1 ask, 2 leave -/
def mAct (tail first n : Nat) (bud : Int) (m : MS) (kind i : Int) : MS := if kind = 0 then mStepI tail first n bud m i else if kind = 1 then mBeg n m i 0 1 else if kind = 2 then mBeg n m i 10 11 else m
theorem mDo_any (h : MLk w lb sb bb ab wb tail first n bud m) (kind i : Int) (hp : ∀ j, j < n → PcOk (m.S j 0)) : Calls Try.prog 31 #[.pointer (some ⟨lb, 0, none⟩), .agg #[.int .i64 kind, .int .i64 i]] w fun e w' => (∃ b, e = .returned (.bool b)) ∧
    MLk w' lb sb bb ab wb tail first n bud (mAct tail first n bud m kind i) ∧ Frm [lb, sb, bb, ab, wb] w w' := by
  have hf : Frm [] w (w.alloc (.cells #[.int .i64 kind, .int .i64 i] 47)) := (Frm.refl _ _).alloc _
  have hL := h.frm hf (by simp)
  have HF := Lib.hid (hf.mono (S' := [lb, sb, bb, ab, wb]) (by simp))
  by_cases k0 : kind = 0
  · subst k0
    have e1 : mAct tail first n bud m 0 i = mStepI tail first n bud m i := if_pos rfl
    rw [e1]
    have HC := Lib.hid (mStep_any hL i hp)
    clear h hL hf hp e1
    go_enter Try.func31, Try.ntmps31
    go_wp2_with fail
    refine HC.out.mono ?_
    rintro e w' ⟨rfl, hL, hF⟩
    have HQ := Lib.hid (And.intro hL (HF.out.trans hF))
    clear hL hF
    go_wp2
    go_ret
    exact ⟨⟨_, rfl⟩, HQ.out⟩
  have e0 : (kind == 0) = false := by simpa using k0
  by_cases k1 : kind = 1
  · subst k1
    have e1 : mAct tail first n bud m 1 i = mBeg n m i 0 1 := by unfold mAct; rfl
    rw [e1]
    have HC := Lib.hid (mAsk_any hL i)
    clear h hL hf hp e1
    go_enter Try.func31, Try.ntmps31
    go_wp2_with fail
    refine HC.out.mono ?_
    rintro e w' ⟨rfl, hL, hF⟩
    have HQ := Lib.hid (And.intro hL (HF.out.trans (hF.mono (by simp))))
    clear hL hF
    go_wp2
    go_ret
    exact ⟨⟨_, rfl⟩, HQ.out⟩
  have e1 : (kind == 1) = false := by simpa using k1
  by_cases k2 : kind = 2
  · subst k2
    have e3 : mAct tail first n bud m 2 i = mBeg n m i 10 11 := by unfold mAct; rfl
    rw [e3]
    have HC := Lib.hid (mLeave_any hL i)
    clear h hL hf hp e3
    go_enter Try.func31, Try.ntmps31
    go_wp2_with fail
    refine HC.out.mono ?_
    rintro e w' ⟨rfl, hL, hF⟩
    have HQ := Lib.hid (And.intro hL (HF.out.trans (hF.mono (by simp))))
    clear hL hF
    go_wp2
    go_ret
    exact ⟨⟨_, rfl⟩, HQ.out⟩
  have e2 : (kind == 2) = false := by simpa using k2
  have e3 : mAct tail first n bud m kind i = m := by unfold mAct; rw [if_neg k0, if_neg k1, if_neg k2]
  rw [e3]
  have HQ := Lib.hid (And.intro hL HF.out)
  clear h hL hf hp e3 k0 k1 k2
  go_enter Try.func31, Try.ntmps31
  go_wp2
  go_ret
  exact ⟨⟨_, rfl⟩, HQ.out⟩
end
end Go.Proofs.Ytacogelejffbhaa
