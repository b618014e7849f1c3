/- The malthus lock's state as a whole, and a step of any kind. (Printed by gen_malops.py.) -/
import Derived.Test.YtacogelejffbhaaMalStep
namespace Go.Proofs.Ytacogelejffbhaa
open Go.RowKit

/-- the lock's state: the words, the bench, who is behind the one that is put aside, the spots -/
structure MS where
  A : AR
  B : BK
  d : Int
  S : Nat → Nat → Int
set_option linter.unusedVariables false in
def mGo1 (tail first n : Nat) (bud : Int) (m : MS) (j : Nat) : MS × Int := (⟨m.A.store (mNext tail ((j : Int) + 1)) 0, m.B, m.d, m.S⟩, 2)
set_option linter.unusedVariables false in
def mGo2 (tail first n : Nat) (bud : Int) (m : MS) (j : Nat) : MS × Int := (⟨m.A.store (mWait tail ((j : Int) + 1)) 1, m.B, m.d, m.S⟩, 3)
set_option linter.unusedVariables false in
def mGo3 (tail first n : Nat) (bud : Int) (m : MS) (j : Nat) : MS × Int := (if m.A.get tail = 0 then (⟨m.A.swap tail ((j : Int) + 1), m.B, m.d, spPut m.S j 1 (m.A.get tail)⟩, 10) else (⟨m.A.swap tail ((j : Int) + 1), m.B, m.d, spPut m.S j 1 (m.A.get tail)⟩, 4))
set_option linter.unusedVariables false in
def mGo4 (tail first n : Nat) (bud : Int) (m : MS) (j : Nat) : MS × Int := (⟨m.A.store (mNext tail (m.S j 1)) ((j : Int) + 1), m.B, m.d, m.S⟩, 5)
set_option linter.unusedVariables false in
def mGo5 (tail first n : Nat) (bud : Int) (m : MS) (j : Nat) : MS × Int := (if m.A.get (mWait tail ((j : Int) + 1)) = 0 then (⟨m.A.load (mWait tail ((j : Int) + 1)), m.B, m.d, m.S⟩, 10) else (⟨m.A.load (mWait tail ((j : Int) + 1)), m.B, m.d, m.S⟩, 5))
set_option linter.unusedVariables false in
def mGo11 (tail first n : Nat) (bud : Int) (m : MS) (j : Nat) : MS × Int := (⟨m.A.add (tail + 1) 1, m.B, m.d, spPut m.S j 3 (m.A.addRes (tail + 1) 1)⟩, 12)
set_option linter.unusedVariables false in
def mGo12 (tail first n : Nat) (bud : Int) (m : MS) (j : Nat) : MS × Int := (if ¬ m.A.get (mNext tail ((j : Int) + 1)) = 0 ∧ ¬ (m.S j 3).tmod (bud + 1) = 0 then (⟨m.A.load (mNext tail ((j : Int) + 1)), m.B, m.d, spPut m.S j 1 (m.A.get (mNext tail ((j : Int) + 1)))⟩, 21) else (⟨m.A.load (mNext tail ((j : Int) + 1)), bTakeB m.B, m.d, spPut m.S j 1 (m.A.get (mNext tail ((j : Int) + 1)))⟩, 13))
set_option linter.unusedVariables false in
def mGo13 (tail first n : Nat) (bud : Int) (m : MS) (j : Nat) : MS × Int := (if bStepR first m.A m.B = true then (⟨bStepA first m.A m.B, bStepB first m.A m.B, m.d, spPut m.S j 2 (bStepB first m.A m.B).got⟩, mTk (bStepB first m.A m.B).got (m.S j 1)) else (⟨bStepA first m.A m.B, bStepB first m.A m.B, m.d, m.S⟩, 13))
set_option linter.unusedVariables false in
def mGo14 (tail first n : Nat) (bud : Int) (m : MS) (j : Nat) : MS × Int := (⟨m.A.store (mNext tail (m.S j 2)) (m.S j 1), m.B, m.d, m.S⟩, 18)
set_option linter.unusedVariables false in
def mGo15 (tail first n : Nat) (bud : Int) (m : MS) (j : Nat) : MS × Int := (⟨m.A.store (mNext tail (m.S j 2)) 0, m.B, m.d, m.S⟩, 16)
set_option linter.unusedVariables false in
def mGo16 (tail first n : Nat) (bud : Int) (m : MS) (j : Nat) : MS × Int := (if m.A.casOk tail ((j : Int) + 1) = true then (⟨m.A.cas tail ((j : Int) + 1) (m.S j 2), m.B, m.d, m.S⟩, 18) else (⟨m.A.cas tail ((j : Int) + 1) (m.S j 2), m.B, m.d, m.S⟩, 17))
set_option linter.unusedVariables false in
def mGo17 (tail first n : Nat) (bud : Int) (m : MS) (j : Nat) : MS × Int := (if m.A.get (mNext tail ((j : Int) + 1)) = 0 then (⟨m.A.load (mNext tail ((j : Int) + 1)), m.B, m.d, spPut m.S j 1 (m.A.get (mNext tail ((j : Int) + 1)))⟩, 17) else (⟨m.A.load (mNext tail ((j : Int) + 1)), m.B, m.d, spPut m.S j 1 (m.A.get (mNext tail ((j : Int) + 1)))⟩, 14))
set_option linter.unusedVariables false in
def mGo18 (tail first n : Nat) (bud : Int) (m : MS) (j : Nat) : MS × Int := (⟨m.A.store (mWait tail (m.S j 2)) 0, m.B, m.d, m.S⟩, 0)
set_option linter.unusedVariables false in
def mGo19 (tail first n : Nat) (bud : Int) (m : MS) (j : Nat) : MS × Int := (if m.A.casOk tail ((j : Int) + 1) = true then (⟨m.A.cas tail ((j : Int) + 1) 0, m.B, m.d, m.S⟩, 0) else (⟨m.A.cas tail ((j : Int) + 1) 0, m.B, m.d, m.S⟩, 20))
set_option linter.unusedVariables false in
def mGo20 (tail first n : Nat) (bud : Int) (m : MS) (j : Nat) : MS × Int := (if m.A.get (mNext tail ((j : Int) + 1)) = 0 then (⟨m.A.load (mNext tail ((j : Int) + 1)), m.B, m.d, spPut m.S j 1 (m.A.get (mNext tail ((j : Int) + 1)))⟩, 20) else (⟨m.A.load (mNext tail ((j : Int) + 1)), m.B, m.d, spPut m.S j 1 (m.A.get (mNext tail ((j : Int) + 1)))⟩, 21))
set_option linter.unusedVariables false in
def mGo21 (tail first n : Nat) (bud : Int) (m : MS) (j : Nat) : MS × Int := (if m.A.get (mNext tail (m.S j 1)) = 0 then (⟨m.A.load (mNext tail (m.S j 1)), m.B, 0, m.S⟩, 24) else (⟨m.A.load (mNext tail (m.S j 1)), bPutB n m.B (m.S j 1), m.A.get (mNext tail (m.S j 1)), m.S⟩, 22))
set_option linter.unusedVariables false in
def mGo22 (tail first n : Nat) (bud : Int) (m : MS) (j : Nat) : MS × Int := (if bStepR first m.A m.B = true then (⟨bStepA first m.A m.B, bStepB first m.A m.B, m.d, m.S⟩, 23) else (⟨bStepA first m.A m.B, bStepB first m.A m.B, m.d, m.S⟩, 22))
set_option linter.unusedVariables false in
def mGo23 (tail first n : Nat) (bud : Int) (m : MS) (j : Nat) : MS × Int := (⟨m.A.store (mWait tail m.d) 0, m.B, m.d, m.S⟩, 0)
set_option linter.unusedVariables false in
def mGo24 (tail first n : Nat) (bud : Int) (m : MS) (j : Nat) : MS × Int := (⟨m.A.store (mWait tail (m.S j 1)) 0, m.B, m.d, m.S⟩, 0)
/-- what a thread's step comes to, ahead of its being noted where the thread is then -/
def mGo (tail first n : Nat) (bud : Int) (m : MS) (j : Nat) : MS × Int :=
  if m.S j 0 = 1 then mGo1 tail first n bud m j else
  if m.S j 0 = 2 then mGo2 tail first n bud m j else
  if m.S j 0 = 3 then mGo3 tail first n bud m j else
  if m.S j 0 = 4 then mGo4 tail first n bud m j else
  if m.S j 0 = 5 then mGo5 tail first n bud m j else
  if m.S j 0 = 11 then mGo11 tail first n bud m j else
  if m.S j 0 = 12 then mGo12 tail first n bud m j else
  if m.S j 0 = 13 then mGo13 tail first n bud m j else
  if m.S j 0 = 14 then mGo14 tail first n bud m j else
  if m.S j 0 = 15 then mGo15 tail first n bud m j else
  if m.S j 0 = 16 then mGo16 tail first n bud m j else
  if m.S j 0 = 17 then mGo17 tail first n bud m j else
  if m.S j 0 = 18 then mGo18 tail first n bud m j else
  if m.S j 0 = 19 then mGo19 tail first n bud m j else
  if m.S j 0 = 20 then mGo20 tail first n bud m j else
  if m.S j 0 = 21 then mGo21 tail first n bud m j else
  if m.S j 0 = 22 then mGo22 tail first n bud m j else
  if m.S j 0 = 23 then mGo23 tail first n bud m j else
  if m.S j 0 = 24 then mGo24 tail first n bud m j else
  (m, m.S j 0)
def mStep (tail first n : Nat) (bud : Int) (m : MS) (j : Nat) : MS := { (mGo tail first n bud m j).1 with S := spPut (mGo tail first n bud m j).1.S j 0 (mGo tail first n bud m j).2 }
/-- where a thread may be -/
def PcOk (pc : Int) : Prop := (0 ≤ pc ∧ pc ≤ 5) ∨ (10 ≤ pc ∧ pc ≤ 24)
def mStepR (tail first n : Nat) (bud : Int) (m : MS) (j : Nat) : Bool := !(m.S j 0 == 0) && !(m.S j 0 == 10) && ((mGo tail first n bud m j).2 == 0 || (mGo tail first n bud m j).2 == 10)
theorem spPut_same (S : Nat → Nat → Int) (j t : Nat) : spPut S j t (S j t) = S := by
  funext a b
  unfold spPut
  split
  · rename_i h; rw [h.1, h.2]
  · rfl
/-- the lock in a world -/
def MLk (w : World) (lb sb bb ab wb tail first n : Nat) (bud : Int) (m : MS) : Prop := MAt w lb sb bb ab wb tail first n bud m.A m.B m.d m.S
section
variable {w w' : World} {lb sb bb ab wb tail first n : Nat} {bud : Int} {m : MS}
theorem MLk.frm (h : MLk w lb sb bb ab wb tail first n bud m) {Z : List Nat} (hf : Frm Z w w') (hz : ∀ k ∈ [lb, sb, bb, ab, wb], k ∉ Z) : MLk w' lb sb bb ab wb tail first n bud m := MAt.frm h hf hz
theorem mGo_1 {j : Nat} (h0 : m.S j 0 = 1) : mGo tail first n bud m j = mGo1 tail first n bud m j := by unfold mGo; simp [h0]
theorem mGo_2 {j : Nat} (h0 : m.S j 0 = 2) : mGo tail first n bud m j = mGo2 tail first n bud m j := by unfold mGo; simp [h0]
theorem mGo_3 {j : Nat} (h0 : m.S j 0 = 3) : mGo tail first n bud m j = mGo3 tail first n bud m j := by unfold mGo; simp [h0]
theorem mGo_4 {j : Nat} (h0 : m.S j 0 = 4) : mGo tail first n bud m j = mGo4 tail first n bud m j := by unfold mGo; simp [h0]
theorem mGo_5 {j : Nat} (h0 : m.S j 0 = 5) : mGo tail first n bud m j = mGo5 tail first n bud m j := by unfold mGo; simp [h0]
theorem mGo_11 {j : Nat} (h0 : m.S j 0 = 11) : mGo tail first n bud m j = mGo11 tail first n bud m j := by unfold mGo; simp [h0]
theorem mGo_12 {j : Nat} (h0 : m.S j 0 = 12) : mGo tail first n bud m j = mGo12 tail first n bud m j := by unfold mGo; simp [h0]
theorem mGo_13 {j : Nat} (h0 : m.S j 0 = 13) : mGo tail first n bud m j = mGo13 tail first n bud m j := by unfold mGo; simp [h0]
theorem mGo_14 {j : Nat} (h0 : m.S j 0 = 14) : mGo tail first n bud m j = mGo14 tail first n bud m j := by unfold mGo; simp [h0]
theorem mGo_15 {j : Nat} (h0 : m.S j 0 = 15) : mGo tail first n bud m j = mGo15 tail first n bud m j := by unfold mGo; simp [h0]
theorem mGo_16 {j : Nat} (h0 : m.S j 0 = 16) : mGo tail first n bud m j = mGo16 tail first n bud m j := by unfold mGo; simp [h0]
theorem mGo_17 {j : Nat} (h0 : m.S j 0 = 17) : mGo tail first n bud m j = mGo17 tail first n bud m j := by unfold mGo; simp [h0]
theorem mGo_18 {j : Nat} (h0 : m.S j 0 = 18) : mGo tail first n bud m j = mGo18 tail first n bud m j := by unfold mGo; simp [h0]
theorem mGo_19 {j : Nat} (h0 : m.S j 0 = 19) : mGo tail first n bud m j = mGo19 tail first n bud m j := by unfold mGo; simp [h0]
theorem mGo_20 {j : Nat} (h0 : m.S j 0 = 20) : mGo tail first n bud m j = mGo20 tail first n bud m j := by unfold mGo; simp [h0]
theorem mGo_21 {j : Nat} (h0 : m.S j 0 = 21) : mGo tail first n bud m j = mGo21 tail first n bud m j := by unfold mGo; simp [h0]
theorem mGo_22 {j : Nat} (h0 : m.S j 0 = 22) : mGo tail first n bud m j = mGo22 tail first n bud m j := by unfold mGo; simp [h0]
theorem mGo_23 {j : Nat} (h0 : m.S j 0 = 23) : mGo tail first n bud m j = mGo23 tail first n bud m j := by unfold mGo; simp [h0]
theorem mGo_24 {j : Nat} (h0 : m.S j 0 = 24) : mGo tail first n bud m j = mGo24 tail first n bud m j := by unfold mGo; simp [h0]
theorem wrap_go {x : MS × Int} {A' : AR} {B' : BK} {d' : Int} {S' : Nat → Nat → Int} {res : Int} {j : Nat} (e : x = (⟨A', B', d', S'⟩, res))
    (h : Calls Try.prog 33 #[.pointer (some ⟨lb, 0, none⟩), .int .i64 j] w fun e w' => e = .returned (.bool (res == 0 || res == 10)) ∧ MAt w' lb sb bb ab wb tail first n bud A' B' d' (spPut S' j 0 res) ∧ Frm [lb, sb, bb, ab, wb] w w') :
    Calls Try.prog 33 #[.pointer (some ⟨lb, 0, none⟩), .int .i64 j] w fun e w' => e = .returned (.bool (x.2 == 0 || x.2 == 10)) ∧ MAt w' lb sb bb ab wb tail first n bud x.1.A x.1.B x.1.d (spPut x.1.S j 0 x.2) ∧ Frm [lb, sb, bb, ab, wb] w w' := by
  subst e
  exact h
theorem wrap_step {x : MS × Int} {j : Nat}
    (h : Calls Try.prog 33 #[.pointer (some ⟨lb, 0, none⟩), .int .i64 j] w fun e w' => e = .returned (.bool (x.2 == 0 || x.2 == 10)) ∧ MAt w' lb sb bb ab wb tail first n bud x.1.A x.1.B x.1.d (spPut x.1.S j 0 x.2) ∧ Frm [lb, sb, bb, ab, wb] w w') :
    Calls Try.prog 33 #[.pointer (some ⟨lb, 0, none⟩), .int .i64 j] w fun e w' => e = .returned (.bool (x.2 == 0 || x.2 == 10)) ∧ MLk w' lb sb bb ab wb tail first n bud { x.1 with S := spPut x.1.S j 0 x.2 } ∧ Frm [lb, sb, bb, ab, wb] w w' := h
theorem mk_same (m : MS) (j : Nat) : ({ m with S := spPut m.S j 0 (m.S j 0) } : MS) = m := by rw [spPut_same]
theorem mGo_0 {j : Nat} (h0 : m.S j 0 = 0 ∨ m.S j 0 = 10) : mGo tail first n bud m j = (m, m.S j 0) := by unfold mGo; rcases h0 with h0 | h0 <;> simp [h0]
theorem ms_1 (h : MLk w lb sb bb ab wb tail first n bud m) {j : Nat} (hj : j < n) (h0 : m.S j 0 = 1) : Calls Try.prog 33 #[.pointer (some ⟨lb, 0, none⟩), .int .i64 j] w fun e w' => e = .returned (.bool ((mGo1 tail first n bud m j).2 == 0 || (mGo1 tail first n bud m j).2 == 10)) ∧
    MAt w' lb sb bb ab wb tail first n bud (mGo1 tail first n bud m j).1.A (mGo1 tail first n bud m j).1.B (mGo1 tail first n bud m j).1.d (spPut (mGo1 tail first n bud m j).1.S j 0 (mGo1 tail first n bud m j).2) ∧ Frm [lb, sb, bb, ab, wb] w w' := by
  unfold MLk at h
  exact wrap_go (rfl) (step_in h hj h0 (by omega) fun W hf => m_in1 (MAt.frm h hf (by simp)) hj h0)
theorem ms_2 (h : MLk w lb sb bb ab wb tail first n bud m) {j : Nat} (hj : j < n) (h0 : m.S j 0 = 2) : Calls Try.prog 33 #[.pointer (some ⟨lb, 0, none⟩), .int .i64 j] w fun e w' => e = .returned (.bool ((mGo2 tail first n bud m j).2 == 0 || (mGo2 tail first n bud m j).2 == 10)) ∧
    MAt w' lb sb bb ab wb tail first n bud (mGo2 tail first n bud m j).1.A (mGo2 tail first n bud m j).1.B (mGo2 tail first n bud m j).1.d (spPut (mGo2 tail first n bud m j).1.S j 0 (mGo2 tail first n bud m j).2) ∧ Frm [lb, sb, bb, ab, wb] w w' := by
  unfold MLk at h
  exact wrap_go (rfl) (step_in h hj h0 (by omega) fun W hf => m_in2 (MAt.frm h hf (by simp)) hj h0)
theorem ms_3 (h : MLk w lb sb bb ab wb tail first n bud m) {j : Nat} (hj : j < n) (h0 : m.S j 0 = 3) : Calls Try.prog 33 #[.pointer (some ⟨lb, 0, none⟩), .int .i64 j] w fun e w' => e = .returned (.bool ((mGo3 tail first n bud m j).2 == 0 || (mGo3 tail first n bud m j).2 == 10)) ∧
    MAt w' lb sb bb ab wb tail first n bud (mGo3 tail first n bud m j).1.A (mGo3 tail first n bud m j).1.B (mGo3 tail first n bud m j).1.d (spPut (mGo3 tail first n bud m j).1.S j 0 (mGo3 tail first n bud m j).2) ∧ Frm [lb, sb, bb, ab, wb] w w' := by
  unfold MLk at h
  by_cases hg : m.A.get tail = 0
  · exact wrap_go (if_pos hg) (step_in h hj h0 (by omega) fun W hf => m_in3a (MAt.frm h hf (by simp)) hj h0 hg)
  · exact wrap_go (if_neg hg) (step_in h hj h0 (by omega) fun W hf => m_in3b (MAt.frm h hf (by simp)) hj h0 hg)
theorem ms_4 (h : MLk w lb sb bb ab wb tail first n bud m) {j : Nat} (hj : j < n) (h0 : m.S j 0 = 4) : Calls Try.prog 33 #[.pointer (some ⟨lb, 0, none⟩), .int .i64 j] w fun e w' => e = .returned (.bool ((mGo4 tail first n bud m j).2 == 0 || (mGo4 tail first n bud m j).2 == 10)) ∧
    MAt w' lb sb bb ab wb tail first n bud (mGo4 tail first n bud m j).1.A (mGo4 tail first n bud m j).1.B (mGo4 tail first n bud m j).1.d (spPut (mGo4 tail first n bud m j).1.S j 0 (mGo4 tail first n bud m j).2) ∧ Frm [lb, sb, bb, ab, wb] w w' := by
  unfold MLk at h
  exact wrap_go (rfl) (step_in h hj h0 (by omega) fun W hf => m_in4 (MAt.frm h hf (by simp)) hj h0)
theorem ms_5 (h : MLk w lb sb bb ab wb tail first n bud m) {j : Nat} (hj : j < n) (h0 : m.S j 0 = 5) : Calls Try.prog 33 #[.pointer (some ⟨lb, 0, none⟩), .int .i64 j] w fun e w' => e = .returned (.bool ((mGo5 tail first n bud m j).2 == 0 || (mGo5 tail first n bud m j).2 == 10)) ∧
    MAt w' lb sb bb ab wb tail first n bud (mGo5 tail first n bud m j).1.A (mGo5 tail first n bud m j).1.B (mGo5 tail first n bud m j).1.d (spPut (mGo5 tail first n bud m j).1.S j 0 (mGo5 tail first n bud m j).2) ∧ Frm [lb, sb, bb, ab, wb] w w' := by
  unfold MLk at h
  by_cases hg : m.A.get (mWait tail ((j : Int) + 1)) = 0
  · exact wrap_go (if_pos hg) (step_in h hj h0 (by omega) fun W hf => m_in5a (MAt.frm h hf (by simp)) hj h0 hg)
  · exact wrap_go (if_neg hg) (step_in h hj h0 (by omega) fun W hf => m_in5b (MAt.frm h hf (by simp)) hj h0 hg)
theorem ms_11 (h : MLk w lb sb bb ab wb tail first n bud m) {j : Nat} (hj : j < n) (h0 : m.S j 0 = 11) : Calls Try.prog 33 #[.pointer (some ⟨lb, 0, none⟩), .int .i64 j] w fun e w' => e = .returned (.bool ((mGo11 tail first n bud m j).2 == 0 || (mGo11 tail first n bud m j).2 == 10)) ∧
    MAt w' lb sb bb ab wb tail first n bud (mGo11 tail first n bud m j).1.A (mGo11 tail first n bud m j).1.B (mGo11 tail first n bud m j).1.d (spPut (mGo11 tail first n bud m j).1.S j 0 (mGo11 tail first n bud m j).2) ∧ Frm [lb, sb, bb, ab, wb] w w' := by
  unfold MLk at h
  exact wrap_go (rfl) (step_calls h hj h0 (by omega) fun W hf => m_11 (MAt.frm h hf (by simp)) hj h0)
theorem ms_12 (h : MLk w lb sb bb ab wb tail first n bud m) {j : Nat} (hj : j < n) (h0 : m.S j 0 = 12) : Calls Try.prog 33 #[.pointer (some ⟨lb, 0, none⟩), .int .i64 j] w fun e w' => e = .returned (.bool ((mGo12 tail first n bud m j).2 == 0 || (mGo12 tail first n bud m j).2 == 10)) ∧
    MAt w' lb sb bb ab wb tail first n bud (mGo12 tail first n bud m j).1.A (mGo12 tail first n bud m j).1.B (mGo12 tail first n bud m j).1.d (spPut (mGo12 tail first n bud m j).1.S j 0 (mGo12 tail first n bud m j).2) ∧ Frm [lb, sb, bb, ab, wb] w w' := by
  unfold MLk at h
  by_cases hg : m.A.get (mNext tail ((j : Int) + 1)) = 0
  · exact wrap_go (if_neg (fun hc => hc.1 hg)) (step_calls h hj h0 (by omega) fun W hf => m_12b (MAt.frm h hf (by simp)) hj h0 hg)
  · by_cases hm : (m.S j 3).tmod (bud + 1) = 0
    · exact wrap_go (if_neg (fun hc => hc.2 hm)) (step_calls h hj h0 (by omega) fun W hf => m_12c (MAt.frm h hf (by simp)) hj h0 hg hm)
    · exact wrap_go (if_pos ⟨hg, hm⟩) (step_calls h hj h0 (by omega) fun W hf => m_12a (MAt.frm h hf (by simp)) hj h0 hg hm)
theorem ms_13 (h : MLk w lb sb bb ab wb tail first n bud m) {j : Nat} (hj : j < n) (h0 : m.S j 0 = 13) : Calls Try.prog 33 #[.pointer (some ⟨lb, 0, none⟩), .int .i64 j] w fun e w' => e = .returned (.bool ((mGo13 tail first n bud m j).2 == 0 || (mGo13 tail first n bud m j).2 == 10)) ∧
    MAt w' lb sb bb ab wb tail first n bud (mGo13 tail first n bud m j).1.A (mGo13 tail first n bud m j).1.B (mGo13 tail first n bud m j).1.d (spPut (mGo13 tail first n bud m j).1.S j 0 (mGo13 tail first n bud m j).2) ∧ Frm [lb, sb, bb, ab, wb] w w' := by
  unfold MLk at h
  cases hg : bStepR first m.A m.B
  · exact wrap_go (if_neg (by simp [hg])) (step_calls h hj h0 (by omega) fun W hf => m_13b (MAt.frm h hf (by simp)) hj h0 hg)
  · exact wrap_go (if_pos hg) (step_calls h hj h0 (by omega) fun W hf => m_13a (MAt.frm h hf (by simp)) hj h0 hg)
theorem ms_14 (h : MLk w lb sb bb ab wb tail first n bud m) {j : Nat} (hj : j < n) (h0 : m.S j 0 = 14) : Calls Try.prog 33 #[.pointer (some ⟨lb, 0, none⟩), .int .i64 j] w fun e w' => e = .returned (.bool ((mGo14 tail first n bud m j).2 == 0 || (mGo14 tail first n bud m j).2 == 10)) ∧
    MAt w' lb sb bb ab wb tail first n bud (mGo14 tail first n bud m j).1.A (mGo14 tail first n bud m j).1.B (mGo14 tail first n bud m j).1.d (spPut (mGo14 tail first n bud m j).1.S j 0 (mGo14 tail first n bud m j).2) ∧ Frm [lb, sb, bb, ab, wb] w w' := by
  unfold MLk at h
  exact wrap_go (rfl) (step_calls h hj h0 (by omega) fun W hf => m_14 (MAt.frm h hf (by simp)) hj h0)
theorem ms_15 (h : MLk w lb sb bb ab wb tail first n bud m) {j : Nat} (hj : j < n) (h0 : m.S j 0 = 15) : Calls Try.prog 33 #[.pointer (some ⟨lb, 0, none⟩), .int .i64 j] w fun e w' => e = .returned (.bool ((mGo15 tail first n bud m j).2 == 0 || (mGo15 tail first n bud m j).2 == 10)) ∧
    MAt w' lb sb bb ab wb tail first n bud (mGo15 tail first n bud m j).1.A (mGo15 tail first n bud m j).1.B (mGo15 tail first n bud m j).1.d (spPut (mGo15 tail first n bud m j).1.S j 0 (mGo15 tail first n bud m j).2) ∧ Frm [lb, sb, bb, ab, wb] w w' := by
  unfold MLk at h
  exact wrap_go (rfl) (step_calls h hj h0 (by omega) fun W hf => m_15 (MAt.frm h hf (by simp)) hj h0)
theorem ms_16 (h : MLk w lb sb bb ab wb tail first n bud m) {j : Nat} (hj : j < n) (h0 : m.S j 0 = 16) : Calls Try.prog 33 #[.pointer (some ⟨lb, 0, none⟩), .int .i64 j] w fun e w' => e = .returned (.bool ((mGo16 tail first n bud m j).2 == 0 || (mGo16 tail first n bud m j).2 == 10)) ∧
    MAt w' lb sb bb ab wb tail first n bud (mGo16 tail first n bud m j).1.A (mGo16 tail first n bud m j).1.B (mGo16 tail first n bud m j).1.d (spPut (mGo16 tail first n bud m j).1.S j 0 (mGo16 tail first n bud m j).2) ∧ Frm [lb, sb, bb, ab, wb] w w' := by
  unfold MLk at h
  cases hg : m.A.casOk tail ((j : Int) + 1)
  · exact wrap_go (if_neg (by simp [hg])) (step_calls h hj h0 (by omega) fun W hf => m_16b (MAt.frm h hf (by simp)) hj h0 hg)
  · exact wrap_go (if_pos hg) (step_calls h hj h0 (by omega) fun W hf => m_16a (MAt.frm h hf (by simp)) hj h0 hg)
theorem ms_17 (h : MLk w lb sb bb ab wb tail first n bud m) {j : Nat} (hj : j < n) (h0 : m.S j 0 = 17) : Calls Try.prog 33 #[.pointer (some ⟨lb, 0, none⟩), .int .i64 j] w fun e w' => e = .returned (.bool ((mGo17 tail first n bud m j).2 == 0 || (mGo17 tail first n bud m j).2 == 10)) ∧
    MAt w' lb sb bb ab wb tail first n bud (mGo17 tail first n bud m j).1.A (mGo17 tail first n bud m j).1.B (mGo17 tail first n bud m j).1.d (spPut (mGo17 tail first n bud m j).1.S j 0 (mGo17 tail first n bud m j).2) ∧ Frm [lb, sb, bb, ab, wb] w w' := by
  unfold MLk at h
  by_cases hg : m.A.get (mNext tail ((j : Int) + 1)) = 0
  · exact wrap_go (if_pos hg) (step_hands h hj h0 (by omega) fun W hf => m_17a (MAt.frm h hf (by simp)) hj h0 hg)
  · exact wrap_go (if_neg hg) (step_hands h hj h0 (by omega) fun W hf => m_17b (MAt.frm h hf (by simp)) hj h0 hg)
theorem ms_18 (h : MLk w lb sb bb ab wb tail first n bud m) {j : Nat} (hj : j < n) (h0 : m.S j 0 = 18) : Calls Try.prog 33 #[.pointer (some ⟨lb, 0, none⟩), .int .i64 j] w fun e w' => e = .returned (.bool ((mGo18 tail first n bud m j).2 == 0 || (mGo18 tail first n bud m j).2 == 10)) ∧
    MAt w' lb sb bb ab wb tail first n bud (mGo18 tail first n bud m j).1.A (mGo18 tail first n bud m j).1.B (mGo18 tail first n bud m j).1.d (spPut (mGo18 tail first n bud m j).1.S j 0 (mGo18 tail first n bud m j).2) ∧ Frm [lb, sb, bb, ab, wb] w w' := by
  unfold MLk at h
  exact wrap_go (rfl) (step_hands h hj h0 (by omega) fun W hf => m_18 (MAt.frm h hf (by simp)) hj h0)
theorem ms_19 (h : MLk w lb sb bb ab wb tail first n bud m) {j : Nat} (hj : j < n) (h0 : m.S j 0 = 19) : Calls Try.prog 33 #[.pointer (some ⟨lb, 0, none⟩), .int .i64 j] w fun e w' => e = .returned (.bool ((mGo19 tail first n bud m j).2 == 0 || (mGo19 tail first n bud m j).2 == 10)) ∧
    MAt w' lb sb bb ab wb tail first n bud (mGo19 tail first n bud m j).1.A (mGo19 tail first n bud m j).1.B (mGo19 tail first n bud m j).1.d (spPut (mGo19 tail first n bud m j).1.S j 0 (mGo19 tail first n bud m j).2) ∧ Frm [lb, sb, bb, ab, wb] w w' := by
  unfold MLk at h
  cases hg : m.A.casOk tail ((j : Int) + 1)
  · exact wrap_go (if_neg (by simp [hg])) (step_hands h hj h0 (by omega) fun W hf => m_19b (MAt.frm h hf (by simp)) hj h0 hg)
  · exact wrap_go (if_pos hg) (step_hands h hj h0 (by omega) fun W hf => m_19a (MAt.frm h hf (by simp)) hj h0 hg)
theorem ms_20 (h : MLk w lb sb bb ab wb tail first n bud m) {j : Nat} (hj : j < n) (h0 : m.S j 0 = 20) : Calls Try.prog 33 #[.pointer (some ⟨lb, 0, none⟩), .int .i64 j] w fun e w' => e = .returned (.bool ((mGo20 tail first n bud m j).2 == 0 || (mGo20 tail first n bud m j).2 == 10)) ∧
    MAt w' lb sb bb ab wb tail first n bud (mGo20 tail first n bud m j).1.A (mGo20 tail first n bud m j).1.B (mGo20 tail first n bud m j).1.d (spPut (mGo20 tail first n bud m j).1.S j 0 (mGo20 tail first n bud m j).2) ∧ Frm [lb, sb, bb, ab, wb] w w' := by
  unfold MLk at h
  by_cases hg : m.A.get (mNext tail ((j : Int) + 1)) = 0
  · exact wrap_go (if_pos hg) (step_hands h hj h0 (by omega) fun W hf => m_20a (MAt.frm h hf (by simp)) hj h0 hg)
  · exact wrap_go (if_neg hg) (step_hands h hj h0 (by omega) fun W hf => m_20b (MAt.frm h hf (by simp)) hj h0 hg)
theorem ms_21 (h : MLk w lb sb bb ab wb tail first n bud m) {j : Nat} (hj : j < n) (h0 : m.S j 0 = 21) : Calls Try.prog 33 #[.pointer (some ⟨lb, 0, none⟩), .int .i64 j] w fun e w' => e = .returned (.bool ((mGo21 tail first n bud m j).2 == 0 || (mGo21 tail first n bud m j).2 == 10)) ∧
    MAt w' lb sb bb ab wb tail first n bud (mGo21 tail first n bud m j).1.A (mGo21 tail first n bud m j).1.B (mGo21 tail first n bud m j).1.d (spPut (mGo21 tail first n bud m j).1.S j 0 (mGo21 tail first n bud m j).2) ∧ Frm [lb, sb, bb, ab, wb] w w' := by
  unfold MLk at h
  by_cases hg : m.A.get (mNext tail (m.S j 1)) = 0
  · have hq := fun (W : World) (hf : Frm [] w W) => m_21a (MAt.frm h hf (by simp)) hj h0 hg
    rw [hg] at hq
    exact wrap_go (if_pos hg) (step_hands h hj h0 (by omega) hq)
  · exact wrap_go (if_neg hg) (step_hands h hj h0 (by omega) fun W hf => m_21b (MAt.frm h hf (by simp)) hj h0 hg)
theorem ms_22 (h : MLk w lb sb bb ab wb tail first n bud m) {j : Nat} (hj : j < n) (h0 : m.S j 0 = 22) : Calls Try.prog 33 #[.pointer (some ⟨lb, 0, none⟩), .int .i64 j] w fun e w' => e = .returned (.bool ((mGo22 tail first n bud m j).2 == 0 || (mGo22 tail first n bud m j).2 == 10)) ∧
    MAt w' lb sb bb ab wb tail first n bud (mGo22 tail first n bud m j).1.A (mGo22 tail first n bud m j).1.B (mGo22 tail first n bud m j).1.d (spPut (mGo22 tail first n bud m j).1.S j 0 (mGo22 tail first n bud m j).2) ∧ Frm [lb, sb, bb, ab, wb] w w' := by
  unfold MLk at h
  cases hg : bStepR first m.A m.B
  · exact wrap_go (if_neg (by simp [hg])) (step_hands h hj h0 (by omega) fun W hf => m_22b (MAt.frm h hf (by simp)) hj h0 hg)
  · exact wrap_go (if_pos hg) (step_hands h hj h0 (by omega) fun W hf => m_22a (MAt.frm h hf (by simp)) hj h0 hg)
theorem ms_23 (h : MLk w lb sb bb ab wb tail first n bud m) {j : Nat} (hj : j < n) (h0 : m.S j 0 = 23) : Calls Try.prog 33 #[.pointer (some ⟨lb, 0, none⟩), .int .i64 j] w fun e w' => e = .returned (.bool ((mGo23 tail first n bud m j).2 == 0 || (mGo23 tail first n bud m j).2 == 10)) ∧
    MAt w' lb sb bb ab wb tail first n bud (mGo23 tail first n bud m j).1.A (mGo23 tail first n bud m j).1.B (mGo23 tail first n bud m j).1.d (spPut (mGo23 tail first n bud m j).1.S j 0 (mGo23 tail first n bud m j).2) ∧ Frm [lb, sb, bb, ab, wb] w w' := by
  unfold MLk at h
  exact wrap_go (rfl) (step_hands h hj h0 (by omega) fun W hf => m_23 (MAt.frm h hf (by simp)) hj h0)
theorem ms_24 (h : MLk w lb sb bb ab wb tail first n bud m) {j : Nat} (hj : j < n) (h0 : m.S j 0 = 24) : Calls Try.prog 33 #[.pointer (some ⟨lb, 0, none⟩), .int .i64 j] w fun e w' => e = .returned (.bool ((mGo24 tail first n bud m j).2 == 0 || (mGo24 tail first n bud m j).2 == 10)) ∧
    MAt w' lb sb bb ab wb tail first n bud (mGo24 tail first n bud m j).1.A (mGo24 tail first n bud m j).1.B (mGo24 tail first n bud m j).1.d (spPut (mGo24 tail first n bud m j).1.S j 0 (mGo24 tail first n bud m j).2) ∧ Frm [lb, sb, bb, ab, wb] w w' := by
  unfold MLk at h
  exact wrap_go (rfl) (step_hands h hj h0 (by omega) fun W hf => m_24 (MAt.frm h hf (by simp)) hj h0)
theorem mStep_at (h : MLk w lb sb bb ab wb tail first n bud m) {j : Nat} (hj : j < n) (hp : PcOk (m.S j 0)) : Calls Try.prog 33 #[.pointer (some ⟨lb, 0, none⟩), .int .i64 j] w fun e w' => e = .returned (.bool (mStepR tail first n bud m j)) ∧
    MLk w' lb sb bb ab wb tail first n bud (mStep tail first n bud m j) ∧ Frm [lb, sb, bb, ab, wb] w w' := by
  unfold mStep mStepR
  by_cases hi : m.S j 0 = 0 ∨ m.S j 0 = 10
  · rw [mGo_0 hi]
    refine (m_idle h j (.inr (by simpa using hi))).mono fun e w' ⟨h1, h2⟩ => ?_
    refine ⟨by rw [h1]; exact ret_bool (by rcases hi with hi | hi <;> simp [hi]), ?_, h2.mono (by simp)⟩
    rw [mk_same]
    exact MLk.frm h h2 (by simp)
  have e0 : (!(m.S j 0 == 0) && !(m.S j 0 == 10)) = true := by simp; omega
  rw [e0, Bool.true_and]
  have hh : m.S j 0 = 1 ∨ m.S j 0 = 2 ∨ m.S j 0 = 3 ∨ m.S j 0 = 4 ∨ m.S j 0 = 5 ∨ m.S j 0 = 11 ∨ m.S j 0 = 12 ∨ m.S j 0 = 13 ∨ m.S j 0 = 14 ∨ m.S j 0 = 15 ∨ m.S j 0 = 16 ∨ m.S j 0 = 17 ∨ m.S j 0 = 18 ∨ m.S j 0 = 19 ∨ m.S j 0 = 20 ∨ m.S j 0 = 21 ∨ m.S j 0 = 22 ∨ m.S j 0 = 23 ∨ m.S j 0 = 24 := by
    unfold PcOk at hp; omega
  clear hp hi e0
  rcases hh with h0 | h0 | h0 | h0 | h0 | h0 | h0 | h0 | h0 | h0 | h0 | h0 | h0 | h0 | h0 | h0 | h0 | h0 | h0
  · rw [mGo_1 h0]; exact wrap_step (ms_1 h hj h0)
  · rw [mGo_2 h0]; exact wrap_step (ms_2 h hj h0)
  · rw [mGo_3 h0]; exact wrap_step (ms_3 h hj h0)
  · rw [mGo_4 h0]; exact wrap_step (ms_4 h hj h0)
  · rw [mGo_5 h0]; exact wrap_step (ms_5 h hj h0)
  · rw [mGo_11 h0]; exact wrap_step (ms_11 h hj h0)
  · rw [mGo_12 h0]; exact wrap_step (ms_12 h hj h0)
  · rw [mGo_13 h0]; exact wrap_step (ms_13 h hj h0)
  · rw [mGo_14 h0]; exact wrap_step (ms_14 h hj h0)
  · rw [mGo_15 h0]; exact wrap_step (ms_15 h hj h0)
  · rw [mGo_16 h0]; exact wrap_step (ms_16 h hj h0)
  · rw [mGo_17 h0]; exact wrap_step (ms_17 h hj h0)
  · rw [mGo_18 h0]; exact wrap_step (ms_18 h hj h0)
  · rw [mGo_19 h0]; exact wrap_step (ms_19 h hj h0)
  · rw [mGo_20 h0]; exact wrap_step (ms_20 h hj h0)
  · rw [mGo_21 h0]; exact wrap_step (ms_21 h hj h0)
  · rw [mGo_22 h0]; exact wrap_step (ms_22 h hj h0)
  · rw [mGo_23 h0]; exact wrap_step (ms_23 h hj h0)
  · rw [mGo_24 h0]; exact wrap_step (ms_24 h hj h0)
end
end Go.Proofs.Ytacogelejffbhaa
