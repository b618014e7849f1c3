/- A region that draws its order, walked by a schedule: what only computes or reads cells that nobody writes is taken first, in rows; the calls come one at a time. An operation whose guard is false is passed over. -/
import Derived.Deep.Quiet
import Derived.Deep.QuietTactic
import Derived.BigQuiet
import Derived.OrdersHeld
import Derived.Deep.RegionHeld3
namespace Go.Proofs.YteijjhahgabalaaGreat
/-- a world that meets S -/
structure HW (S : World → Prop) where
  w : World
  h : S w
/-- the class of the worlds that meet S, said so that simp opens it -/
abbrev clsH (S : World → Prop) : World → Prop := fun w => ∃ z : HW S, w = z.w
theorem clsH_mk {S : World → Prop} {w : World} (h : S w) : clsH S w := ⟨⟨w, h⟩, rfl⟩
/-- operations that enter no function and yield a value -/
def tame : Op → Bool
  | .move _ | .assign _ | .pick .. | .build .. | .load .. | .binOp .. | .unOp .. | .convert .. | .slice .. | .fieldAddr .. | .field .. | .indexAddr .. | .index .. | .extract .. | .makeFunc .. | .nilCheck _ => true
  | .call { callee := .builtin .len, .. } | .call { callee := .builtin .cap, .. } | .call { callee := .builtin .min, .. } | .call { callee := .builtin .max, .. } => true
  | _ => false

/-- a value, or no end -/
def OnlyV (P : Program) (w : World) (s : Sem Next) : Prop := ∀ n w', s.run P w = .ok n w' → ∃ v, n = .value v
section
variable {P : Program} {w w' : World}
theorem onlyV_pure {v : Value} : OnlyV P w (Pure.pure (Next.value v)) := fun n w' h => by
  simp only [Sem.run_pure, Result.ok.injEq] at h
  exact ⟨v, h.1.symm⟩
theorem onlyV_bind {α : Type} {s : Sem α} {g : α → Value} : OnlyV P w (s >>= fun x => Pure.pure (Next.value (g x))) := fun n w' h => by
  simp only [Sem.run_bind] at h
  cases hs : s.run P w with
  | ok x w1 => rw [hs] at h; simp only [Result.andThen_ok, Sem.run_pure, Result.ok.injEq] at h; exact ⟨_, h.1.symm⟩
  | halt x w1 => rw [hs] at h; cases h
theorem onlyV_seq {α : Type} {s : Sem α} {g : α → Sem Next} (h : ∀ a w', OnlyV P w' (g a)) : OnlyV P w (s >>= g) := fun n w' e => by
  simp only [Sem.run_bind] at e
  cases hs : s.run P w with
  | ok x w1 => rw [hs] at e; exact h x w1 n w' e
  | halt x w1 => rw [hs] at e; cases e
theorem onlyV_halt {x : Sem Next} (h : ∀ n w', x.run P w ≠ .ok n w') : OnlyV P w x := fun n w' e => absurd e (h n w')
theorem tame_only {o : Oper} {ev : Operand → Value} (h : tame o.op = true) : OnlyV P w (execOp ev o) := by
  unfold execOp
  cases hop : o.op
  case call c =>
    obtain ⟨callee, args, tys⟩ := c
    rw [hop] at h
    cases callee with
    | builtin b => cases b <;> first | (simp only [tame, Bool.false_eq_true] at h; done) | (show OnlyV P w (_ >>= fun x => Pure.pure (Next.value _)); exact onlyV_bind)
    | _ => simp only [tame, Bool.false_eq_true] at h
  case nilCheck x =>
    show OnlyV P w (match ev x with
      | .pointer none | .nilIface | .nilFunc => _
      | .func (.method name) first captured => _
      | x => _)
    split
    · exact onlyV_halt fun n w' => by simp [runtimePanic]
    · exact onlyV_halt fun n w' => by simp [runtimePanic]
    · exact onlyV_halt fun n w' => by simp [runtimePanic]
    · split
      · exact onlyV_halt fun n w' => by simp [runtimePanic]
      · refine onlyV_seq fun p w1 => onlyV_seq fun b w2 => ?_
        dsimp only
        split
        · exact onlyV_seq fun _ _ => onlyV_pure
        · exact onlyV_pure
      · exact onlyV_pure
    · exact onlyV_pure
  all_goals
    simp only [hop, tame, Bool.false_eq_true] at h
    try first | exact onlyV_pure | exact onlyV_bind
theorem tame_run {o : Oper} {a : Act} {v : Value} {C : World → Prop} (h : tame o.op = true) (hq : o.quietAt P a C w v) : (execOp a.eval o).run P w = .ok (.value v) w := by
  have h1 := tame_only (P := P) (w := w) (ev := a.eval) h
  unfold Oper.quietAt at hq
  unfold OnlyV at h1
  generalize (execOp a.eval o).run P w = r at *
  cases r with
  | ok n w' =>
    obtain ⟨u, rfl⟩ := h1 n w' rfl
    simp only [Oper.quietUpon] at hq
    rw [hq.1, hq.2]
  | halt x w' => simp only [Oper.quietUpon] at hq
end

/-- the i-th of a list, so that it comes out written out -/
def pick : List Oper → Nat → Option Oper
  | [], _ => none
  | o :: _, 0 => some o
  | _ :: l, n + 1 => pick l n
theorem pick_at : ∀ {l : List Oper} {i : Nat} {o : Oper}, pick l i = some o → l[i]? = some o
  | [], _, _, h => by cases h
  | _ :: _, 0, _, h => by simpa [pick] using h
  | _ :: _, n + 1, _, h => by simpa using pick_at (i := n) h
theorem pick_arr {ops : Array Oper} {i : Nat} {o : Oper} (h : pick ops.toList i = some o) : ops[i]? = some o := by rw [← Array.getElem?_toList]; exact pick_at h
inductive Picks (ops : Array Oper) : List Nat → List Oper → Prop
  | nil : Picks ops [] []
  | cons {i : Nat} {is : List Nat} {o : Oper} {l : List Oper} : pick ops.toList i = some o → Picks ops is l → Picks ops (i :: is) (o :: l)
def setL : List Nat → Array Bool → Array Bool
  | [], listed => listed
  | i :: is, listed => setL is (listed.setIfInBounds i true)
def segB (md : Region.Mode) (ops : Array Oper) : List Nat → Array Bool → Bool
  | [], _ => true
  | i :: is, listed => (Region.ready md ops listed).contains i && Region.free md ops listed i && (match ops[i]? with | some o => tame o.op | none => false) && segB md ops is (listed.setIfInBounds i true)

section
variable {P : Program} {ops : Array Oper} {Q : Exit → Act → World → Prop} {md : Region.Mode} {S : World → Prop}
theorem held_row {is : List Nat} {l : List Oper} (hp : Picks ops is l) (hs : Region.noSelect ops = true) (hQ : ∀ d v c a w, Q (.panic c) (Act.put a (some d) v) w → Q (.panic c) a w) {fuel : Nat} :
    ∀ {listed : Array Bool} {a : Act} {w : World}, segB md ops is listed = true → S w → wpQuiet P ops (clsH S) (fun a' => wpAnyH P md ops Q S fuel (setL is listed) a' w) l a → wpAnyH P md ops Q S (fuel + is.length) listed a w := by
  induction hp with
  | nil => intro listed a w _ _ h; exact h
  | @cons i is o l hi _ ih =>
    intro listed a w hB hS h
    have hi := pick_arr hi
    have hQ' : ∀ v c a w, Q (.panic c) (Act.put a o.dst v) w → Q (.panic c) a w := fun v c a w h => by
      cases hd : o.dst with
      | none => rw [hd] at h; exact h
      | some d => rw [hd] at h; exact hQ d v c a w h
    simp only [segB, hi, Bool.and_eq_true] at hB
    obtain ⟨⟨⟨hr, hf⟩, ht⟩, hB⟩ := hB
    rw [List.length_cons, ← Nat.add_assoc]
    unfold wpQuiet at h
    by_cases hw : Region.wanted o (yielded ops a.tmps) = true
    · rw [if_pos hw] at h
      obtain ⟨v, h1, h2⟩ := h
      exact wpAnyH_take hi hs hf hr (fun c a w => hQ' _ c a w) (.inl ⟨hw, fun w hw => tame_run ht (h1 w (clsH_mk hw))⟩) hS (ih hB hS h2)
    · rw [if_neg hw] at h
      exact wpAnyH_take hi hs hf hr (fun c a w => hQ' _ c a w) (.inr ⟨by simpa using hw, rfl⟩) hS (ih hB hS h)

/-- behind one operation: what follows, or the region's other ends -/
def onNormal (Q : Exit → Act → World → Prop) (K : Act → World → Prop) : Exit → Act → World → Prop := fun e a w => (e = .normal → K a w) ∧ (e ≠ .normal → Q e a w)
theorem onNormal_mk {K : Act → World → Prop} {a : Act} {w : World} (h : K a w) : onNormal Q K .normal a w := ⟨fun _ => h, fun h => absurd rfl h⟩

theorem held_call {i : Nat} {o : Oper} {fuel : Nat} {listed : Array Bool} {a : Act} {w : World} (hi : pick ops.toList i = some o) (hr : Region.ready md ops listed = [i])
    (h : wpList P ops (onNormal Q (fun a' w' => S w' ∧ wpAnyH P md ops Q S fuel (listed.setIfInBounds i true) a' w')) [o] a w) : wpAnyH P md ops Q S (fuel + 1) listed a w := by
  refine wpAnyH_all hr (by simp) fun j hj => ?_
  obtain rfl : j = i := by simpa using hj
  have hi := pick_arr hi
  unfold wpOp
  simp only [hi]
  simp only [wpList] at h
  have key : ∀ a' w', onNormal Q (fun a' w' => S w' ∧ wpAnyH P md ops Q S fuel (listed.setIfInBounds j true) a' w') .normal a' w' → S w' ∧ wpAnyH P md ops Q S fuel (listed.setIfInBounds j true) a' w' := fun _ _ h => h.1 rfl
  split
  · rename_i hw
    rw [if_pos hw] at h
    rcases h with h | ⟨h1, a1, w1, h2⟩
    · left
      unfold Oper.wp at *
      generalize (execOp a.eval o).run P w = r at *
      cases r with
      | ok n w' =>
        cases n <;> simp only [Oper.upon] at h ⊢
        case value u => exact key _ _ h
        case skip => exact key _ _ h
        case defer d => exact key _ _ h
        case enter f args =>
          refine Calls.mono h fun e w'' he => ?_
          cases e with
          | returned u => exact key _ _ he
          | panicked c => exact he.2 (by simp)
          | outgrown => obtain ⟨a1, w1, h2⟩ := he; exact ⟨a1, w1, h2.2 (by simp)⟩
        case row row args => exact Rows.mono h fun u w'' he => key _ _ he
      | halt x w' =>
        cases x <;> simp only [Oper.upon] at h ⊢
        case panic u => exact h.2 (by simp)
    · exact .inr ⟨h1, a1, w1, h2.2 (by simp)⟩
  · rename_i hw
    rw [if_neg hw] at h
    exact key _ _ h

/-- from here on more is known of the world -/
theorem wpOp_held_mono {S' : World → Prop} (hS : ∀ w, S' w → S w) : ∀ {fuel : Nat} {listed : Array Bool} {a : Act} {w : World}, wpAnyH P md ops Q S' fuel listed a w → wpAnyH P md ops Q S fuel listed a w
  | 0, _, _, _, h => h
  | _ + 1, _, _, _, h => ⟨h.1, fun i hi => wpOp_mono (fun _ _ h' => ⟨hS _ h'.1, wpOp_held_mono hS h'.2⟩) (h.2 i hi)⟩

theorem held_begin {id : Nat} {a : Act} {w : World} {l : List Oper} (S : World → Prop) (hm : P.follows .mixedOrders = true) (h : wpAnyH P .any l.toArray Q S l.length (Array.replicate l.length false) a w.drew) : (Code.region id l.toArray true).wp P Q a w :=
  wp_region_held hm (by simpa using h)
theorem wpQuiet_to {C : World → Prop} {K K' : Act → Prop} (hK : ∀ a, K a → K' a) : ∀ {l : List Oper} {a : Act}, wpQuiet P ops C K l a → wpQuiet P ops C K' l a
  | [], _, h => hK _ h
  | o :: l, a, h => by
    unfold wpQuiet at h ⊢
    split
    · rename_i hw
      rw [if_pos hw] at h
      exact Oper.quiet_mono (fun a h => wpQuiet_to hK h) h
    · rename_i hw
      rw [if_neg hw] at h
      exact wpQuiet_to hK h
theorem held_row_at {is : List Nat} {l : List Oper} (hp : Picks ops is l) (hs : Region.noSelect ops = true) (hQ : ∀ d v c a w, Q (.panic c) (Act.put a (some d) v) w → Q (.panic c) a w) {n fuel : Nat} (hn : n = fuel + is.length)
    {listed : Array Bool} {a : Act} {w : World} (hB : segB md ops is listed = true) (hS : S w) (h : ∀ K : Act → Prop, (∀ a', wpAnyH P md ops Q S fuel (setL is listed) a' w → K a') → wpQuiet P ops (clsH S) K l a) : wpAnyH P md ops Q S n listed a w := by
  subst hn
  exact held_row hp hs hQ hB hS (h _ fun _ h => h)
theorem held_end {listed : Array Bool} {a : Act} {w : World} (hr : Region.ready md ops listed = []) (h : Q .normal a w) {fuel : Nat} : wpAnyH P md ops Q S fuel listed a w := wpAnyH_done hr h fuel
end
end Go.Proofs.YteijjhahgabalaaGreat
