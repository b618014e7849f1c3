/- The contracts of ring's All and Find. -/
import Derived.Test.YteapniipkpijkaaRingAll
namespace Go.Proofs.Yteapniipkpijkaa
open Go.RowKit Go.Shelf
attribute [local go_sem] Oper.semAt_some

theorem All_any (v : Option Addr) (w : World) : Calls Try.prog 33 #[.pointer v] w fun e w' => e = .returned (.func (.func 41) #[] #[.pointer (some ⟨w.heap.size, 0, none⟩)]) ∧ w' = w.alloc (.cells #[.pointer v] 51) := by
  go_enter Try.func33, Try.ntmps33
  go_wp2
  go_ret
  exact ⟨rfl, rfl⟩

/-- the place of the first that is one, or -1 -/
def findI (p : Int → Bool) : List Int → Int → Int
  | [], _ => -1
  | x :: l, k => if p x then k else findI p l (k + 1)
theorem findI_none {p : Int → Bool} : ∀ {xs : List Int} {k : Int}, (∀ x ∈ xs, p x = false) → findI p xs k = -1
  | [], _, _ => rfl
  | x :: l, k, h => by rw [findI, h x (by simp)]; exact findI_none fun y hy => h y (by simp [hy])
theorem findI_at {p : Int → Bool} : ∀ {ini : List Int} {x : Int} {rest : List Int} {k : Int}, (∀ y ∈ ini, p y = false) → p x = true → findI p (ini ++ x :: rest) k = k + ini.length
  | [], x, rest, k, _, hx => by simp [findI, hx]
  | y :: l, x, rest, k, h, hx => by
    rw [List.cons_append, findI, h y (by simp)]
    simp only [Bool.false_eq_true, if_false]
    rw [findI_at (fun z hz => h z (by simp [hz])) hx]
    simp; omega
theorem upR_mem {xs : List Int} {k : Nat} (hk : k ≤ xs.length) {q : Nat × Int} (h : q ∈ upR xs k) : q.2 ∈ xs := by
  simp only [upR, List.mem_map, List.mem_range] at h
  obtain ⟨j, hj, rfl⟩ := h
  have : j < xs.length := by omega
  simp [this]
theorem mem_upR {xs : List Int} {x : Int} (h : x ∈ xs) : ∃ j, j < xs.length ∧ (j, x) ∈ upR xs xs.length := by
  obtain ⟨j, hj, rfl⟩ := List.getElem_of_mem h
  exact ⟨j, hj, by simp only [upR, List.mem_map, List.mem_range]; exact ⟨j, hj, by simp [hj]⟩⟩
theorem findI_up {p : Int → Bool} {xs : List Int} {k : Nat} (hk : k < xs.length) (h : ∀ q ∈ upR xs k, p q.2 = false) (hx : p (xs[k]?.getD 0) = true) : findI p xs 0 = k := by
  have e : xs = xs.take k ++ xs[k]?.getD 0 :: xs.drop (k + 1) := by
    have : xs[k]?.getD 0 = xs[k] := by simp [hk]
    rw [this, List.getElem_cons_drop, List.take_append_drop]
  rw [e, findI_at ?_ hx]
  · simp; omega
  · intro y hy
    obtain ⟨j, hj, rfl⟩ := List.getElem_of_mem hy
    have hj' : j < k := by simp at hj; omega
    have := h (j, xs[j]?.getD 0) (by simp only [upR, List.mem_map, List.mem_range]; exact ⟨j, hj', rfl⟩)
    have e2 : xs[j]?.getD 0 = xs[j]'(by omega) := by simp [show j < xs.length by omega]
    rw [e2] at this
    simpa using this

theorem Boxed.set {W : World} {B : Nat} {t : TypeId} {v : Value} (h : Boxed W B t v) (u : Value) : Boxed (W.setCell ⟨B, 0, none⟩ u) B t u := by
  have : HAt W B [v] t := h
  exact this.set 0 u

theorem fun_neq (g : Nat) (lv : Array Value) (W : World) : (binOp .neq 27 (.func (.func g) #[] lv) .nilFunc).run Try.prog W = .ok (.bool true) W := by
  rfl

set_option maxRecDepth 100000 in
set_option maxHeartbeats 2000000 in
theorem Find_of {w : World} {pv : Option Addr} {xs : List Int} (hS : SeqR w pv xs) (g : Nat) (lv : Array Value) (p : Int → Bool) (eg : ∀ args w, (callFunc g args).run Try.prog w = .ok (.enter g args) w)
    (hC : ∀ x W, Frm [] w W → Calls Try.prog g (#[.int .i64 x] ++ lv) W fun e w' => e = .returned (.bool (p x)) ∧ W = w') :
    Calls Try.prog 28 #[.pointer pv, .func (.func g) #[] lv] w fun e w' => e = .returned (.int .i64 (findI p xs 0)) ∧ Frm [] w w' := by
  refine (callsIn_wide (n := 5)).1 ?_
  refine callsIn_of_wp_marks Try.func28 rfl trivial ?_ rfl
  simp only [Try.ntmps28, List.size_toArray, List.length_cons, List.length_nil, Nat.reduceAdd, Nat.reduceSub, Array.replicate_succ, Array.replicate_zero, List.push_toArray, List.append_toArray, List.nil_append, List.cons_append]
  have HC := Lib.hid hC
  have HG := Lib.hid eg
  clear hC eg
  gi_wp2_with fail
  refine ⟨trivial, ?_⟩
  refine (callsIn_wide.2 (All_any _ _)).mono ?_
  rintro e w1 ⟨rfl, rfl⟩
  gi_wp2_with fail
  have bF := Boxed.new w 27 (.func (.func g) #[] lv)
  have bO := Boxed.new (w.alloc (.cells #[.func (.func g) #[] lv] 27)) 3 (.int .i64 0)
  have bN := Boxed.new ((w.alloc (.cells #[.func (.func g) #[] lv] 27)).alloc (.cells #[.int .i64 0] 3)) 51 (.pointer pv)
  have hB0 : Below w.heap.size w (((w.alloc (.cells #[.func (.func g) #[] lv] 27)).alloc (.cells #[.int .i64 0] 3)).alloc (.cells #[.pointer pv] 51)) := (((Below.refl _ w).alloc (Nat.le_refl _) _).alloc (by simp) _).alloc (by simp; omega) _
  have bF' := (bF.alloc (.cells #[.int .i64 0] 3)).alloc (.cells #[.pointer pv] 51)
  have bO' := bO.alloc (.cells #[.pointer pv] 51)
  simp only [World.size_alloc] at bN bO'
  have hsz : (((w.alloc (.cells #[.func (.func g) #[] lv] 27)).alloc (.cells #[.int .i64 0] 3)).alloc (.cells #[.pointer pv] 51)).heap.size = w.heap.size + 3 := by simp
  generalize ((w.alloc (.cells #[.func (.func g) #[] lv] 27)).alloc (.cells #[.int .i64 0] 3)).alloc (.cells #[.pointer pv] 51) = W0 at *
  have hF0 : Frm [] w W0 := Frm.of_below hB0
  refine wpIn_rangeFunc_ownG rfl (by omega) (gf := 41) (lb := #[.pointer (some ⟨w.heap.size + 1 + 1, 0, none⟩)]) rfl trivial (enters_of Try.func41 (by kernel_rfl) rfl)
    (hS W0 (w.heap.size + 1 + 1) (w.heap.size + 3) [w.heap.size + 1] hF0 (by omega) (by omega) (by omega) (by simp) (by simp) bN) KeepX.trans (KeepX.put (by omega)) (Below.refl _ _) (fun _ => rfl)
    (fun pre W => ((∀ q ∈ pre, p q.2 = false) ∧ Boxed W (w.heap.size + 1) 3 (.int .i64 0) ∧ Boxed W w.heap.size 27 (.func (.func g) #[] lv)) ∧ Below w.heap.size w W)
    (fun c pre W => (c = .ret ∧ ∃ ini last, pre = ini ++ [last] ∧ (∀ q ∈ ini, p q.2 = false) ∧ p last.2 = true ∧ Boxed W (w.heap.size + 1) 3 (.int .i64 (last.1 : Int))) ∧ Below w.heap.size w W)
    (OwnFrom.and (_root_.Go.Own.from (fun s A B row hs hg hr => ⟨hs.1, boxed_own _ _ (fun _ : Unit => _) () A B row hs.2.1 hg hr, boxed_own _ _ (fun _ : Unit => _) () A B row hs.2.2 hg hr⟩) _) (ownFrom_below (Nat.le_refl _) (by omega)))
    (fun c => OwnFrom.and (_root_.Go.Own.from (fun s A B row hs hg hr => by obtain ⟨hc, ini, last, e1, e2, e3, e4⟩ := hs; exact ⟨hc, ini, last, e1, e2, e3, boxed_own _ _ (fun _ : Unit => _) () A B row e4 hg hr⟩) _) (ownFrom_below (Nat.le_refl _) (by omega)))
    ⟨⟨by simp, bO', bF'⟩, hB0⟩
    (fun x => { tmps := #[.pointer pv, .func (.func g) #[] lv, undef, .pointer (some ⟨w.heap.size, 0, none⟩), .pointer (some ⟨w.heap.size + 1, 0, none⟩), .int .i64 (x.1 : Int), .int .i64 x.2, .pointer pv, .func (.func 41) #[] #[.pointer (some ⟨w.heap.size + 1 + 1, 0, none⟩)], .int .i64 (x.1 : Int), .int .i64 x.2, undef, undef, undef, undef, undef, undef, undef, undef], defers := [] }) ?assign ?body ?done ?stop
  case assign =>
    intro l x W K hK
    gi_wp2
    exact hK
  case body =>
    rintro l pre x W ⟨⟨hp, hr, hF⟩, hB⟩ _
    have hcf := hF.cell
    have hcr := hr.cell
    have hfr := hr.frozen
    have hne := fun_neq g lv
    have hgg := HG.out
    have HP := Lib.hid hp
    have HFr := Lib.hid hr
    have HFf := Lib.hid hF
    clear hp hr hF
    gi_wp2_with fail
    refine ⟨trivial, ?_⟩
    refine (CallsIn.inRound l (callsIn_wide.2 (HC.out x.2 W (Frm.of_below hB)))).mono ?_
    rintro e w2 ⟨rfl, rfl⟩
    cases hpx : p x.2 with
    | true =>
      gi_wp2
      exact ⟨(KeepsOthers.setCell _ _ _).from _, ⟨rfl, pre, x, rfl, HP.out, hpx, Boxed.set HFr.out _⟩, hB.setCell (p := ⟨w.heap.size + 1, 0, none⟩) (by simp) _⟩
    | false =>
      gi_wp2
      exact ⟨KeepsFrom.refl _ _, KeepX.refl _ _ _, ⟨fun q hq => (List.mem_append.1 hq).elim (HP.out q) (fun e => by simp at e; subst e; exact hpx), HFr.out, HFf.out⟩, hB⟩
  case done =>
    rintro D ys W hD rfl ⟨⟨hne, hr, hF⟩, hB⟩ hK
    have hcr := hr.cell
    have hfr := hr.frozen
    have HN := Lib.hid hne
    have HFr := Lib.hid hr
    clear hne hr hF
    gi_wp2
    have hK' := (KeepsOthers.setCell W ⟨w.heap.size + 1, 0, none⟩ (.int .i64 (-1))).same D _ hK rfl
    refine ⟨by simp, .inl ⟨_, _, rfl, run_takeDeferred hK', ?_⟩⟩
    have hc5 := cell_kept (Boxed.set HFr.out (.int .i64 (-1))).cell (grownBy_putObj' _ D (.deferred none)) (fun r e => by cases e; exact ⟨_, hK', rfl⟩)
    have hv : findI p xs 0 = -1 := findI_none fun x hx => by
      obtain ⟨j, hj, hm⟩ := mem_upR hx
      exact HN.out _ hm
    refine ⟨.int .i64 (-1), ?_, by rw [hv], Frm.of_below ((hB.setCell (p := ⟨w.heap.size + 1, 0, none⟩) (by simp) _).trans (belowK_b (w := w) (Nat.le_refl _) _ D _ _ (by omega) hK' rfl rfl))⟩
    simp [results, Try.f28, go_sem, hc5]
  case stop =>
    rintro D c pre W hD ⟨k, hk, rfl⟩ ⟨⟨rfl, ini, last, e1, e2, e3, hr⟩, hB⟩ hK
    have hcr := hr.cell
    have HFr := Lib.hid hr
    have E1 := Lib.hid e1
    have E2 := Lib.hid e2
    have E3 := Lib.hid e3
    clear hr e1 e2 e3
    gi_wp2
    refine ⟨by simp, .inl ⟨_, _, rfl, run_takeDeferred hK, ?_⟩⟩
    have hc5 := cell_kept HFr.out.cell (grownBy_putObj' _ D (.deferred none)) (fun r e => by cases e; exact ⟨_, hK, rfl⟩)
    have e1 := E1.out
    obtain ⟨k', rfl⟩ : ∃ k', k = k' + 1 := by
      cases k with
      | zero => simp [upR] at e1
      | succ k' => exact ⟨k', rfl⟩
    rw [upR_succ] at e1
    obtain ⟨rfl, e5⟩ := List.append_inj' e1 rfl
    obtain rfl : (k', xs[k']?.getD 0) = last := by simpa using e5
    have hv := findI_up hk E2.out E3.out
    refine ⟨.int .i64 (k' : Int), ?_, by rw [hv], Frm.of_below (hB.trans (belowK_b (w := w) (Nat.le_refl _) W D _ _ (by omega) hK rfl rfl))⟩
    simp [results, Try.f28, go_sem, hc5]
set_option maxRecDepth 100000 in
set_option maxHeartbeats 2000000 in
theorem Find_empty {w : World} {pv : Option Addr} (hS : SeqR w pv []) :
    Calls Try.prog 28 #[.pointer pv, .nilFunc] w fun e w' => e = .returned (.int .i64 (-1)) ∧ Frm [] w w' := by
  refine (callsIn_wide (n := 5)).1 ?_
  refine callsIn_of_wp_marks Try.func28 rfl trivial ?_ rfl
  simp only [Try.ntmps28, List.size_toArray, List.length_cons, List.length_nil, Nat.reduceAdd, Nat.reduceSub, Array.replicate_succ, Array.replicate_zero, List.push_toArray, List.append_toArray, List.nil_append, List.cons_append]
  gi_wp2_with fail
  refine ⟨trivial, ?_⟩
  refine (callsIn_wide.2 (All_any _ _)).mono ?_
  rintro e w1 ⟨rfl, rfl⟩
  gi_wp2_with fail
  have bF := Boxed.new w 27 (.nilFunc)
  have bO := Boxed.new (w.alloc (.cells #[.nilFunc] 27)) 3 (.int .i64 0)
  have bN := Boxed.new ((w.alloc (.cells #[.nilFunc] 27)).alloc (.cells #[.int .i64 0] 3)) 51 (.pointer pv)
  have hB0 : Below w.heap.size w (((w.alloc (.cells #[.nilFunc] 27)).alloc (.cells #[.int .i64 0] 3)).alloc (.cells #[.pointer pv] 51)) := (((Below.refl _ w).alloc (Nat.le_refl _) _).alloc (by simp) _).alloc (by simp; omega) _
  have bF' := (bF.alloc (.cells #[.int .i64 0] 3)).alloc (.cells #[.pointer pv] 51)
  have bO' := bO.alloc (.cells #[.pointer pv] 51)
  simp only [World.size_alloc] at bN bO'
  have hsz : (((w.alloc (.cells #[.nilFunc] 27)).alloc (.cells #[.int .i64 0] 3)).alloc (.cells #[.pointer pv] 51)).heap.size = w.heap.size + 3 := by simp
  generalize ((w.alloc (.cells #[.nilFunc] 27)).alloc (.cells #[.int .i64 0] 3)).alloc (.cells #[.pointer pv] 51) = W0 at *
  have hF0 : Frm [] w W0 := Frm.of_below hB0
  refine wpIn_rangeFunc_ownG rfl (by omega) (gf := 41) (lb := #[.pointer (some ⟨w.heap.size + 1 + 1, 0, none⟩)]) rfl trivial (enters_of Try.func41 (by kernel_rfl) rfl)
    (hS W0 (w.heap.size + 1 + 1) (w.heap.size + 3) [w.heap.size + 1] hF0 (by omega) (by omega) (by omega) (by simp) (by simp) bN) KeepX.trans (KeepX.put (by omega)) (Below.refl _ _) (fun _ => rfl)
    (fun pre W => (pre = [] ∧ Boxed W (w.heap.size + 1) 3 (.int .i64 0) ∧ Boxed W w.heap.size 27 (.nilFunc)) ∧ Below w.heap.size w W)
    (fun _ _ _ => False)
    (OwnFrom.and (_root_.Go.Own.from (fun s A B row hs hg hr => ⟨hs.1, boxed_own _ _ (fun _ : Unit => _) () A B row hs.2.1 hg hr, boxed_own _ _ (fun _ : Unit => _) () A B row hs.2.2 hg hr⟩) _) (ownFrom_below (Nat.le_refl _) (by omega)))
    (fun _ _ _ _ _ hs _ _ => hs)
    ⟨⟨rfl, bO', bF'⟩, hB0⟩
    (fun x => { tmps := #[.pointer pv, .nilFunc, undef, .pointer (some ⟨w.heap.size, 0, none⟩), .pointer (some ⟨w.heap.size + 1, 0, none⟩), .int .i64 (x.1 : Int), .int .i64 x.2, .pointer pv, .func (.func 41) #[] #[.pointer (some ⟨w.heap.size + 1 + 1, 0, none⟩)], .int .i64 (x.1 : Int), .int .i64 x.2, undef, undef, undef, undef, undef, undef, undef, undef], defers := [] }) ?assign ?body ?done ?stop
  case assign =>
    intro l x W K hK
    gi_wp2
    exact hK
  case body =>
    intro l pre x W _ hlt
    exact absurd hlt (by simp)
  case done =>
    rintro D ys W hD rfl ⟨⟨hne, hr, hF⟩, hB⟩ hK
    have hcr := hr.cell
    have hfr := hr.frozen
    have HN := Lib.hid hne
    have HFr := Lib.hid hr
    clear hne hr hF
    gi_wp2
    have hK' := (KeepsOthers.setCell W ⟨w.heap.size + 1, 0, none⟩ (.int .i64 (-1))).same D _ hK rfl
    refine ⟨by simp, .inl ⟨_, _, rfl, run_takeDeferred hK', ?_⟩⟩
    have hc5 := cell_kept (Boxed.set HFr.out (.int .i64 (-1))).cell (grownBy_putObj' _ D (.deferred none)) (fun r e => by cases e; exact ⟨_, hK', rfl⟩)
    refine ⟨.int .i64 (-1), ?_, rfl, Frm.of_below ((hB.setCell (p := ⟨w.heap.size + 1, 0, none⟩) (by simp) _).trans (belowK_b (w := w) (Nat.le_refl _) _ D _ _ (by omega) hK' rfl rfl))⟩
    simp [results, Try.f28, go_sem, hc5]
  case stop =>
    rintro D c pre W _ _ h _
    exact h.elim
end Go.Proofs.Yteapniipkpijkaa
