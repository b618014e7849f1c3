/- The contract of the law's all: a ring's things, as it is gone through. -/
import Derived.Test.YteapniipkpijkaaRingFind
import Derived.Deep.DeepMust
namespace Go.Proofs.Yteapniipkpijkaa
open Go.RowKit Go.Shelf
attribute [local go_sem] Oper.semAt_some

theorem fun_eql (g : Nat) (lv : Array Value) (W : World) : (binOp .eql 57 (.func (.func g) #[] lv) .nilFunc).run Try.prog W = .ok (.bool false) W := by
  rfl
theorem Frm.keepX {Z : List Nat} {W W' : World} (h : Frm Z W W') {n : Nat} (hn : n ≤ W.heap.size) {Z' : List Nat} (hz : ∀ k, k < n → k ∈ Z → k ∈ Z') : KeepX n Z' W W' := fun k hk hz' => h.block k (by omega) (fun hm => hz' (hz k hk hm))
theorem ownFrom_frm {β : Type} {Z : List Nat} {W0 : World} {B : Nat} (hB : W0.heap.size ≤ B) : OwnFrom B (fun (_ : β) W => Frm Z W0 W) :=
  fun _ _ _ row hs hg hr => hs.widen (S' := row.toList) (Frm.of_grown hg (fun k hk => .inl (by simp [hk]))) (fun k hk => .inr (by have := (hr k (by simpa using hk)).1; omega))
theorem appendedX {W w1 : World} {n₀ B : Nat} {t e : TypeId} {size : Nat} {v v' : Value} {k m : Nat} {xs ys : List Value} {tmp : Obj} (hv : Boxed W B t v) (hB : B < n₀) (hn₀ : n₀ ≤ W.heap.size) (hrow : W.ownsRow n₀ e size v k xs)
    (hown' : w1.ownsRow n₀ e size v' m ys) (hgrow : (W.alloc tmp).grownBy w1 v.ownBlock) :
    Boxed w1 B t v ∧ Boxed (w1.setCell ⟨B, 0, none⟩ v') B t v' ∧ (w1.setCell ⟨B, 0, none⟩ v').ownsRow n₀ e size v' m ys ∧ KeepsOthers W (w1.setCell ⟨B, 0, none⟩ v') ∧ (∀ k, k < n₀ → w1.heap[k]? = W.heap[k]?) ∧ (∀ k, k < n₀ → k ≠ B → (w1.setCell ⟨B, 0, none⟩ v').heap[k]? = W.heap[k]?) ∧
    (∀ (Z : List Nat) (W0 : World), Frm Z W0 W → B ∈ Z → W0.heap.size ≤ n₀ → Frm Z W0 (w1.setCell ⟨B, 0, none⟩ v')) := by
  have hob : ∀ j, v.ownBlock = some j → n₀ ≤ j := by
    intro j ej
    rcases hrow.2 with ⟨rfl, _⟩ | ⟨g, cap, cur, rfl, hb, _, _⟩
    · simp [Value.ownBlock] at ej
    · obtain rfl : g = j := by simpa [Value.ownBlock] using ej
      exact hb
  have hob' : v'.ownBlock ≠ some B := by
    intro ej
    rcases hown'.2 with ⟨rfl, _⟩ | ⟨g, cap, cur, rfl, hb, _, _⟩
    · simp [Value.ownBlock] at ej
    · obtain rfl : g = B := by simpa [Value.ownBlock] using ej
      omega
  have hw1 : ∀ k, k < n₀ → w1.heap[k]? = W.heap[k]? := fun k hk =>
    (hgrow.block k (by simp; omega) (fun ej => by have := hob k ej.symm; omega)).trans (Below.heap_alloc _ _ _ (by omega))
  have hv1 : Boxed w1 B t v := (hw1 B hB).trans hv
  refine ⟨hv1, Boxed.set hv1 v', hown'.kept (grownBy_setCell' w1 B v') (.inr hob'), ?_, hw1, fun k hk hne => (Below.heap_setCell _ _ _ k hne).trans (hw1 k hk), fun Z W0 hF hZ hS => ?_⟩
  rotate_left
  · refine (Frm.set (S := Z) (a := W0) ?_ _ _ (.inl hZ))
    refine ⟨hgrow.os.trans hF.os, hgrow.tape.trans hF.tape, hgrow.output.trans hF.output, ?_, fun k hk hn => (hw1 k (by omega)).trans (hF.block k hk hn)⟩
    have := hF.size
    have := hgrow.size
    rw [World.size_alloc] at this
    omega
  refine ((KeepsOthers.alloc W tmp).trans (KeepsOthers.of_grownBy hgrow fun j o ej hj => ?_)).trans (KeepsOthers.setCell _ _ _)
  rcases (hrow.alloc tmp).2 with ⟨rfl, _⟩ | ⟨g, cap, cur, rfl, _, hgb, _⟩
  · simp [Value.ownBlock] at ej
  · obtain rfl : g = j := by simpa [Value.ownBlock] using ej
    rw [hgb] at hj; cases hj; rfl

/-- what the law's all holds between two rounds: its result's box and its row's box; s: blocks from s on are its own -/
def AllI (s most : Nat) (pre : List (Nat × Int)) (W : World) : Prop :=
  (pre.length < most ∧ Boxed W (s + 1) 34 (.slice none 0 0)) ∧ ∃ v, Boxed W (s + 1 + 1) 34 v ∧ W.ownsRow (s + 4) 3 1 v pre.length ((pre.map fun q => q.2).map (Value.int .i64)) ∧ True
def AllX (s most : Nat) (c : Code) (pre : List (Nat × Int)) (W : World) : Prop :=
  (c = .ret ∧ ∃ (ini : List (Nat × Int)) (last : Nat × Int), pre = ini ++ [last] ∧ last.1 ≠ ini.length) ∨
  (c = .exit 0 ∧ pre.length = most ∧ Boxed W (s + 1) 34 (.slice none 0 0) ∧ ∃ v, Boxed W (s + 1 + 1) 34 v ∧ W.ownsRow (s + 4) 3 1 v pre.length ((pre.map fun q => q.2).map (Value.int .i64)) ∧ True)
theorem allI_own (s most : Nat) : _root_.Go.Own (AllI s most) := fun pre A B row h hg hr =>
  ⟨⟨h.1.1, boxed_own _ _ (fun _ : Unit => _) () A B row h.1.2 hg hr⟩, holdsRow_own (s + 4) (s + 1 + 1) 34 3 1 (fun pre : List (Nat × Int) => pre.length) (fun pre => (pre.map fun q => q.2).map (Value.int .i64)) (fun _ _ => True) pre A B row h.2 hg hr⟩
theorem allX_own (s most : Nat) (c : Code) : _root_.Go.Own (AllX s most c) := fun pre A B row h hg hr => by
  rcases h with h | ⟨h1, h2, h3, h4⟩
  · exact .inl h
  · exact .inr ⟨h1, h2, boxed_own _ _ (fun _ : Unit => _) () A B row h3 hg hr, holdsRow_own (s + 4) (s + 1 + 1) 34 3 1 (fun pre : List (Nat × Int) => pre.length) (fun pre => (pre.map fun q => q.2).map (Value.int .i64)) (fun _ _ => True) pre A B row h4 hg hr⟩

set_option maxRecDepth 100000 in
set_option maxHeartbeats 2000000 in
theorem all_of {w : World} {pv : Option Addr} {xs : List Int} (hS : SeqR w pv xs) (hbig : xs.length ≤ 300) (most : Nat) (hm : 1 ≤ most) (hm2 : most ≤ 1000) :
    Calls Try.prog 32 #[.pointer pv, .int .i64 most] w fun e w' => ∃ v, e = .returned v ∧ Own w' w.heap.size v (xs.take most) ∧ Frm [] w w' := by
  obtain ⟨i0, hi, hz0, hz1, hz2⟩ := info_parts intInfo
  refine (callsIn_wide (n := 5)).1 ?_
  refine callsIn_of_wp_marks Try.func32 rfl trivial ?_ rfl
  simp only [Try.ntmps32, List.size_toArray, List.length_cons, List.length_nil, Nat.reduceAdd, Nat.reduceSub, Array.replicate_succ, Array.replicate_zero, List.push_toArray, List.append_toArray, List.nil_append, List.cons_append]
  have heq := fun_eql 41
  gi_wp2_with fail
  refine ⟨trivial, ?_⟩
  refine (callsIn_wide.2 (All_any _ _)).mono ?_
  rintro e w1 ⟨rfl, rfl⟩
  gi_wp2_with fail
  have bM := (((Boxed.new w 3 (.int .i64 most)).alloc (.cells #[.slice none 0 0] 34)).alloc (.cells #[.slice none 0 0] 34)).alloc (.cells #[.pointer pv] 51)
  have bR := ((Boxed.new (w.alloc (.cells #[.int .i64 most] 3)) 34 (.slice none 0 0)).alloc (.cells #[.slice none 0 0] 34)).alloc (.cells #[.pointer pv] 51)
  have bO := (Boxed.new ((w.alloc (.cells #[.int .i64 most] 3)).alloc (.cells #[.slice none 0 0] 34)) 34 (.slice none 0 0)).alloc (.cells #[.pointer pv] 51)
  have bN := Boxed.new (((w.alloc (.cells #[.int .i64 most] 3)).alloc (.cells #[.slice none 0 0] 34)).alloc (.cells #[.slice none 0 0] 34)) 51 (.pointer pv)
  have hF0 : Frm [] w ((((w.alloc (.cells #[.int .i64 most] 3)).alloc (.cells #[.slice none 0 0] 34)).alloc (.cells #[.slice none 0 0] 34)).alloc (.cells #[.pointer pv] 51)) := ((((Frm.refl _ _).alloc _).alloc _).alloc _).alloc _
  have hsz : ((((w.alloc (.cells #[.int .i64 most] 3)).alloc (.cells #[.slice none 0 0] 34)).alloc (.cells #[.slice none 0 0] 34)).alloc (.cells #[.pointer pv] 51)).heap.size = w.heap.size + 4 := by simp
  simp only [World.size_alloc] at bR bO bN
  generalize (((w.alloc (.cells #[.int .i64 most] 3)).alloc (.cells #[.slice none 0 0] 34)).alloc (.cells #[.slice none 0 0] 34)).alloc (.cells #[.pointer pv] 51) = W0 at *
  have HM := Lib.hid bM
  have HF0 := Lib.hid hF0
  clear bM hF0
  refine wpIn_rangeFunc_ownG rfl (by omega) (gf := 41) (lb := #[.pointer (some ⟨w.heap.size + 1 + 1 + 1, 0, none⟩)]) rfl trivial (enters_of Try.func41 (by kernel_rfl) rfl)
    (hS W0 (w.heap.size + 1 + 1 + 1) (w.heap.size + 4) [w.heap.size + 1 + 1] HF0.out (by omega) (by omega) (by omega) (by simp) (by simp; omega) bN) KeepX.trans (KeepX.put (by omega)) (Below.refl _ _) (fun _ => rfl)
    (fun pre W => AllI w.heap.size most pre W ∧ Frm [w.heap.size + 1, w.heap.size + 1 + 1] W0 W)
    (fun c pre W => AllX w.heap.size most c pre W ∧ Frm [w.heap.size + 1, w.heap.size + 1 + 1] W0 W)
    (OwnFrom.and (_root_.Go.Own.from (allI_own _ _) _) (ownFrom_frm (Nat.le_refl _)))
    (fun c => OwnFrom.and (_root_.Go.Own.from (allX_own _ _ c) _) (ownFrom_frm (Nat.le_refl _)))
    ⟨⟨⟨by simp; omega, bR⟩, _, bO, World.ownsRow_nil _ _ _ _, trivial⟩, Frm.refl _ _⟩
    (fun x => { tmps := #[.pointer pv, .int .i64 most, undef, .pointer (some ⟨w.heap.size, 0, none⟩), .pointer (some ⟨w.heap.size + 1, 0, none⟩), .pointer (some ⟨w.heap.size + 1 + 1, 0, none⟩), .func (.func 41) #[] #[.pointer (some ⟨w.heap.size + 1 + 1 + 1, 0, none⟩)], .int .i64 (x.1 : Int), .int .i64 x.2, .pointer pv, .func (.func 41) #[] #[.pointer (some ⟨w.heap.size + 1 + 1 + 1, 0, none⟩)], .func (.func 41) #[] #[.pointer (some ⟨w.heap.size + 1 + 1 + 1, 0, none⟩)], .bool false, .func (.func 41) #[] #[.pointer (some ⟨w.heap.size + 1 + 1 + 1, 0, none⟩)], .int .i64 (x.1 : Int), .int .i64 x.2, undef, undef, undef, undef, undef, undef, undef, undef, undef, undef, undef, undef, undef], defers := [] }) ?assign ?body ?done ?stop
  case assign =>
    intro l x W K hK
    gi_wp2
    exact hK
  case body =>
    rintro l pre x W ⟨⟨⟨hpm, hr⟩, v, hv, hrow, -⟩, hF⟩ hlt
    have hc := hv.cell
    have hcr := hr.cell
    have hfr := hr.frozen
    obtain ⟨hvlen, -⟩ : (∃ a cap, v = .slice a pre.length cap) ∧ True := by
      refine ⟨?_, trivial⟩
      rcases hrow.2 with ⟨rfl, h0⟩ | ⟨g, cap, cur, rfl, -⟩
      · exact ⟨none, 0, by rw [h0]⟩
      · exact ⟨_, _, rfl⟩
    obtain ⟨a, cap, rfl⟩ := hvlen
    have HV := Lib.hid hv
    have HRr := Lib.hid hr
    have HROW := Lib.hid hrow
    have HF := Lib.hid hF
    have hbnd : pre.length < 300 := by omega
    clear hv hr hrow hF
    have hsz1 : w.heap.size + 4 ≤ W.heap.size := by have := HF.out.size; omega
    have hcm : Hid (Boxed W w.heap.size 3 (.int .i64 most)) := Lib.hid ((HF.out.block _ (by omega) (by simp; omega)).trans HM.out)
    by_cases hx1 : x.1 = pre.length
    · have t1 : ((x.1 : Int) != (pre.length : Int)) = false := by simp; omega
      have t2 : (x.1 != pre.length) = false := by simpa using hx1
      clear hx1
      by_cases hge : most ≤ pre.length + 1
      · have g1 : decide ((most : Int) ≤ pre.length + 1) = true := by simp; omega
        have g2 : decide (most ≤ pre.length + 1) = true := by simp; omega
        gi_wp2_with (gi_at_builtin; go_must (refine wpListIn_append_own _ rfl _ _ 34 rfl (w.heap.size + 4) 3 i0 (.int .i64 0) 1 8 Try.underlying34 hi hz0 hz1 hz2 rfl (by decide) _ _ _ rfl (HROW.out.alloc _) ⟨W.heap.size, 0, none⟩ 1 1 [.int .i64 x.2] rfl rfl (cell_one_new _ _ _) (by simp [Value.oneCell']) (by unfold maxLen; omega) (by omega) (by rw [World.size_alloc]; omega) ?_; intro v' w1 hown' hgrow _; obtain ⟨g', cap', rfl⟩ := ownsRow_succ hown'; obtain ⟨hv1, hv2, hr2, hk2, hb2, hb3, hf3⟩ := appendedX HV.out (by omega) hsz1 HROW.out hown' hgrow; have hc1 := hv1.cell; have hf1 := hv1.frozen; have hcm1 : w1.cell? ⟨w.heap.size, 0, none⟩ = some (.int .i64 most) := (show Boxed w1 w.heap.size 3 (.int .i64 most) from (hb2 _ (by omega)).trans hcm.out).cell; have HV2 := Lib.hid hv2; have HR2 := Lib.hid hr2; have HK2 := Lib.hid hk2; have HB2 := Lib.hid hb2; have HB3 := Lib.hid hb3; have HF2 := Lib.hid (hf3 _ _ HF.out (by simp) (by omega)); clear hv1 hv2 hr2 hk2 hb2 hb3 hown' hgrow hf3))
        have hr3 := HR2.out
        exact ⟨HK2.out.from _, .inr ⟨rfl, by simp; omega, (HB3.out _ (by omega) (by omega)).trans HRr.out, _, HV2.out, by simpa using hr3, trivial⟩, HF2.out⟩
      · have g1 : decide ((most : Int) ≤ pre.length + 1) = false := by simp; omega
        have g2 : decide (most ≤ pre.length + 1) = false := by simp; omega
        gi_wp2_with (gi_at_builtin; go_must (refine wpListIn_append_own _ rfl _ _ 34 rfl (w.heap.size + 4) 3 i0 (.int .i64 0) 1 8 Try.underlying34 hi hz0 hz1 hz2 rfl (by decide) _ _ _ rfl (HROW.out.alloc _) ⟨W.heap.size, 0, none⟩ 1 1 [.int .i64 x.2] rfl rfl (cell_one_new _ _ _) (by simp [Value.oneCell']) (by unfold maxLen; omega) (by omega) (by rw [World.size_alloc]; omega) ?_; intro v' w1 hown' hgrow _; obtain ⟨g', cap', rfl⟩ := ownsRow_succ hown'; obtain ⟨hv1, hv2, hr2, hk2, hb2, hb3, hf3⟩ := appendedX HV.out (by omega) hsz1 HROW.out hown' hgrow; have hc1 := hv1.cell; have hf1 := hv1.frozen; have hcm1 : w1.cell? ⟨w.heap.size, 0, none⟩ = some (.int .i64 most) := (show Boxed w1 w.heap.size 3 (.int .i64 most) from (hb2 _ (by omega)).trans hcm.out).cell; have HV2 := Lib.hid hv2; have HR2 := Lib.hid hr2; have HK2 := Lib.hid hk2; have HB2 := Lib.hid hb2; have HB3 := Lib.hid hb3; have HF2 := Lib.hid (hf3 _ _ HF.out (by simp) (by omega)); clear hv1 hv2 hr2 hk2 hb2 hb3 hown' hgrow hf3))
        have hr3 := HR2.out
        exact ⟨HK2.out.from _, fun k hk hz => HB3.out k hk (by simpa using hz), ⟨⟨by simp; omega, (HB3.out _ (by omega) (by omega)).trans HRr.out⟩, _, HV2.out, by simpa using hr3, trivial⟩, HF2.out⟩
    · have t1 : ((x.1 : Int) != (pre.length : Int)) = true := by simp; omega
      have t2 : (x.1 != pre.length) = true := by simpa using hx1
      gi_wp2
      exact ⟨(KeepsOthers.setCell _ _ _).from _, .inl ⟨rfl, pre, x, rfl, hx1⟩, HF.out.set _ _ (by simp)⟩
  case done =>
    rintro D ys W hD rfl ⟨⟨⟨hpm, hr⟩, v, hv, hrow, -⟩, hF⟩ hK
    have hc := hv.cell
    have hcr := hr.cell
    have hfr := hr.frozen
    rw [upR_len] at hpm hrow
    have hrow' : Own W (w.heap.size + 4) v xs := by
      have e : (upR xs xs.length).map (fun q => q.2) = xs := by
        apply List.ext_getElem
        · simp [upR]
        · intro i h1 h2; simp [upR, h2]
      rw [e] at hrow
      exact hrow
    have HROW := Lib.hid hrow'
    have HRr := Lib.hid hr
    have HF := Lib.hid hF
    clear hr hrow hrow' hF hv
    obtain ⟨a, cap, rfl⟩ : ∃ a cap, v = .slice a xs.length cap := by
      rcases HROW.out.2 with ⟨rfl, h0⟩ | ⟨g, cap, cur, rfl, -⟩
      · exact ⟨none, 0, by rw [h0]⟩
      · exact ⟨_, _, rfl⟩
    gi_wp2
    have hK' := (KeepsOthers.setCell W ⟨w.heap.size + 1, 0, none⟩ (.slice a xs.length cap)).same D _ hK rfl
    refine ⟨by simp, .inl ⟨_, _, rfl, run_takeDeferred hK', ?_⟩⟩
    have hc5 := cell_kept (Boxed.set HRr.out (.slice a xs.length cap)).cell (grownBy_putObj' _ D (.deferred none)) (fun r e => by cases e; exact ⟨_, hK', rfl⟩)
    have hG := (HF0.out.widen HF.out (by simp; omega)).set ⟨w.heap.size + 1, 0, none⟩ (.slice a xs.length cap) (.inr (by simp))
    have hO : Own (W.setCell ⟨w.heap.size + 1, 0, none⟩ (.slice a xs.length cap)) (w.heap.size + 4) (.slice a xs.length cap) xs := HROW.out.frm ((Frm.refl [w.heap.size + 1] W).set _ _ (.inl (by simp))) (by simp)
    refine ⟨.slice a xs.length cap, ?_, _, rfl, ?_, hG.widen (S' := [D]) (Frm.of_grown (grownBy_putObj' _ D _) (fun k hk => .inl (by simp at hk; simp [hk]))) (by simp; omega)⟩
    · simp [results, Try.f32, go_sem, hc5]
    · have hO2 : Own ((W.setCell ⟨w.heap.size + 1, 0, none⟩ (.slice a xs.length cap)).putObj D (.deferred none)) (w.heap.size + 4) (.slice a xs.length cap) xs := ownsRow_putObj hO _ hK' rfl
      rw [List.take_of_length_le (by omega)]
      exact hO2.base (by omega)
  case stop =>
    rintro D c pre W hD ⟨k, hk, rfl⟩ ⟨hX, hF⟩ hK
    rcases hX with ⟨rfl, ini, last, e1, e2⟩ | ⟨rfl, hpm, hr, v, hv, hrow, -⟩
    · exfalso
      obtain ⟨k', rfl⟩ : ∃ k', k = k' + 1 := by
        cases k with
        | zero => simp [upR] at e1
        | succ k' => exact ⟨k', rfl⟩
      rw [upR_succ] at e1
      obtain ⟨rfl, e5⟩ := List.append_inj' e1 rfl
      obtain rfl : (k', xs[k']?.getD 0) = last := by simpa using e5
      exact e2 (by rw [upR_len])
    · have hc := hv.cell
      have hcr := hr.cell
      have hfr := hr.frozen
      rw [upR_len] at hpm hrow
      obtain rfl : k = most := hpm
      have hrow' : Own W (w.heap.size + 4) v (xs.take k) := by
        have e : (upR xs k).map (fun q => q.2) = xs.take k := by
          apply List.ext_getElem
          · simp [upR]; omega
          · intro i h1 h2
            have : i < xs.length := by simp at h2; omega
            simp [upR, this]
        rw [e] at hrow
        unfold Own
        rw [List.length_take, Nat.min_eq_left hk]
        exact hrow
      have HROW := Lib.hid hrow'
      have HRr := Lib.hid hr
      have HF := Lib.hid hF
      have hkl : (xs.take k).length = k := by rw [List.length_take, Nat.min_eq_left hk]
      have HKL := Lib.hid hkl
      clear hr hrow hrow' hF hv hkl
      obtain ⟨a, cap, rfl⟩ : ∃ a cap, v = .slice a k cap := by
        rcases HROW.out.2 with ⟨rfl, h0⟩ | ⟨g, cap, cur, rfl, -⟩
        · rw [HKL.out] at h0; omega
        · rw [HKL.out]; exact ⟨_, _, rfl⟩
      gi_wp2
      have hK' := (KeepsOthers.setCell W ⟨w.heap.size + 1, 0, none⟩ (.slice a k cap)).same D _ hK rfl
      refine ⟨by simp, .inl ⟨_, _, rfl, run_takeDeferred hK', ?_⟩⟩
      have hc5 := cell_kept (Boxed.set HRr.out (.slice a k cap)).cell (grownBy_putObj' _ D (.deferred none)) (fun r e => by cases e; exact ⟨_, hK', rfl⟩)
      have hG := (HF0.out.widen HF.out (by simp; omega)).set ⟨w.heap.size + 1, 0, none⟩ (.slice a k cap) (.inr (by simp))
      have hO : Own (W.setCell ⟨w.heap.size + 1, 0, none⟩ (.slice a k cap)) (w.heap.size + 4) (.slice a k cap) (xs.take k) := HROW.out.frm ((Frm.refl [w.heap.size + 1] W).set _ _ (.inl (by simp))) (by simp)
      refine ⟨.slice a k cap, ?_, _, rfl, ?_, hG.widen (S' := [D]) (Frm.of_grown (grownBy_putObj' _ D _) (fun k hk => .inl (by simp at hk; simp [hk]))) (by simp; omega)⟩
      · simp [results, Try.f32, go_sem, hc5]
      · have hO2 : Own ((W.setCell ⟨w.heap.size + 1, 0, none⟩ (.slice a k cap)).putObj D (.deferred none)) (w.heap.size + 4) (.slice a k cap) (xs.take k) := ownsRow_putObj hO _ hK' rfl
        exact hO2.base (by omega)
end Go.Proofs.Yteapniipkpijkaa
