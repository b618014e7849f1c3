/- The walk of the law RingOrder. -/
import Derived.Test.YteapniipkpijkaaRingAwake
import Derived.Deep.CutBlock
import Derived.Deep.DeepCutAuto
import Derived.Deep.DeepMust
namespace Go.Proofs.Yteapniipkpijkaa
open Go.RowKit Go.Shelf

/-- a ring in block w0.heap.size and a row of one's own beside it, n pushes behind -/
structure OI (w0 W : World) (out : Value) (zs xs : List Int) (n : Nat) : Prop where
  frm : Frm [] w0 W
  own : Own W (w0.heap.size + 1) out zs
  ring : ∃ lb cs f, RingAt W w0.heap.size lb cs f xs ∧ w0.heap.size < lb ∧ (∀ g, out.ownBlock = some g → g ≠ lb) ∧ (0 < cs.length ∨ n = 0)

theorem own_lt {W : World} {base : Nat} {out : Value} {zs : List Int} (h : Own W base out zs) {g : Nat} (hg : out.ownBlock = some g) : base ≤ g ∧ g < W.heap.size := by
  rcases h.2 with ⟨rfl, _⟩ | ⟨g', cap, cur, rfl, hb, hh, _⟩
  · simp [Value.ownBlock] at hg
  · obtain rfl : g' = g := by simpa [Value.ownBlock] using hg
    exact ⟨hb, (Array.getElem?_eq_some_iff.1 hh).1⟩
theorem own_keep {W W' : World} {base : Nat} {out : Value} {zs : List Int} (h : Own W base out zs) (hk : ∀ g, out.ownBlock = some g → W'.heap[g]? = W.heap[g]?) : Own W' base out zs := by
  obtain ⟨h1, h2⟩ := h
  refine ⟨h1, ?_⟩
  rcases h2 with h2 | ⟨g, cap, cur, rfl, hb, hh, r⟩
  · exact .inl h2
  · exact .inr ⟨g, cap, cur, rfl, hb, (hk g (by simp [Value.ownBlock])).trans hh, r⟩

section
variable {w0 W : World} {out : Value} {zs xs : List Int} {n : Nat}
theorem OI.push (h : OI w0 W out zs xs n) (x : Int) (hs : xs.length ≤ 100) : Calls Try.prog 21 #[.pointer (some ⟨w0.heap.size, 0, none⟩), .int .i64 x] W fun e w' => e = .returned (.tuple #[]) ∧ OI w0 w' out zs (xs ++ [x]) (n + 1) := by
  obtain ⟨lb, cs, f, hR, hlb, hg, hn⟩ := h.ring
  refine (Push_any x hR hs).mono ?_
  rintro e w' ⟨he, lb', cs', f', hR', hF, ho⟩
  have hsz := h.frm.size
  refine ⟨he, ⟨h.frm.widen hF (by simp; omega), own_keep h.own fun g hg' => hF.block g (own_lt h.own hg').2 (by have := (own_lt h.own hg').1; have := hg g hg'; simp; omega), lb', cs', f', hR', ?_, fun g hg' => ?_, ?_⟩⟩
  · have := hR.box.lt; omega
  · have := (own_lt h.own hg').2; have := hg g hg'; omega
  · left; have := hR'.many; simp at this; omega
theorem OI.pop (h : OI w0 W out zs xs n) : Calls Try.prog 22 #[.pointer (some ⟨w0.heap.size, 0, none⟩)] W fun e w' => e = .returned (.tuple #[.int .i64 (xs[0]?.getD 0), .bool (decide (0 < xs.length))]) ∧ OI w0 w' out zs xs.tail n := by
  obtain ⟨lb, cs, f, hR, hlb, hg, hn⟩ := h.ring
  refine (Pop_any hR).mono ?_
  rintro e w' ⟨he, cs', f', hR', hF, hl⟩
  exact ⟨he, ⟨h.frm.widen hF (by simp; omega), own_keep h.own fun g hg' => hF.block g (own_lt h.own hg').2 (by have := (own_lt h.own hg').1; have := hg g hg'; simp; omega), lb, cs', f', hR', hlb, hg, by omega⟩⟩
theorem OI.len (h : OI w0 W out zs xs n) : Calls Try.prog 27 #[.pointer (some ⟨w0.heap.size, 0, none⟩)] W fun e w' => e = .returned (.int .i64 xs.length) ∧ W = w' := by
  obtain ⟨lb, cs, f, hR, -⟩ := h.ring
  exact Len_any hR
theorem OI.drew (h : OI w0 W out zs xs n) (k : Nat) : OI w0 (W.drewN k) out zs xs n := by
  obtain ⟨lb, cs, f, hR, h1⟩ := h.ring
  exact ⟨h.frm.drew k, h.own.frm ((Frm.refl [] _).drew k) (by simp), lb, cs, f, hR.drew k, h1⟩
/-- what an append of one number leaves -/
theorem OI.append (h : OI w0 W out zs xs n) (hn : 0 < n) {o : Obj} {w1 : World} {out' : Value} {x : Int} (hown : w1.ownsRow (w0.heap.size + 1) 3 1 out' (zs.length + 1) (zs.map (Value.int .i64) ++ [.int .i64 x])) (hg : (W.alloc o).grownBy w1 out.ownBlock)
    (hb : out'.ownBlock = out.ownBlock ∨ out'.ownBlock = some (W.alloc o).heap.size) : OI w0 w1 out' (zs ++ [x]) xs n := by
  obtain ⟨lb, cs, f, hR, hlb, hgl, hc⟩ := h.ring
  have hlt := hR.box.lt
  have hrow := hR.row (by omega)
  have hlt2 := hrow.lt
  have hF : Frm [] w0 w1 := (h.frm.alloc o).widen (S' := out.ownBlock.toList) (Frm.of_grown hg (fun k hk => .inl (by simp [hk]))) (fun k hk => .inr (by have := (own_lt h.own (by simpa using hk : out.ownBlock = some k)).1; omega))
  have hB : ∀ k, k < W.heap.size → out.ownBlock ≠ some k → w1.heap[k]? = W.heap[k]? := fun k hk hne => (hg.block k (by simp; omega) (fun e => hne e.symm)).trans (Below.heap_alloc _ _ _ hk)
  refine ⟨hF, by unfold Own; simpa using hown, lb, cs, f, { hR with box := (hB _ hlt (fun e => by have := (own_lt h.own e).1; omega)).trans hR.box, row := fun _ => (hB _ hlt2 (fun e => hgl _ e rfl)).trans hrow }, hlb, fun g hg' => ?_, hc⟩
  rcases hb with hb | hb
  · exact hgl g (hb ▸ hg')
  · rw [hb] at hg'; simp at hg'; omega
end

theorem IsRow.rowAt {w w' : World} {v : Value} {zs : List Int} (h : IsRow .i64 w v zs) (hF : Frm [] w w') : RowAt w' 0 v zs := by
  obtain ⟨a, cap, h1, h2, h3, -⟩ := h
  refine ⟨a, cap, h1, h2, fun h0 => ?_⟩
  obtain ⟨b, off, h4, h5⟩ := h3 h0
  exact ⟨b, off, Nat.zero_le _, h4, fun i hi => by have := hF.cell (h5 i hi) (by simp); simpa using this⟩
theorem zeroOI (w : World) : OI w (w.alloc (.cells #[.slice none 0 0, .int .i64 0, .int .i64 0] 36)) (.slice none 0 0) [] [] 0 :=
  ⟨(Frm.refl _ _).alloc _, Own.nil _ _, w.heap.size + 1, [], 0, zeroRing w, by omega, fun g hg => by simp [Value.ownBlock] at hg, .inr rfl⟩
/-- a slice that owns its row is written out -/
theorem own_form {W : World} {base : Nat} {out : Value} {zs : List Int} (h : Own W base out zs) : ∃ a cap, out = .slice a zs.length cap := by
  rcases h.2 with ⟨rfl, h0⟩ | ⟨g, cap, cur, rfl, -⟩
  · exact ⟨none, 0, by rw [h0]⟩
  · exact ⟨_, _, rfl⟩

set_option maxRecDepth 100000 in
set_option maxHeartbeats 4000000 in
theorem ringOrder_short (v u : Value) (l ts : List Int) (w : World) (hv : IsRow .i64 w v l) (hu : IsRow .u8 w u ts) (hl : l.length ≤ 60) (ht : ts.length ≤ 100) :
    Calls Try.prog 7 #[v, u] w fun e w' => e = .returned (.bool true) ∧ Below w.heap.size w w' := by
  have HVR := Lib.hid hv
  obtain ⟨va, vcap, rfl, -, hvc, -⟩ := hv
  obtain ⟨ua, ucap, rfl, -, huc, huw⟩ := hu
  have d1 : decide ((60 : Int) < l.length) = false := by simp; omega
  have d2 : decide ((100 : Int) < ts.length) = false := by simp; omega
  have d3 : decide (60 < l.length) = false := by simp; omega
  have d4 : decide (100 < ts.length) = false := by simp; omega
  have HVC := Lib.hid hvc
  have HUC := Lib.hid huc
  have HUW := Lib.hid huw
  clear hvc huc huw
  go_enter Try.func7, Try.ntmps7
  go_wp2_with fail
  have hO := Lib.hid (zeroOI w)
  generalize w.alloc (.cells #[.slice none 0 0, .int .i64 0, .int .i64 0] 36) = W0 at *
  obtain ⟨i0, hi, hz0, hz1, hz2⟩ := info_parts intInfo
  have HIN := Lib.hid (And.intro hi (And.intro hz0 (And.intro hz1 hz2)))
  clear hi hz0 hz1 hz2
  go_loopw [6, 7] (fun out iv wx => ∃ (i : Nat) (zs xs : List Int), iv = .int .i64 i ∧ i ≤ l.length ∧ zs ++ xs = l.take i ∧ OI w wx out zs xs i) (fun _ iv _ => l.length - (intOf iv).toNat)
  case atStart => exact ⟨0, [], [], rfl, Nat.zero_le _, rfl, hO.out⟩
  case round =>
    obtain ⟨i, zs, xs, rfl, hil, hzx, hOI⟩ := hrel
    have HZX := Lib.hid hzx
    have HO1 := Lib.hid hOI
    clear hzx hOI hO
    obtain ⟨oa, ocap, rfl⟩ := own_form HO1.out.own
    by_cases hlt : i < l.length
    · have l1 : (i : Int) < l.length := by omega
      obtain ⟨vb, voff, rfl, hcell⟩ := HVC.out (by omega)
      have hx : l.getD i 0 = l[i] := by simp [hlt]
      have c0 := HO1.out.frm.cell (hcell i hlt) (by simp)
      rw [hx] at c0
      have hlen : zs.length + xs.length = i := by have := congrArg List.length HZX.out; simp at this; omega
      have hst : zs ++ (xs ++ [l[i]]) = l.take (i + 1) := by rw [← List.append_assoc, HZX.out, List.take_succ_eq_append_getElem hlt]
      have HST := Lib.hid hst
      clear hx hst
      generalize l[i] = x at *
      have HCL := Lib.hid hcell
      clear hcell
      go_wp2_with fail
      refine (HO1.out.push x (by omega)).mono ?_
      rintro e W2 ⟨rfl, hO⟩
      have HO2 := Lib.hid hO
      clear hO c0
      go_wp2_with fail
      have HLI := Lib.hid hil
      go_loopw [6, 8] (fun out kv wx => ∃ (k : Nat) (zs xs : List Int), kv = .int .i64 k ∧ k ≤ 4 ∧ zs ++ xs = l.take (i + 1) ∧ OI w wx out zs xs (i + 1)) (fun _ kv _ => 4 - (intOf kv).toNat)
      case atStart => exact ⟨0, zs, xs ++ [x], rfl, by omega, HST.out, HO2.out⟩
      case round =>
        obtain ⟨k, zs, xs, rfl, hk, hzx, hO⟩ := hrel
        have HZ2 := Lib.hid hzx
        have HO3 := Lib.hid hO
        have hlen2 : zs.length + xs.length = i + 1 := by have := congrArg List.length hzx; simp at this; omega
        clear hzx hO HO1 HO2 HST HZX hlen
        by_cases hmore : ∃ t : Int, i < ts.length ∧ ts.getD i 0 = t ∧ (k : Int) < t % 4
        · obtain ⟨t, hit, htt, hkt⟩ := hmore
          have l2 : (i : Int) < ts.length := by omega
          obtain ⟨ub, uoff, rfl, huc⟩ := HUC.out (by omega)
          have c1 := HO3.out.frm.cell (huc i hit) (by simp)
          have hw8 := u8_of_wf (HUW.out t (by rw [← htt]; simp [hit]))
          rw [htt] at c1
          have HTT := Lib.hid htt
          have HUC2 := Lib.hid huc
          unfold U8 at hw8
          obtain ⟨hw0, hw1⟩ := hw8
          obtain ⟨q, hq, hq4⟩ : ∃ q : Nat, t % 4 = q ∧ q < 4 := ⟨(t % 4).toNat, by omega, by omega⟩
          have hkq : k < q := by omega
          have t1 : decide ((k : Int) < q) = true := by simp; omega
          have t2 : decide (k < q) = true := by simp; omega
          clear htt huc hkt
          go_wp2_with fail
          refine HO3.out.pop.mono ?_
          rintro e W5 ⟨rfl, hO⟩
          have HO5 := Lib.hid hO
          clear hO c1
          cases xs with
          | nil =>
            go_wp2_with fail
            go_roundw
            case rel => exact ⟨k + 1, zs, [], by go_num, by omega, HZ2.out, HO5.out⟩
            case measure => simp [intOf]; omega
          | cons y ys =>
            have HZ3 : Hid ((zs ++ [y]) ++ ys = l.take (i + 1)) := Lib.hid (by have := HZ2.out; simpa using this)
            have hlen3 : zs.length + ys.length = i := by simp at hlen2; omega
            go_wp2_with (at_builtin; go_must (refine wpList_append_own_at _ rfl _ _ 34 rfl (w.heap.size + 1) 3 i0 (.int .i64 0) 1 8 Try.underlying34 HIN.out.1 HIN.out.2.1 HIN.out.2.2.1 HIN.out.2.2.2 rfl (by decide) _ _ _ rfl (HO5.out.own.alloc _) ⟨W5.heap.size, 0, none⟩ 1 1 [.int .i64 y] rfl rfl (cell_one_new _ _ _) (by simp [Value.oneCell']) (by unfold maxLen; omega) (by omega) (by rw [World.size_alloc]; have := HO5.out.ring; obtain ⟨_, _, _, hRR, _⟩ := this; have := hRR.box.lt; omega) ?_; intro out' w1 hown' hgrow _ hbl; have HO6 := Lib.hid (HO5.out.append (by omega) hown' hgrow hbl); clear hown' hgrow hbl))
            go_roundw
            case rel => exact ⟨k + 1, zs ++ [y], ys, by go_num, by omega, HZ3.out, HO6.out⟩
            case measure => simp [intOf]; omega
        · obtain ⟨oa, ocap, rfl⟩ := own_form HO3.out.own
          have e1 : ((xs.length : Int) != (i : Int) + 1 - zs.length) = false := by simp; omega
          by_cases hit : i < ts.length
          · have l2 : (i : Int) < ts.length := by omega
            obtain ⟨ub, uoff, rfl, huc⟩ := HUC.out (by omega)
            have c1 := HO3.out.frm.cell (huc i hit) (by simp)
            have hw8 := u8_of_wf (HUW.out (ts.getD i 0) (by simp [hit]))
            have hkt : ¬ (k : Int) < ts.getD i 0 % 4 := fun h => hmore ⟨_, hit, rfl, h⟩
            have HUC2 := Lib.hid huc
            clear huc hmore
            generalize ts.getD i 0 = t at *
            unfold U8 at hw8
            obtain ⟨hw0, hw1⟩ := hw8
            obtain ⟨q, hq, hq4⟩ : ∃ q : Nat, t % 4 = q ∧ q < 4 := ⟨(t % 4).toNat, by omega, by omega⟩
            have hkq : ¬ k < q := by omega
            have t1 : decide ((k : Int) < q) = false := by simp; omega
            have t2 : decide (k < q) = false := by simp; omega
            clear hkt
            go_wp2_with fail
            refine HO3.out.len.mono ?_
            rintro e W5 ⟨rfl, rfl⟩
            go_wp2_with fail
            go_roundw
            case rel => exact ⟨i + 1, zs, xs, by go_num, by omega, HZ2.out, HO3.out⟩
            case measure => simp [intOf]; omega
          · have l2 : ¬ (i : Int) < ts.length := by omega
            clear hmore
            go_wp2_with fail
            refine HO3.out.len.mono ?_
            rintro e W5 ⟨rfl, rfl⟩
            go_wp2_with fail
            go_roundw
            case rel => exact ⟨i + 1, zs, xs, by go_num, by omega, HZ2.out, HO3.out⟩
            case measure => simp [intOf]; omega
    · have hie : i = l.length := by omega
      have l1 : ¬ (i : Int) < l.length := by omega
      have HZE : Hid (zs ++ xs = l) := Lib.hid (by have := HZX.out; rwa [hie, List.take_length] at this)
      clear hie
      go_wp2_with fail
      have hlen : zs.length + xs.length = l.length := by have := congrArg List.length HZE.out; simpa using this
      go_loopw [6, 11] (fun out kv wx => ∃ (k : Nat) (zs xs : List Int), kv = .int .i64 k ∧ k ≤ l.length ∧ xs.length ≤ l.length - k ∧ zs ++ xs = l ∧ OI w wx out zs xs i) (fun _ kv _ => l.length - (intOf kv).toNat)
      case atStart => exact ⟨0, zs, xs, rfl, by omega, by omega, HZE.out, HO1.out⟩
      case round =>
        obtain ⟨k, zs, xs, rfl, hk, hxl, hzx, hO⟩ := hrel
        have HZ2 := Lib.hid hzx
        have HO3 := Lib.hid hO
        have hlen2 : zs.length + xs.length = l.length := by have := congrArg List.length hzx; simpa using this
        clear hzx hO HO1 HZX hlen HZE
        by_cases hkl : k < l.length
        · have l2 : (k : Int) < l.length := by omega
          go_wp2_with fail
          refine HO3.out.pop.mono ?_
          rintro e W5 ⟨rfl, hO⟩
          have HO5 := Lib.hid hO
          clear hO
          cases xs with
          | nil =>
            go_wp2_with fail
            go_roundw
            case rel => exact ⟨k + 1, zs, [], by go_num, by omega, by simp, HZ2.out, HO5.out⟩
            case measure => simp [intOf]; omega
          | cons y ys =>
            have HZ3 : Hid ((zs ++ [y]) ++ ys = l) := Lib.hid (by have := HZ2.out; simpa using this)
            have hlen3 : zs.length + ys.length + 1 = l.length := by simp at hlen2; omega
            have hxl2 : ys.length ≤ l.length - (k + 1) := by simp at hxl; omega
            go_wp2_with (at_builtin; go_must (refine wpList_append_own_at _ rfl _ _ 34 rfl (w.heap.size + 1) 3 i0 (.int .i64 0) 1 8 Try.underlying34 HIN.out.1 HIN.out.2.1 HIN.out.2.2.1 HIN.out.2.2.2 rfl (by decide) _ _ _ rfl (HO5.out.own.alloc _) ⟨W5.heap.size, 0, none⟩ 1 1 [.int .i64 y] rfl rfl (cell_one_new _ _ _) (by simp [Value.oneCell']) (by unfold maxLen; omega) (by omega) (by rw [World.size_alloc]; have := HO5.out.ring; obtain ⟨_, _, _, hRR, _⟩ := this; have := hRR.box.lt; omega) ?_; intro out' w1 hown' hgrow _ hbl; have HO6 := Lib.hid (HO5.out.append (by omega) hown' hgrow hbl); clear hown' hgrow hbl))
            go_roundw
            case rel => exact ⟨k + 1, zs ++ [y], ys, by go_num, by omega, hxl2, HZ3.out, HO6.out⟩
            case measure => simp [intOf]; omega
        · have l2 : ¬ (k : Int) < l.length := by omega
          obtain rfl : xs = [] := List.length_eq_zero_iff.1 (by omega)
          obtain rfl : zs = l := by have := HZ2.out; simpa using this
          go_wp2_with fail
          refine HO3.out.pop.mono ?_
          rintro e W5 ⟨rfl, hO⟩
          have HO5 := Lib.hid hO
          clear hO
          go_wp2_with fail
          refine (Same_any _ HO5.out.own.row (HVR.out.rowAt HO5.out.frm)).mono ?_
          rintro e W6 ⟨he, nn, rfl⟩
          obtain rfl : e = .returned (.bool true) := by rw [he]; simp
          have HO7 := Lib.hid (HO5.out.drew nn)
          go_wp2_with fail
          refine (rawake _).mono ?_
          rintro e W7 ⟨rfl, hF⟩
          have HF7 := Lib.hid (HO7.out.frm.trans hF)
          clear hF
          go_wp2
          go_ret
          exact ⟨rfl, HF7.out.below (Nat.le_refl _) (by simp)⟩

theorem ringOrder_long (v u : Value) (l ts : List Int) (w : World) (hv : IsRow .i64 w v l) (hu : IsRow .u8 w u ts) (h : 60 < l.length ∨ 100 < ts.length) :
    Calls Try.prog 7 #[v, u] w fun e w' => e = .returned (.bool true) ∧ Below w.heap.size w w' := by
  obtain ⟨va, vcap, rfl, -, -, -⟩ := hv
  obtain ⟨ua, ucap, rfl, -, -, -⟩ := hu
  by_cases h1 : 60 < l.length
  · have d1 : decide ((60 : Int) < l.length) = true := by simp; omega
    have d3 : decide (60 < l.length) = true := by simp; omega
    clear h
    go_enter Try.func7, Try.ntmps7
    go_wp2_with fail
    refine (rawake _).mono ?_
    rintro e w1 ⟨rfl, hF⟩
    have HF := Lib.hid hF
    clear hF
    go_wp2
    go_ret
    exact ⟨rfl, HF.out.below (Nat.le_refl _) (by simp)⟩
  · have d1 : decide ((60 : Int) < l.length) = false := by simp; omega
    have d3 : decide (60 < l.length) = false := by simp; omega
    have d2 : decide ((100 : Int) < ts.length) = true := by simp; omega
    have d4 : decide (100 < ts.length) = true := by simp; omega
    clear h
    go_enter Try.func7, Try.ntmps7
    go_wp2_with fail
    refine (rawake _).mono ?_
    rintro e w1 ⟨rfl, hF⟩
    have HF := Lib.hid hF
    clear hF
    go_wp2
    go_ret
    exact ⟨rfl, HF.out.below (Nat.le_refl _) (by simp)⟩

theorem ringOrder_walk (v : Value) (l : List Int) (u : Value) (ts : List Int) (w : World) (hv : IsRow .i64 w v l) (hu : IsRow .u8 w u ts) :
    Calls Try.prog 7 #[v, u] w fun e w' => e = .returned (.bool true) ∧ Below w.heap.size w w' := by
  by_cases h : 60 < l.length ∨ 100 < ts.length
  · exact ringOrder_long v u l ts w hv hu h
  · exact ringOrder_short v u l ts w hv hu (by omega) (by omega)
end Go.Proofs.Yteapniipkpijkaa
