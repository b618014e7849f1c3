/- The walk of the law RingPlays. -/
import Derived.Test.YteapniipkpijkaaRingRef
import Derived.Test.YteapniipkpijkaaActs
import Derived.Test.YteapniipkpijkaaSeg
namespace Go.Proofs.Yteapniipkpijkaa
open Go.RowKit Go.Shelf

/-- a ring in block w0.heap.size, a row of one's own beside it, and a number's box in block nb -/
structure PI (w0 W : World) (out : Value) (zs xs : List Int) (n nb : Nat) (z : Int) : Prop where
  frm : Frm [] w0 W
  own : Own W (w0.heap.size + 1) out zs
  box : HAt W nb [.int .i64 z] 3
  nbb : w0.heap.size < nb
  gnb : ∀ g, out.ownBlock = some g → g ≠ nb
  ring : ∃ lb cs f, RingAt W w0.heap.size lb cs f xs ∧ w0.heap.size < lb ∧ lb ≠ nb ∧ (∀ g, out.ownBlock = some g → g ≠ lb) ∧ (0 < cs.length ∨ n = 0)

theorem RingAt.relab {W : World} {b lb f : Nat} {cs xs : List Int} (h : RingAt W b lb cs f xs) (hc : ¬ 0 < cs.length) (lb' : Nat) (hne : lb' ≠ b) : RingAt W b lb' cs f xs :=
  { h with box := by have := h.box; rw [show rlist lb cs.length = rlist lb' cs.length by rw [show cs.length = 0 by omega]; rfl] at this; exact this, row := fun h0 => absurd h0 hc, ne := hne }

section
variable {w0 W : World} {out : Value} {zs xs : List Int} {n nb : Nat} {z : Int}
theorem OI.start (h : OI w0 W out zs xs n) {W1 : World} (hF : Frm [] W W1) (hb : HAt W1 W.heap.size [.int .i64 z] 3) : PI w0 W1 out zs xs n W.heap.size z := by
  obtain ⟨lb, cs, f, hR, hlb, hg, hn⟩ := h.ring
  have hlt := hR.box.lt
  refine ⟨h.frm.trans hF, h.own.frm hF (by simp), hb, hlt, fun g hg' => by have := (own_lt h.own hg').2; omega, ?_⟩
  by_cases hc : 0 < cs.length
  · have := (hR.row hc).lt
    exact ⟨lb, cs, f, { hR with box := hR.box.frm hF (by simp), row := fun h0 => (hR.row h0).frm hF (by simp) }, hlb, by omega, hg, hn⟩
  · have hR2 := hR.relab hc (W.heap.size + 1) (by omega)
    exact ⟨W.heap.size + 1, cs, f, { hR2 with box := hR2.box.frm hF (by simp), row := fun h0 => absurd h0 hc }, by omega, by omega, fun g hg' => by have := (own_lt h.own hg').2; omega, hn⟩
theorem PI.oi (h : PI w0 W out zs xs n nb z) : OI w0 W out zs xs n := by
  obtain ⟨lb, cs, f, hR, hlb, hnb, hg, hn⟩ := h.ring
  exact ⟨h.frm, h.own, lb, cs, f, hR, hlb, hg, hn⟩
theorem PI.keep (h : PI w0 W out zs xs n nb z) {W' : World} (hF : Frm [] W W') : PI w0 W' out zs xs n nb z := by
  obtain ⟨lb, cs, f, hR, hr⟩ := h.ring
  exact ⟨h.frm.trans hF, h.own.frm hF (by simp), h.box.frm hF (by simp), h.nbb, h.gnb, lb, cs, f, { hR with box := hR.box.frm hF (by simp), row := fun h0 => (hR.row h0).frm hF (by simp) }, hr⟩
theorem OI.keep (h : OI w0 W out zs xs n) {W' : World} (hF : Frm [] W W') : OI w0 W' out zs xs n := by
  obtain ⟨lb, cs, f, hR, hr⟩ := h.ring
  exact ⟨h.frm.trans hF, h.own.frm hF (by simp), lb, cs, f, { hR with box := hR.box.frm hF (by simp), row := fun h0 => (hR.row h0).frm hF (by simp) }, hr⟩
theorem PI.ringOp (h : PI w0 W out zs xs n nb z) {lb lb' f' : Nat} {cs' xs' : List Int} {w' : World} {n' : Nat} (hlb : w0.heap.size < lb) (hnb : lb ≠ nb) (hg : ∀ g, out.ownBlock = some g → g ≠ lb) (hR' : RingAt w' w0.heap.size lb' cs' f' xs')
    (hF : Frm [w0.heap.size, lb] W w') (ho : lb' = lb ∨ W.heap.size ≤ lb') (hn : 0 < cs'.length ∨ n' = 0) : PI w0 w' out zs xs' n' nb z := by
  have hb := h.box.lt
  have hsz := h.frm.size
  have hnbb := h.nbb
  refine ⟨h.frm.widen hF (by simp; omega), own_keep h.own fun g hg' => hF.block g (own_lt h.own hg').2 (by have := (own_lt h.own hg').1; have := hg g hg'; simp; omega), h.box.frm hF (by simp; omega), hnbb, h.gnb, lb', cs', f', hR', by omega, by omega, fun g hg' => ?_, hn⟩
  have := (own_lt h.own hg').2; have := hg g hg'; omega
theorem PI.push (h : PI w0 W out zs xs n nb z) (x : Int) (hs : xs.length ≤ 100) : Calls Try.prog 21 #[.pointer (some ⟨w0.heap.size, 0, none⟩), .int .i64 x] W fun e w' => e = .returned (.tuple #[]) ∧ PI w0 w' out zs (xs ++ [x]) (n + 1) nb z := by
  obtain ⟨lb, cs, f, hR, hlb, hnb, hg, hn⟩ := h.ring
  refine (Push_any x hR hs).mono ?_
  rintro e w' ⟨he, lb', cs', f', hR', hF, ho⟩
  exact ⟨he, h.ringOp hlb hnb hg hR' hF ho (.inl (by have := hR'.many; simp at this; omega))⟩
theorem PI.pop (h : PI w0 W out zs xs n nb z) : Calls Try.prog 22 #[.pointer (some ⟨w0.heap.size, 0, none⟩)] W fun e w' => e = .returned (.tuple #[.int .i64 (xs[0]?.getD 0), .bool (decide (0 < xs.length))]) ∧ PI w0 w' out zs xs.tail n nb z := by
  obtain ⟨lb, cs, f, hR, hlb, hnb, hg, hn⟩ := h.ring
  refine (Pop_any hR).mono ?_
  rintro e w' ⟨he, cs', f', hR', hF, hl⟩
  exact ⟨he, h.ringOp hlb hnb hg hR' hF (.inl rfl) (by omega)⟩
theorem PI.cutRing (h : PI w0 W out zs xs n nb z) {i : Nat} (hi : i < xs.length) : Calls Try.prog 24 #[.pointer (some ⟨w0.heap.size, 0, none⟩), .int .i64 i] W fun e w' => e = .returned (.tuple #[.int .i64 (xs[i]?.getD 0), .bool true]) ∧ PI w0 w' out zs (xs.eraseIdx i) n nb z := by
  obtain ⟨lb, cs, f, hR, hlb, hnb, hg, hn⟩ := h.ring
  refine (Cut_yes i hR hi).mono ?_
  rintro e w' ⟨he, cs', f', hR', hF, hl⟩
  exact ⟨he, h.ringOp hlb hnb hg hR' hF (.inl rfl) (by omega)⟩
theorem PI.cutNo (h : PI w0 W out zs xs n nb z) {i : Int} (hi : i < 0 ∨ (xs.length : Int) ≤ i) : Calls Try.prog 24 #[.pointer (some ⟨w0.heap.size, 0, none⟩), .int .i64 i] W fun e w' => e = .returned (.tuple #[.int .i64 0, .bool false]) ∧ W = w' := by
  obtain ⟨lb, cs, f, hR, -⟩ := h.ring
  exact Cut_no i hR hi
theorem PI.atNo (h : PI w0 W out zs xs n nb z) {i : Int} (hi : i < 0 ∨ (xs.length : Int) ≤ i) : Calls Try.prog 25 #[.pointer (some ⟨w0.heap.size, 0, none⟩), .int .i64 i] W fun e w' => e = .returned (.tuple #[.int .i64 0, .bool false]) ∧ PI w0 w' out zs xs n nb z := by
  obtain ⟨lb, cs, f, hR, -⟩ := h.ring
  exact (At_no i hR hi).mono fun e w' ⟨h1, h2⟩ => ⟨h1, h2 ▸ h⟩
theorem PI.atYes (h : PI w0 W out zs xs n nb z) {i : Nat} (hi : i < xs.length) : Calls Try.prog 25 #[.pointer (some ⟨w0.heap.size, 0, none⟩), .int .i64 i] W fun e w' => e = .returned (.tuple #[.int .i64 (xs[i]?.getD 0), .bool true]) ∧ PI w0 w' out zs xs n nb z := by
  obtain ⟨lb, cs, f, hR, -⟩ := h.ring
  exact (At_yes i hR hi).mono fun e w' ⟨h1, k, h2⟩ => ⟨h1, h2 ▸ h.keep ((Frm.refl _ _).drew k)⟩
theorem PI.len (h : PI w0 W out zs xs n nb z) : Calls Try.prog 27 #[.pointer (some ⟨w0.heap.size, 0, none⟩)] W fun e w' => e = .returned (.int .i64 xs.length) ∧ W = w' := by
  obtain ⟨lb, cs, f, hR, -⟩ := h.ring
  exact Len_any hR
theorem ring_le {b lb f : Nat} {cs : List Int} (h : RingAt W b lb cs f xs) : SeqR W (some ⟨b, 0, none⟩) xs := by
  by_cases hc : 0 < cs.length
  · exact seqR_some h (Nat.le_of_lt (h.row hc).lt)
  · exact seqR_some (h.relab hc W.heap.size (by have := h.box.lt; omega)) (Nat.le_refl _)
theorem isN {nb : Nat} {z : Int} {W : World} (hb : HAt W nb [.int .i64 z] 3) (x : Int) : Calls Try.prog 29 #[.int .i64 x, .pointer (some ⟨nb, 0, none⟩)] W fun e w' => e = .returned (.bool (eqI z x)) ∧ W = w' := by
  have c0 := hb.cell (i := 0) rfl
  clear hb
  unfold eqI
  go_enter Try.func29, Try.ntmps29
  go_wp2
  go_ret
  exact ⟨rfl, rfl⟩
theorem PI.find (h : PI w0 W out zs xs n nb z) : Calls Try.prog 28 #[.pointer (some ⟨w0.heap.size, 0, none⟩), .func (.func 29) #[] #[.pointer (some ⟨nb, 0, none⟩)]] W fun e w' => e = .returned (.int .i64 (findI (eqI z) xs 0)) ∧ Frm [] W w' := by
  obtain ⟨lb, cs, f, hR, -⟩ := h.ring
  exact Find_of (ring_le hR) 29 _ (eqI z) (enters_of Try.func29 (by kernel_rfl) rfl) (fun x W' hF => isN (h.box.frm hF (by simp)) x)
theorem OI.all' (h : OI w0 W out zs xs n) {most : Nat} (hm : 1 ≤ most) (hm2 : most ≤ 1000) (hx : xs.length ≤ 300) : Calls Try.prog 32 #[.pointer (some ⟨w0.heap.size, 0, none⟩), .int .i64 most] W fun e w' => ∃ v, e = .returned v ∧ Own w' W.heap.size v (xs.take most) ∧ Frm [] W w' := by
  obtain ⟨lb, cs, f, hR, -⟩ := h.ring
  exact all_of (ring_le hR) hx most hm hm2
theorem PI.append (h : PI w0 W out zs xs n nb z) (hn : 0 < n) {o : Obj} {w1 : World} {out' : Value} {x : Int} (hown : w1.ownsRow (w0.heap.size + 1) 3 1 out' (zs.length + 1) (zs.map (Value.int .i64) ++ [.int .i64 x])) (hg : (W.alloc o).grownBy w1 out.ownBlock)
    (hb : out'.ownBlock = out.ownBlock ∨ out'.ownBlock = some (W.alloc o).heap.size) : PI w0 w1 out' (zs ++ [x]) xs n nb z := by
  obtain ⟨lb, cs, f, hR, hlb, hnb, hgl, hc⟩ := h.ring
  have hlt := hR.box.lt
  have hrow := hR.row (by omega)
  have hlt2 := hrow.lt
  have hlt3 := h.box.lt
  have hF : Frm [] w0 w1 := (h.frm.alloc o).widen (S' := out.ownBlock.toList) (Frm.of_grown hg (fun k hk => .inl (by simp [hk]))) (fun k hk => .inr (by have := (own_lt h.own (by simpa using hk : out.ownBlock = some k)).1; omega))
  have hB : ∀ k, k < W.heap.size → out.ownBlock ≠ some k → w1.heap[k]? = W.heap[k]? := fun k hk hne => (hg.block k (by simp; omega) (fun e => hne e.symm)).trans (Below.heap_alloc _ _ _ hk)
  refine ⟨hF, by unfold Own; simpa using hown, (hB _ hlt3 (fun e => h.gnb _ e rfl)).trans h.box, h.nbb, fun g hg' => ?_, lb, cs, f, { hR with box := (hB _ hlt (fun e => by have := (own_lt h.own e).1; omega)).trans hR.box, row := fun _ => (hB _ hlt2 (fun e => hgl _ e rfl)).trans hrow }, hlb, hnb, fun g hg' => ?_, hc⟩
  · rcases hb with hb | hb
    · exact h.gnb g (hb ▸ hg')
    · rw [hb] at hg'; simp at hg'; omega
  · rcases hb with hb | hb
    · exact hgl g (hb ▸ hg')
    · rw [hb] at hg'; simp at hg'; omega
theorem PI.cutRow (h : PI w0 W out zs xs n nb z) (hl : zs.length ≤ 1000) {i : Nat} (hi : i < zs.length) : Calls Try.prog 23 #[out, .int .i64 i] W fun e w' => ∃ out', e = .returned (.tuple #[out', .int .i64 (zs[i]?.getD 0), .bool true]) ∧ PI w0 w' out' (zs.eraseIdx i) xs n nb z := by
  obtain ⟨lb, cs, f, hR, hlb, hnb, hgl, hc⟩ := h.ring
  refine (rCut_yes h.own hl hi).mono ?_
  rintro e w' ⟨out', he, hO, hF⟩
  have hlt3 := h.box.lt
  have hsz := h.frm.size
  have hlt := hR.box.lt
  have hsz2 := hF.size
  refine ⟨out', he, h.frm.trans hF, hO.base (by omega), h.box.frm hF (by simp), h.nbb, fun g hg' => by have := (own_lt hO hg').1; omega, ?_⟩
  by_cases hc0 : 0 < cs.length
  · have := (hR.row hc0).lt
    exact ⟨lb, cs, f, { hR with box := hR.box.frm hF (by simp), row := fun h0 => (hR.row h0).frm hF (by simp) }, hlb, hnb, fun g hg' => by have := (own_lt hO hg').1; omega, hc⟩
  · have hR2 := hR.relab hc0 w'.heap.size (by omega)
    exact ⟨w'.heap.size, cs, f, { hR2 with box := hR2.box.frm hF (by simp), row := fun h0 => absurd h0 hc0 }, by omega, by omega, fun g hg' => by have := (own_lt hO hg').2; omega, hc⟩
end

/-- .. whether it is nil or not -/
theorem own_form2 {W : World} {base : Nat} {out : Value} {zs : List Int} (h : Own W base out zs) : (zs = [] ∧ out = .slice none 0 0) ∨ ∃ g cap, out = .slice (some ⟨g, 0, none⟩) zs.length cap ∧ zs.length ≤ cap ∧ cap ≤ maxLen := by
  rcases h.2 with ⟨rfl, h0⟩ | ⟨g, cap, cur, rfl, hb, hh, hn, hc, r⟩
  · exact .inl ⟨List.length_eq_zero_iff.1 h0, rfl⟩
  · exact .inr ⟨g, cap, rfl, hn, hc⟩
theorem RowAt.pre {W : World} {base m cap len : Nat} {a : Option Addr} {xs : List Int} (h : RowAt W base (.slice a len cap) xs) (hm : m ≤ xs.length) : RowAt W base (.slice a m cap) (xs.take m) := by
  obtain ⟨a', cap', h1, h2, h3⟩ := h
  simp only [Value.slice.injEq] at h1
  obtain ⟨rfl, -, rfl⟩ := h1
  have hl : (xs.take m).length = m := by simp; omega
  refine ⟨_, _, by rw [hl], by omega, fun h0 => ?_⟩
  rw [hl] at h0
  obtain ⟨b, off, h4, h5, h6⟩ := h3 (by omega)
  refine ⟨b, off, h4, h5, fun i hi => ?_⟩
  rw [hl] at hi
  rw [h6 i (by omega), List.getElem?_take_of_lt hi]

set_option maxRecDepth 100000 in
set_option maxHeartbeats 8000000 in
theorem ringPlays_short (v : Value) (acts : List (Int × Int)) (m : Nat) (w : World) (h : ActsAt w v acts) (hm0 : 0 ≤ (m : Int)) (hm1 : (m : Int) ≤ 255) (hl : acts.length ≤ 60) :
    Calls Try.prog 6 #[v, .int .u8 m] w fun e w' => e = .returned (.bool true) ∧ Below w.heap.size w w' := by
  obtain ⟨a, cap, rfl, -, hc, -⟩ := h
  have d1 : decide ((60 : Int) < acts.length) = false := by simp; omega
  have d3 : decide (60 < acts.length) = false := by simp; omega
  have HC := Lib.hid hc
  obtain ⟨i0, hi, hz0, hz1, hz2⟩ := info_parts intInfo
  have HIN := Lib.hid (And.intro hi (And.intro hz0 (And.intro hz1 hz2)))
  clear hi hz0 hz1 hz2 hc
  go_enter Try.func6, Try.ntmps6
  go_wp2_with fail
  have hO := Lib.hid (zeroOI w)
  generalize w.alloc (.cells #[.slice none 0 0, .int .i64 0, .int .i64 0] 36) = W0 at *
  go_loopw [6, 7] (fun out kv wx => ∃ (k : Nat) (xs : List Int) (n : Nat), kv = .int .i64 k ∧ k ≤ acts.length ∧ xs.length ≤ k ∧ OI w wx out xs xs n) (fun _ kv _ => acts.length - (intOf kv).toNat)
  case atStart => exact ⟨0, [], 0, rfl, Nat.zero_le _, by simp, hO.out⟩
  case round =>
    obtain ⟨k, xs, n, rfl, hk, hxk, hOI⟩ := hrel
    have HO1 := Lib.hid hOI
    clear hOI hO
    by_cases hlt : k < acts.length
    · obtain ⟨b, off, rfl, hb, hcell⟩ := HC.out (by omega)
      have ex : acts[k]? = some acts[k] := by simp
      have l1 : (k : Int) < acts.length := by omega
      have hcx : ∀ wx, Frm [] w wx → wx.cell? ⟨b, off + k * 2, none⟩ = some (.int .i64 acts[k].1) ∧ wx.cell? ⟨b, off + k * 2 + 1, none⟩ = some (.int .i64 acts[k].2) := fun wx hf => ⟨hf.cell (hcell k _ ex).1 (by simp), hf.cell (hcell k _ ex).2 (by simp)⟩
      have HCX := Lib.hid hcx
      clear hcell ex hcx
      generalize acts[k] = x at *
      obtain ⟨kind, zz⟩ := x
      simp only at HCX
      obtain ⟨c0, c1⟩ := HCX.out _ HO1.out.frm
      have hblt : b < wr.heap.size := by have := HO1.out.frm.size; omega
      have hFa : Frm [] wr (wr.alloc (.cells #[.int .i64 zz] 3)) := (Frm.refl _ _).alloc _
      have hHa : HAt (wr.alloc (.cells #[.int .i64 zz] 3)) wr.heap.size [.int .i64 zz] 3 := HAt.new wr _ _
      have HP4 := Lib.hid (HO1.out.start hFa hHa)
      obtain ⟨c2, c3⟩ := HCX.out _ (HO1.out.frm.trans hFa)
      clear hFa hHa
      go_upto_region 9 with fail
      generalize wr.alloc (.cells #[.int .i64 zz] 3) = W4 at *
      generalize wr.heap.size = nb at *
      clear HO1 c0 c1
      have c8 := HP4.out.box.cell (i := 0) rfl
      clear c3 hblt
      go_upto_block 2 with fail
      go_cut [6] (fun row wx => ∃ (xs' : List Int) (n' : Nat), PI w wx row xs' xs' n' nb zz ∧ xs'.length ≤ k + 1)
      case first =>
        by_cases h0 : kind = 0
        · subst h0
          go_wp2_with fail
          refine (HP4.out.push zz (by omega)).mono ?_
          rintro e W5 ⟨rfl, hP⟩
          have HP5 := Lib.hid hP
          have c9 := HP5.out.box.cell (i := 0) rfl
          clear hP
          obtain ⟨oa, ocap, rfl⟩ := own_form HP5.out.own
          go_wp2_with (at_builtin; go_must (refine wpList_append_own_at _ rfl _ _ 34 rfl (w.heap.size + 1) 3 i0 (.int .i64 0) 1 8 Try.underlying34 HIN.out.1 HIN.out.2.1 HIN.out.2.2.1 HIN.out.2.2.2 rfl (by decide) _ _ _ rfl (HP5.out.own.alloc _) ⟨W5.heap.size, 0, none⟩ 1 1 [.int .i64 zz] rfl rfl (cell_one_new _ _ _) (by simp [Value.oneCell']) (by unfold maxLen; omega) (by omega) (by rw [World.size_alloc]; have := HP5.out.frm.size; have := HP5.out.box.lt; have := HP5.out.nbb; omega) ?_; intro out' w1 hown' hgrow _ hbl; have HP6 := Lib.hid (HP5.out.append (by omega) hown' hgrow hbl); clear hown' hgrow hbl))
          go_meet
          exact ⟨xs ++ [zz], n + 1, HP6.out, by simp; omega⟩
        by_cases h1 : kind = 1
        · have hk1 : kind = 1 := h1
          subst hk1
          by_cases hx0 : 0 < xs.length
          · have hd : decide (0 < xs.length) = true := by simpa using hx0
            go_wp2_with fail
            refine HP4.out.pop.mono ?_
            rw [hd]
            rintro e W5 ⟨rfl, hP⟩
            have HP5 := Lib.hid hP
            clear hP hd
            generalize hX : xs[0]?.getD 0 = X at *
            have HX := Lib.hid hX
            clear hX
            go_wp2_with fail
            refine (HP5.out.cutRow (i := 0) (by omega) hx0).mono ?_
            rintro e W6 ⟨out', he, hP⟩
            obtain rfl : e = .returned (.tuple #[out', .int .i64 X, .bool true]) := by rw [he, HX.out]
            have HP6 : Hid (PI w W6 out' xs.tail xs.tail n nb zz) := Lib.hid (by have := hP; rwa [List.eraseIdx_zero] at this)
            clear hP he
            go_wp2_with fail
            go_meet
            exact ⟨xs.tail, n, HP6.out, by simp; omega⟩
          · obtain rfl : xs = [] := List.length_eq_zero_iff.1 (by omega)
            go_wp2_with fail
            refine HP4.out.pop.mono ?_
            rintro e W5 ⟨rfl, hP⟩
            have HP5 := Lib.hid hP
            clear hP
            go_wp2_with fail
            refine (rCut_no HP5.out.own.row (i := 0) (.inr (by simp))).mono ?_
            rintro e W6 ⟨rfl, rfl⟩
            go_wp2_with fail
            go_meet
            exact ⟨[], n, HP5.out, by simp⟩
        by_cases h2 : kind = 2
        · have hk1 : kind = 2 := h2
          subst hk1
          by_cases hr : 0 ≤ zz ∧ zz < xs.length
          · obtain ⟨j, hj⟩ : ∃ j : Nat, zz = j := ⟨zz.toNat, by omega⟩
            subst hj
            have hjx : j < xs.length := by omega
            clear hr
            go_wp2_with fail
            refine (HP4.out.cutRing hjx).mono ?_
            rintro e W5 ⟨rfl, hP⟩
            have HP5 := Lib.hid hP
            have c8 := HP5.out.box.cell (i := 0) rfl
            clear hP
            generalize hX : xs[j]?.getD 0 = X at *
            have HX := Lib.hid hX
            clear hX
            go_wp2_with fail
            refine (HP5.out.cutRow (i := j) (by omega) hjx).mono ?_
            rintro e W6 ⟨out', he, hP⟩
            obtain rfl : e = .returned (.tuple #[out', .int .i64 X, .bool true]) := by rw [he, HX.out]
            have HP6 := Lib.hid hP
            clear hP he c8
            go_wp2_with fail
            go_meet
            exact ⟨xs.eraseIdx j, n, HP6.out, by have := List.length_eraseIdx_le xs j; omega⟩
          · have hr' : zz < 0 ∨ (xs.length : Int) ≤ zz := by omega
            go_wp2_with fail
            refine (HP4.out.cutNo hr').mono ?_
            rintro e W5 ⟨rfl, rfl⟩
            go_wp2_with fail
            refine (rCut_no HP4.out.own.row hr').mono ?_
            rintro e W6 ⟨rfl, rfl⟩
            go_wp2_with fail
            go_meet
            exact ⟨xs, n, HP4.out, by omega⟩
        have t0 : (kind == 0) = false := by simpa using h0
        have t1 : (kind == 1) = false := by simpa using h1
        have t2 : (kind == 2) = false := by simpa using h2
        go_wp2_with fail
        go_meet
        exact ⟨xs, n, HP4.out, by omega⟩
      case rest =>
        clear HP4 c8 c2 hxk
        obtain ⟨xs, n, hP, hxk⟩ := hcut
        have HP6 := Lib.hid hP
        have c8 := HP6.out.box.cell (i := 0) rfl
        clear hP
        by_cases hr : 0 ≤ zz ∧ zz < xs.length
        · obtain ⟨j, hj⟩ : ∃ j : Nat, zz = j := ⟨zz.toNat, by omega⟩
          subst hj
          have hjx : j < xs.length := by omega
          clear hr
          go_wp2_with fail
          refine (HP6.out.atYes hjx).mono ?_
          rintro e W7 ⟨rfl, hP⟩
          have HP7 := Lib.hid hP
          have c8 := HP7.out.box.cell (i := 0) rfl
          clear hP
          go_wp2_with fail
          refine (rAt_yes HP7.out.own.row hjx).mono ?_
          rintro e W8 ⟨rfl, rfl⟩
          go_upto_region 27 with fail
          generalize W7 = WX at *
          have hne : Nonempty (HW (fun wx => Frm [] WX wx)) := ⟨⟨WX, Frm.refl _ _⟩⟩
          have hz0 : ∀ q : HW (fun wx => Frm [] WX wx), q.w.cell? ⟨nb, 0, none⟩ = some (.int .i64 j) := fun q => (HP7.out.box.frm q.h (by simp)).cell (i := 0) rfl
          obtain ⟨oa, ocap, hfm⟩ := own_form HP7.out.own
          subst hfm
          refine held_begin (S := fun wx => Frm [] WX wx) (by kernel_rfl) ?_
          refine held_row_at (fuel := 11) (is := [0, 1, 2, 3, 4, 5, 6, 7, 8, 10, 11]) (.cons rfl (.cons rfl (.cons rfl (.cons rfl (.cons rfl (.cons rfl (.cons rfl (.cons rfl (.cons rfl (.cons rfl (.cons rfl .nil))))))))))) (by kernel_rfl) (fun _ _ _ _ _ h => h) rfl (by kernel_rfl) (Frm.refl _ _).drew1 ?_
          intro K hK
          repeat (go_big_quiet_step (fail))
          refine wpQuiet_nil (hK _ ?_)
          clear hK K
          refine held_call (fuel := 10) (i := 9) rfl (by kernel_rfl) ?_
          go_wp2_with fail
          refine (HP7.out.keep (by repeat (first | exact HF8.out | exact HF9.out | exact Frm.refl _ _ | apply Frm.drew1 | apply Frm.drew))).len.mono ?_; rintro e x1 ⟨rfl, rfl⟩
          go_wp2_with fail
          refine onNormal_mk ⟨(by repeat (first | exact HF8.out | exact HF9.out | exact Frm.refl _ _ | apply Frm.drew1 | apply Frm.drew)), ?_⟩
          refine held_row_at (fuel := 4) (is := [12, 13, 14, 15, 17, 18]) (.cons rfl (.cons rfl (.cons rfl (.cons rfl (.cons rfl (.cons rfl .nil)))))) (by kernel_rfl) (fun _ _ _ _ _ h => h) rfl (by kernel_rfl) (by repeat (first | exact HF8.out | exact HF9.out | exact Frm.refl _ _ | apply Frm.drew1 | apply Frm.drew)) ?_
          intro K hK
          repeat (go_big_quiet_step (fail))
          refine wpQuiet_nil (hK _ ?_)
          clear hK K
          refine held_call (fuel := 3) (i := 16) rfl (by kernel_rfl) ?_
          go_wp2_with fail
          refine ((HP7.out.keep (by repeat (first | exact HF8.out | exact HF9.out | exact Frm.refl _ _ | apply Frm.drew1 | apply Frm.drew))).find).mono ?_; rintro e x2 ⟨rfl, hF⟩; have HF8 := Lib.hid (Frm.trans (S := []) (a := WX) (by repeat (first | exact HF8.out | exact HF9.out | exact Frm.refl _ _ | apply Frm.drew1 | apply Frm.drew)) hF); clear hF
          go_wp2_with fail
          refine onNormal_mk ⟨(by repeat (first | exact HF8.out | exact HF9.out | exact Frm.refl _ _ | apply Frm.drew1 | apply Frm.drew)), ?_⟩
          refine held_call (fuel := 2) (i := 19) rfl (by kernel_rfl) ?_
          go_wp2_with fail
          refine (rFind_any (HP7.out.keep (by repeat (first | exact HF8.out | exact HF9.out | exact Frm.refl _ _ | apply Frm.drew1 | apply Frm.drew))).own.row j).mono ?_; rintro e x3 ⟨rfl, rfl⟩
          go_wp2_with fail
          refine onNormal_mk ⟨(by repeat (first | exact HF8.out | exact HF9.out | exact Frm.refl _ _ | apply Frm.drew1 | apply Frm.drew)), ?_⟩
          refine held_row_at (fuel := 0) (is := [20, 21]) (.cons rfl (.cons rfl .nil)) (by kernel_rfl) (fun _ _ _ _ _ h => h) rfl (by kernel_rfl) (by repeat (first | exact HF8.out | exact HF9.out | exact Frm.refl _ _ | apply Frm.drew1 | apply Frm.drew)) ?_
          intro K hK
          repeat (go_big_quiet_step (fail))
          refine wpQuiet_nil (hK _ ?_)
          clear hK K
          refine held_end (by kernel_rfl) ?_
          go_wp2_with fail
          go_roundw
          case rel => exact ⟨k + 1, xs, n, by go_num, by omega, by omega, (HP7.out.keep (by repeat (first | exact HF8.out | exact HF9.out | exact Frm.refl _ _ | apply Frm.drew1 | apply Frm.drew))).oi⟩
          case measure => simp [intOf]; omega
        · have hr' : zz < 0 ∨ (xs.length : Int) ≤ zz := by omega
          clear hr
          go_wp2_with fail
          refine (HP6.out.atNo hr').mono ?_
          rintro e W7 ⟨rfl, hP⟩
          have HP7 := Lib.hid hP
          have c8 := HP7.out.box.cell (i := 0) rfl
          clear hP
          go_wp2_with fail
          refine (rAt_no HP7.out.own.row hr').mono ?_
          rintro e W8 ⟨rfl, rfl⟩
          go_upto_region 27 with fail
          generalize W7 = WX at *
          have hne : Nonempty (HW (fun wx => Frm [] WX wx)) := ⟨⟨WX, Frm.refl _ _⟩⟩
          have hz0 : ∀ q : HW (fun wx => Frm [] WX wx), q.w.cell? ⟨nb, 0, none⟩ = some (.int .i64 zz) := fun q => (HP7.out.box.frm q.h (by simp)).cell (i := 0) rfl
          obtain ⟨oa, ocap, hfm⟩ := own_form HP7.out.own
          subst hfm
          refine held_begin (S := fun wx => Frm [] WX wx) (by kernel_rfl) ?_
          refine held_row_at (fuel := 11) (is := [0, 1, 2, 3, 4, 5, 6, 7, 8, 10, 11]) (.cons rfl (.cons rfl (.cons rfl (.cons rfl (.cons rfl (.cons rfl (.cons rfl (.cons rfl (.cons rfl (.cons rfl (.cons rfl .nil))))))))))) (by kernel_rfl) (fun _ _ _ _ _ h => h) rfl (by kernel_rfl) (Frm.refl _ _).drew1 ?_
          intro K hK
          repeat (go_big_quiet_step (fail))
          refine wpQuiet_nil (hK _ ?_)
          clear hK K
          refine held_call (fuel := 10) (i := 9) rfl (by kernel_rfl) ?_
          go_wp2_with fail
          refine (HP7.out.keep (by repeat (first | exact HF8.out | exact HF9.out | exact Frm.refl _ _ | apply Frm.drew1 | apply Frm.drew))).len.mono ?_; rintro e x1 ⟨rfl, rfl⟩
          go_wp2_with fail
          refine onNormal_mk ⟨(by repeat (first | exact HF8.out | exact HF9.out | exact Frm.refl _ _ | apply Frm.drew1 | apply Frm.drew)), ?_⟩
          refine held_row_at (fuel := 4) (is := [12, 13, 14, 15, 17, 18]) (.cons rfl (.cons rfl (.cons rfl (.cons rfl (.cons rfl (.cons rfl .nil)))))) (by kernel_rfl) (fun _ _ _ _ _ h => h) rfl (by kernel_rfl) (by repeat (first | exact HF8.out | exact HF9.out | exact Frm.refl _ _ | apply Frm.drew1 | apply Frm.drew)) ?_
          intro K hK
          repeat (go_big_quiet_step (fail))
          refine wpQuiet_nil (hK _ ?_)
          clear hK K
          refine held_call (fuel := 3) (i := 16) rfl (by kernel_rfl) ?_
          go_wp2_with fail
          refine ((HP7.out.keep (by repeat (first | exact HF8.out | exact HF9.out | exact Frm.refl _ _ | apply Frm.drew1 | apply Frm.drew))).find).mono ?_; rintro e x2 ⟨rfl, hF⟩; have HF8 := Lib.hid (Frm.trans (S := []) (a := WX) (by repeat (first | exact HF8.out | exact HF9.out | exact Frm.refl _ _ | apply Frm.drew1 | apply Frm.drew)) hF); clear hF
          go_wp2_with fail
          refine onNormal_mk ⟨(by repeat (first | exact HF8.out | exact HF9.out | exact Frm.refl _ _ | apply Frm.drew1 | apply Frm.drew)), ?_⟩
          refine held_call (fuel := 2) (i := 19) rfl (by kernel_rfl) ?_
          go_wp2_with fail
          refine (rFind_any (HP7.out.keep (by repeat (first | exact HF8.out | exact HF9.out | exact Frm.refl _ _ | apply Frm.drew1 | apply Frm.drew))).own.row zz).mono ?_; rintro e x3 ⟨rfl, rfl⟩
          go_wp2_with fail
          refine onNormal_mk ⟨(by repeat (first | exact HF8.out | exact HF9.out | exact Frm.refl _ _ | apply Frm.drew1 | apply Frm.drew)), ?_⟩
          refine held_row_at (fuel := 0) (is := [20, 21]) (.cons rfl (.cons rfl .nil)) (by kernel_rfl) (fun _ _ _ _ _ h => h) rfl (by kernel_rfl) (by repeat (first | exact HF8.out | exact HF9.out | exact Frm.refl _ _ | apply Frm.drew1 | apply Frm.drew)) ?_
          intro K hK
          repeat (go_big_quiet_step (fail))
          refine wpQuiet_nil (hK _ ?_)
          clear hK K
          refine held_end (by kernel_rfl) ?_
          go_wp2_with fail
          go_roundw
          case rel => exact ⟨k + 1, xs, n, by go_num, by omega, by omega, (HP7.out.keep (by repeat (first | exact HF8.out | exact HF9.out | exact Frm.refl _ _ | apply Frm.drew1 | apply Frm.drew))).oi⟩
          case measure => simp [intOf]; omega
    · have l1 : ¬ (k : Int) < acts.length := by omega
      have hl9 : xs.length ≤ 300 := by omega
      obtain ⟨oa, ocap, hfm⟩ := own_form HO1.out.own
      subst hfm
      have HO7 := HO1
      clear HO1
      by_cases hm5 : (1 : Int) < m
      · generalize hkm : m = kk at *
        go_upto_region 30 with fail
        generalize wr = WX at *
        have hk1 : 1 ≤ kk := by omega
        have hk2 : kk ≤ 1000 := by omega
        clear hm5
        rcases own_form2 HO7.out.own with ⟨hx0, hv0⟩ | ⟨g, gcap, hv0, hg1, hg2⟩
        · subst hx0
          simp only [Value.slice.injEq] at hv0
          obtain ⟨rfl, -, rfl⟩ := hv0
          have hne : Nonempty (HW (fun wx => Frm [] WX wx)) := ⟨⟨WX, Frm.refl _ _⟩⟩
          have q1 : (0 : Int) < kk := by omega
          have HRP : Hid (RowAt WX (w.heap.size + 1) (.slice none 0 0) (([] : List Int).take kk)) := Lib.hid (by rw [List.take_nil]; exact HO7.out.own.row)
          refine held_begin (S := fun wx => Frm [] WX wx) (by kernel_rfl) ?_
          refine held_row_at (fuel := 6) (is := [0, 2, 3, 4, 5, 6, 7]) (.cons rfl (.cons rfl (.cons rfl (.cons rfl (.cons rfl (.cons rfl (.cons rfl .nil))))))) (by kernel_rfl) (fun _ _ _ _ _ h => h) rfl (by kernel_rfl) (Frm.refl _ _).drew1 ?_
          intro K hK
          repeat (go_big_quiet_step (fail))
          refine wpQuiet_nil (hK _ ?_)
          clear hK K
          refine held_call (fuel := 5) (i := 1) rfl (by kernel_rfl) ?_
          go_wp2_with fail
          refine (HO7.out.keep (by repeat (first | exact HF8.out | exact HF9.out | exact Frm.refl _ _ | apply Frm.drew1 | apply Frm.drew))).all' (most := kk) (by omega) (by omega) hl9 |>.mono ?_; rintro e x1 ⟨v9, rfl, hO, hF⟩; have HF8 := Lib.hid (Frm.trans (S := []) (a := WX) (by repeat (first | exact HF8.out | exact HF9.out | exact Frm.refl _ _ | apply Frm.drew1 | apply Frm.drew)) hF); have HO8 := Lib.hid hO; clear hO hF
          go_wp2_with fail
          refine onNormal_mk ⟨(by repeat (first | exact HF8.out | exact HF9.out | exact Frm.refl _ _ | apply Frm.drew1 | apply Frm.drew)), ?_⟩
          refine held_call (fuel := 4) (i := 8) rfl (by kernel_rfl) ?_
          go_wp2_with fail
          refine (Same_any _ HO8.out.row (HRP.out.frm (S := []) (by repeat (first | exact HF8.out | exact HF9.out | exact Frm.refl _ _ | apply Frm.drew1 | apply Frm.drew)) (by simp))).mono ?_; rintro e x2 ⟨he, nn, rfl⟩; obtain rfl : e = .returned (.bool true) := by rw [he]; simp
          go_wp2_with fail
          refine onNormal_mk ⟨(by repeat (first | exact HF8.out | exact HF9.out | exact Frm.refl _ _ | apply Frm.drew1 | apply Frm.drew)), ?_⟩
          refine held_row_at (fuel := 3) (is := [9]) (.cons rfl .nil) (by kernel_rfl) (fun _ _ _ _ _ h => h) rfl (by kernel_rfl) (by repeat (first | exact HF8.out | exact HF9.out | exact Frm.refl _ _ | apply Frm.drew1 | apply Frm.drew)) ?_
          intro K hK
          repeat (go_big_quiet_step (fail))
          refine wpQuiet_nil (hK _ ?_)
          clear hK K
          refine held_call (fuel := 2) (i := 10) rfl (by kernel_rfl) ?_
          go_wp2_with fail
          refine (rawake _).mono ?_; rintro e x3 ⟨rfl, hF⟩; have HF9 := Lib.hid (Frm.trans (S := []) (a := WX) (by repeat (first | exact HF8.out | exact HF9.out | exact Frm.refl _ _ | apply Frm.drew1 | apply Frm.drew)) hF); clear hF
          go_wp2_with fail
          refine onNormal_mk ⟨(by repeat (first | exact HF8.out | exact HF9.out | exact Frm.refl _ _ | apply Frm.drew1 | apply Frm.drew)), ?_⟩
          refine held_row_at (fuel := 0) (is := [11, 12]) (.cons rfl (.cons rfl .nil)) (by kernel_rfl) (fun _ _ _ _ _ h => h) rfl (by kernel_rfl) (by repeat (first | exact HF8.out | exact HF9.out | exact Frm.refl _ _ | apply Frm.drew1 | apply Frm.drew)) ?_
          intro K hK
          repeat (go_big_quiet_step (fail))
          refine wpQuiet_nil (hK _ ?_)
          clear hK K
          refine held_end (by kernel_rfl) ?_
          go_wp2
          go_ret
          exact ⟨rfl, (HO7.out.frm.trans HF9.out).below (Nat.le_refl _) (by simp)⟩
        simp only [Value.slice.injEq] at hv0
        obtain ⟨rfl, -, rfl⟩ := hv0
        have hne : Nonempty (HW (fun wx => Frm [] WX wx)) := ⟨⟨WX, Frm.refl _ _⟩⟩
        unfold maxLen at hg2
        by_cases hle : kk ≤ xs.length
        · have q1 : ¬ (xs.length : Int) < kk := by omega
          have q2 : (kk : Int) ≤ xs.length := by omega
          have q3 : (kk : Int) ≤ ocap := by omega
          have HRP := Lib.hid (HO7.out.own.row.pre hle)
          refine held_begin (S := fun wx => Frm [] WX wx) (by kernel_rfl) ?_
          refine held_row_at (fuel := 6) (is := [0, 2, 3, 4, 5, 6, 7]) (.cons rfl (.cons rfl (.cons rfl (.cons rfl (.cons rfl (.cons rfl (.cons rfl .nil))))))) (by kernel_rfl) (fun _ _ _ _ _ h => h) rfl (by kernel_rfl) (Frm.refl _ _).drew1 ?_
          intro K hK
          repeat (go_big_quiet_step (fail))
          refine wpQuiet_nil (hK _ ?_)
          clear hK K
          refine held_call (fuel := 5) (i := 1) rfl (by kernel_rfl) ?_
          go_wp2_with fail
          refine (HO7.out.keep (by repeat (first | exact HF8.out | exact HF9.out | exact Frm.refl _ _ | apply Frm.drew1 | apply Frm.drew))).all' (most := kk) (by omega) (by omega) hl9 |>.mono ?_; rintro e x1 ⟨v9, rfl, hO, hF⟩; have HF8 := Lib.hid (Frm.trans (S := []) (a := WX) (by repeat (first | exact HF8.out | exact HF9.out | exact Frm.refl _ _ | apply Frm.drew1 | apply Frm.drew)) hF); have HO8 := Lib.hid hO; clear hO hF
          go_wp2_with fail
          refine onNormal_mk ⟨(by repeat (first | exact HF8.out | exact HF9.out | exact Frm.refl _ _ | apply Frm.drew1 | apply Frm.drew)), ?_⟩
          refine held_call (fuel := 4) (i := 8) rfl (by kernel_rfl) ?_
          go_wp2_with fail
          refine (Same_any _ HO8.out.row (HRP.out.frm (S := []) (by repeat (first | exact HF8.out | exact HF9.out | exact Frm.refl _ _ | apply Frm.drew1 | apply Frm.drew)) (by simp))).mono ?_; rintro e x2 ⟨he, nn, rfl⟩; obtain rfl : e = .returned (.bool true) := by rw [he]; simp
          go_wp2_with fail
          refine onNormal_mk ⟨(by repeat (first | exact HF8.out | exact HF9.out | exact Frm.refl _ _ | apply Frm.drew1 | apply Frm.drew)), ?_⟩
          refine held_row_at (fuel := 3) (is := [9]) (.cons rfl .nil) (by kernel_rfl) (fun _ _ _ _ _ h => h) rfl (by kernel_rfl) (by repeat (first | exact HF8.out | exact HF9.out | exact Frm.refl _ _ | apply Frm.drew1 | apply Frm.drew)) ?_
          intro K hK
          repeat (go_big_quiet_step (fail))
          refine wpQuiet_nil (hK _ ?_)
          clear hK K
          refine held_call (fuel := 2) (i := 10) rfl (by kernel_rfl) ?_
          go_wp2_with fail
          refine (rawake _).mono ?_; rintro e x3 ⟨rfl, hF⟩; have HF9 := Lib.hid (Frm.trans (S := []) (a := WX) (by repeat (first | exact HF8.out | exact HF9.out | exact Frm.refl _ _ | apply Frm.drew1 | apply Frm.drew)) hF); clear hF
          go_wp2_with fail
          refine onNormal_mk ⟨(by repeat (first | exact HF8.out | exact HF9.out | exact Frm.refl _ _ | apply Frm.drew1 | apply Frm.drew)), ?_⟩
          refine held_row_at (fuel := 0) (is := [11, 12]) (.cons rfl (.cons rfl .nil)) (by kernel_rfl) (fun _ _ _ _ _ h => h) rfl (by kernel_rfl) (by repeat (first | exact HF8.out | exact HF9.out | exact Frm.refl _ _ | apply Frm.drew1 | apply Frm.drew)) ?_
          intro K hK
          repeat (go_big_quiet_step (fail))
          refine wpQuiet_nil (hK _ ?_)
          clear hK K
          refine held_end (by kernel_rfl) ?_
          go_wp2
          go_ret
          exact ⟨rfl, (HO7.out.frm.trans HF9.out).below (Nat.le_refl _) (by simp)⟩
        · have q1 : (xs.length : Int) < kk := by omega
          have q2 : (xs.length : Int) ≤ kk := by omega
          have q3 : (xs.length : Int) ≤ ocap := by omega
          have HRP : Hid (RowAt WX (w.heap.size + 1) (.slice (some ⟨g, 0, none⟩) xs.length ocap) (xs.take kk)) := Lib.hid (by rw [List.take_of_length_le (by omega)]; exact HO7.out.own.row)
          refine held_begin (S := fun wx => Frm [] WX wx) (by kernel_rfl) ?_
          refine held_row_at (fuel := 6) (is := [0, 2, 3, 4, 5, 6, 7]) (.cons rfl (.cons rfl (.cons rfl (.cons rfl (.cons rfl (.cons rfl (.cons rfl .nil))))))) (by kernel_rfl) (fun _ _ _ _ _ h => h) rfl (by kernel_rfl) (Frm.refl _ _).drew1 ?_
          intro K hK
          repeat (go_big_quiet_step (fail))
          refine wpQuiet_nil (hK _ ?_)
          clear hK K
          refine held_call (fuel := 5) (i := 1) rfl (by kernel_rfl) ?_
          go_wp2_with fail
          refine (HO7.out.keep (by repeat (first | exact HF8.out | exact HF9.out | exact Frm.refl _ _ | apply Frm.drew1 | apply Frm.drew))).all' (most := kk) (by omega) (by omega) hl9 |>.mono ?_; rintro e x1 ⟨v9, rfl, hO, hF⟩; have HF8 := Lib.hid (Frm.trans (S := []) (a := WX) (by repeat (first | exact HF8.out | exact HF9.out | exact Frm.refl _ _ | apply Frm.drew1 | apply Frm.drew)) hF); have HO8 := Lib.hid hO; clear hO hF
          go_wp2_with fail
          refine onNormal_mk ⟨(by repeat (first | exact HF8.out | exact HF9.out | exact Frm.refl _ _ | apply Frm.drew1 | apply Frm.drew)), ?_⟩
          refine held_call (fuel := 4) (i := 8) rfl (by kernel_rfl) ?_
          go_wp2_with fail
          refine (Same_any _ HO8.out.row (HRP.out.frm (S := []) (by repeat (first | exact HF8.out | exact HF9.out | exact Frm.refl _ _ | apply Frm.drew1 | apply Frm.drew)) (by simp))).mono ?_; rintro e x2 ⟨he, nn, rfl⟩; obtain rfl : e = .returned (.bool true) := by rw [he]; simp
          go_wp2_with fail
          refine onNormal_mk ⟨(by repeat (first | exact HF8.out | exact HF9.out | exact Frm.refl _ _ | apply Frm.drew1 | apply Frm.drew)), ?_⟩
          refine held_row_at (fuel := 3) (is := [9]) (.cons rfl .nil) (by kernel_rfl) (fun _ _ _ _ _ h => h) rfl (by kernel_rfl) (by repeat (first | exact HF8.out | exact HF9.out | exact Frm.refl _ _ | apply Frm.drew1 | apply Frm.drew)) ?_
          intro K hK
          repeat (go_big_quiet_step (fail))
          refine wpQuiet_nil (hK _ ?_)
          clear hK K
          refine held_call (fuel := 2) (i := 10) rfl (by kernel_rfl) ?_
          go_wp2_with fail
          refine (rawake _).mono ?_; rintro e x3 ⟨rfl, hF⟩; have HF9 := Lib.hid (Frm.trans (S := []) (a := WX) (by repeat (first | exact HF8.out | exact HF9.out | exact Frm.refl _ _ | apply Frm.drew1 | apply Frm.drew)) hF); clear hF
          go_wp2_with fail
          refine onNormal_mk ⟨(by repeat (first | exact HF8.out | exact HF9.out | exact Frm.refl _ _ | apply Frm.drew1 | apply Frm.drew)), ?_⟩
          refine held_row_at (fuel := 0) (is := [11, 12]) (.cons rfl (.cons rfl .nil)) (by kernel_rfl) (fun _ _ _ _ _ h => h) rfl (by kernel_rfl) (by repeat (first | exact HF8.out | exact HF9.out | exact Frm.refl _ _ | apply Frm.drew1 | apply Frm.drew)) ?_
          intro K hK
          repeat (go_big_quiet_step (fail))
          refine wpQuiet_nil (hK _ ?_)
          clear hK K
          refine held_end (by kernel_rfl) ?_
          go_wp2
          go_ret
          exact ⟨rfl, (HO7.out.frm.trans HF9.out).below (Nat.le_refl _) (by simp)⟩
      · go_upto_region 30 with fail
        generalize wr = WX at *
        obtain ⟨kk, hkk⟩ : ∃ kk : Nat, kk = 1 := ⟨1, rfl⟩
        have hk1 : 1 ≤ kk := by omega
        have hk2 : kk ≤ 1000 := by omega
        rw [show Value.int .i64 1 = Value.int .i64 (kk : Int) by rw [hkk]; rfl]
        clear hkk hm5
        rcases own_form2 HO7.out.own with ⟨hx0, hv0⟩ | ⟨g, gcap, hv0, hg1, hg2⟩
        · subst hx0
          simp only [Value.slice.injEq] at hv0
          obtain ⟨rfl, -, rfl⟩ := hv0
          have hne : Nonempty (HW (fun wx => Frm [] WX wx)) := ⟨⟨WX, Frm.refl _ _⟩⟩
          have q1 : (0 : Int) < kk := by omega
          have HRP : Hid (RowAt WX (w.heap.size + 1) (.slice none 0 0) (([] : List Int).take kk)) := Lib.hid (by rw [List.take_nil]; exact HO7.out.own.row)
          refine held_begin (S := fun wx => Frm [] WX wx) (by kernel_rfl) ?_
          refine held_row_at (fuel := 6) (is := [0, 2, 3, 4, 5, 6, 7]) (.cons rfl (.cons rfl (.cons rfl (.cons rfl (.cons rfl (.cons rfl (.cons rfl .nil))))))) (by kernel_rfl) (fun _ _ _ _ _ h => h) rfl (by kernel_rfl) (Frm.refl _ _).drew1 ?_
          intro K hK
          repeat (go_big_quiet_step (fail))
          refine wpQuiet_nil (hK _ ?_)
          clear hK K
          refine held_call (fuel := 5) (i := 1) rfl (by kernel_rfl) ?_
          go_wp2_with fail
          refine (HO7.out.keep (by repeat (first | exact HF8.out | exact HF9.out | exact Frm.refl _ _ | apply Frm.drew1 | apply Frm.drew))).all' (most := kk) (by omega) (by omega) hl9 |>.mono ?_; rintro e x1 ⟨v9, rfl, hO, hF⟩; have HF8 := Lib.hid (Frm.trans (S := []) (a := WX) (by repeat (first | exact HF8.out | exact HF9.out | exact Frm.refl _ _ | apply Frm.drew1 | apply Frm.drew)) hF); have HO8 := Lib.hid hO; clear hO hF
          go_wp2_with fail
          refine onNormal_mk ⟨(by repeat (first | exact HF8.out | exact HF9.out | exact Frm.refl _ _ | apply Frm.drew1 | apply Frm.drew)), ?_⟩
          refine held_call (fuel := 4) (i := 8) rfl (by kernel_rfl) ?_
          go_wp2_with fail
          refine (Same_any _ HO8.out.row (HRP.out.frm (S := []) (by repeat (first | exact HF8.out | exact HF9.out | exact Frm.refl _ _ | apply Frm.drew1 | apply Frm.drew)) (by simp))).mono ?_; rintro e x2 ⟨he, nn, rfl⟩; obtain rfl : e = .returned (.bool true) := by rw [he]; simp
          go_wp2_with fail
          refine onNormal_mk ⟨(by repeat (first | exact HF8.out | exact HF9.out | exact Frm.refl _ _ | apply Frm.drew1 | apply Frm.drew)), ?_⟩
          refine held_row_at (fuel := 3) (is := [9]) (.cons rfl .nil) (by kernel_rfl) (fun _ _ _ _ _ h => h) rfl (by kernel_rfl) (by repeat (first | exact HF8.out | exact HF9.out | exact Frm.refl _ _ | apply Frm.drew1 | apply Frm.drew)) ?_
          intro K hK
          repeat (go_big_quiet_step (fail))
          refine wpQuiet_nil (hK _ ?_)
          clear hK K
          refine held_call (fuel := 2) (i := 10) rfl (by kernel_rfl) ?_
          go_wp2_with fail
          refine (rawake _).mono ?_; rintro e x3 ⟨rfl, hF⟩; have HF9 := Lib.hid (Frm.trans (S := []) (a := WX) (by repeat (first | exact HF8.out | exact HF9.out | exact Frm.refl _ _ | apply Frm.drew1 | apply Frm.drew)) hF); clear hF
          go_wp2_with fail
          refine onNormal_mk ⟨(by repeat (first | exact HF8.out | exact HF9.out | exact Frm.refl _ _ | apply Frm.drew1 | apply Frm.drew)), ?_⟩
          refine held_row_at (fuel := 0) (is := [11, 12]) (.cons rfl (.cons rfl .nil)) (by kernel_rfl) (fun _ _ _ _ _ h => h) rfl (by kernel_rfl) (by repeat (first | exact HF8.out | exact HF9.out | exact Frm.refl _ _ | apply Frm.drew1 | apply Frm.drew)) ?_
          intro K hK
          repeat (go_big_quiet_step (fail))
          refine wpQuiet_nil (hK _ ?_)
          clear hK K
          refine held_end (by kernel_rfl) ?_
          go_wp2
          go_ret
          exact ⟨rfl, (HO7.out.frm.trans HF9.out).below (Nat.le_refl _) (by simp)⟩
        simp only [Value.slice.injEq] at hv0
        obtain ⟨rfl, -, rfl⟩ := hv0
        have hne : Nonempty (HW (fun wx => Frm [] WX wx)) := ⟨⟨WX, Frm.refl _ _⟩⟩
        unfold maxLen at hg2
        by_cases hle : kk ≤ xs.length
        · have q1 : ¬ (xs.length : Int) < kk := by omega
          have q2 : (kk : Int) ≤ xs.length := by omega
          have q3 : (kk : Int) ≤ ocap := by omega
          have HRP := Lib.hid (HO7.out.own.row.pre hle)
          refine held_begin (S := fun wx => Frm [] WX wx) (by kernel_rfl) ?_
          refine held_row_at (fuel := 6) (is := [0, 2, 3, 4, 5, 6, 7]) (.cons rfl (.cons rfl (.cons rfl (.cons rfl (.cons rfl (.cons rfl (.cons rfl .nil))))))) (by kernel_rfl) (fun _ _ _ _ _ h => h) rfl (by kernel_rfl) (Frm.refl _ _).drew1 ?_
          intro K hK
          repeat (go_big_quiet_step (fail))
          refine wpQuiet_nil (hK _ ?_)
          clear hK K
          refine held_call (fuel := 5) (i := 1) rfl (by kernel_rfl) ?_
          go_wp2_with fail
          refine (HO7.out.keep (by repeat (first | exact HF8.out | exact HF9.out | exact Frm.refl _ _ | apply Frm.drew1 | apply Frm.drew))).all' (most := kk) (by omega) (by omega) hl9 |>.mono ?_; rintro e x1 ⟨v9, rfl, hO, hF⟩; have HF8 := Lib.hid (Frm.trans (S := []) (a := WX) (by repeat (first | exact HF8.out | exact HF9.out | exact Frm.refl _ _ | apply Frm.drew1 | apply Frm.drew)) hF); have HO8 := Lib.hid hO; clear hO hF
          go_wp2_with fail
          refine onNormal_mk ⟨(by repeat (first | exact HF8.out | exact HF9.out | exact Frm.refl _ _ | apply Frm.drew1 | apply Frm.drew)), ?_⟩
          refine held_call (fuel := 4) (i := 8) rfl (by kernel_rfl) ?_
          go_wp2_with fail
          refine (Same_any _ HO8.out.row (HRP.out.frm (S := []) (by repeat (first | exact HF8.out | exact HF9.out | exact Frm.refl _ _ | apply Frm.drew1 | apply Frm.drew)) (by simp))).mono ?_; rintro e x2 ⟨he, nn, rfl⟩; obtain rfl : e = .returned (.bool true) := by rw [he]; simp
          go_wp2_with fail
          refine onNormal_mk ⟨(by repeat (first | exact HF8.out | exact HF9.out | exact Frm.refl _ _ | apply Frm.drew1 | apply Frm.drew)), ?_⟩
          refine held_row_at (fuel := 3) (is := [9]) (.cons rfl .nil) (by kernel_rfl) (fun _ _ _ _ _ h => h) rfl (by kernel_rfl) (by repeat (first | exact HF8.out | exact HF9.out | exact Frm.refl _ _ | apply Frm.drew1 | apply Frm.drew)) ?_
          intro K hK
          repeat (go_big_quiet_step (fail))
          refine wpQuiet_nil (hK _ ?_)
          clear hK K
          refine held_call (fuel := 2) (i := 10) rfl (by kernel_rfl) ?_
          go_wp2_with fail
          refine (rawake _).mono ?_; rintro e x3 ⟨rfl, hF⟩; have HF9 := Lib.hid (Frm.trans (S := []) (a := WX) (by repeat (first | exact HF8.out | exact HF9.out | exact Frm.refl _ _ | apply Frm.drew1 | apply Frm.drew)) hF); clear hF
          go_wp2_with fail
          refine onNormal_mk ⟨(by repeat (first | exact HF8.out | exact HF9.out | exact Frm.refl _ _ | apply Frm.drew1 | apply Frm.drew)), ?_⟩
          refine held_row_at (fuel := 0) (is := [11, 12]) (.cons rfl (.cons rfl .nil)) (by kernel_rfl) (fun _ _ _ _ _ h => h) rfl (by kernel_rfl) (by repeat (first | exact HF8.out | exact HF9.out | exact Frm.refl _ _ | apply Frm.drew1 | apply Frm.drew)) ?_
          intro K hK
          repeat (go_big_quiet_step (fail))
          refine wpQuiet_nil (hK _ ?_)
          clear hK K
          refine held_end (by kernel_rfl) ?_
          go_wp2
          go_ret
          exact ⟨rfl, (HO7.out.frm.trans HF9.out).below (Nat.le_refl _) (by simp)⟩
        · have q1 : (xs.length : Int) < kk := by omega
          have q2 : (xs.length : Int) ≤ kk := by omega
          have q3 : (xs.length : Int) ≤ ocap := by omega
          have HRP : Hid (RowAt WX (w.heap.size + 1) (.slice (some ⟨g, 0, none⟩) xs.length ocap) (xs.take kk)) := Lib.hid (by rw [List.take_of_length_le (by omega)]; exact HO7.out.own.row)
          refine held_begin (S := fun wx => Frm [] WX wx) (by kernel_rfl) ?_
          refine held_row_at (fuel := 6) (is := [0, 2, 3, 4, 5, 6, 7]) (.cons rfl (.cons rfl (.cons rfl (.cons rfl (.cons rfl (.cons rfl (.cons rfl .nil))))))) (by kernel_rfl) (fun _ _ _ _ _ h => h) rfl (by kernel_rfl) (Frm.refl _ _).drew1 ?_
          intro K hK
          repeat (go_big_quiet_step (fail))
          refine wpQuiet_nil (hK _ ?_)
          clear hK K
          refine held_call (fuel := 5) (i := 1) rfl (by kernel_rfl) ?_
          go_wp2_with fail
          refine (HO7.out.keep (by repeat (first | exact HF8.out | exact HF9.out | exact Frm.refl _ _ | apply Frm.drew1 | apply Frm.drew))).all' (most := kk) (by omega) (by omega) hl9 |>.mono ?_; rintro e x1 ⟨v9, rfl, hO, hF⟩; have HF8 := Lib.hid (Frm.trans (S := []) (a := WX) (by repeat (first | exact HF8.out | exact HF9.out | exact Frm.refl _ _ | apply Frm.drew1 | apply Frm.drew)) hF); have HO8 := Lib.hid hO; clear hO hF
          go_wp2_with fail
          refine onNormal_mk ⟨(by repeat (first | exact HF8.out | exact HF9.out | exact Frm.refl _ _ | apply Frm.drew1 | apply Frm.drew)), ?_⟩
          refine held_call (fuel := 4) (i := 8) rfl (by kernel_rfl) ?_
          go_wp2_with fail
          refine (Same_any _ HO8.out.row (HRP.out.frm (S := []) (by repeat (first | exact HF8.out | exact HF9.out | exact Frm.refl _ _ | apply Frm.drew1 | apply Frm.drew)) (by simp))).mono ?_; rintro e x2 ⟨he, nn, rfl⟩; obtain rfl : e = .returned (.bool true) := by rw [he]; simp
          go_wp2_with fail
          refine onNormal_mk ⟨(by repeat (first | exact HF8.out | exact HF9.out | exact Frm.refl _ _ | apply Frm.drew1 | apply Frm.drew)), ?_⟩
          refine held_row_at (fuel := 3) (is := [9]) (.cons rfl .nil) (by kernel_rfl) (fun _ _ _ _ _ h => h) rfl (by kernel_rfl) (by repeat (first | exact HF8.out | exact HF9.out | exact Frm.refl _ _ | apply Frm.drew1 | apply Frm.drew)) ?_
          intro K hK
          repeat (go_big_quiet_step (fail))
          refine wpQuiet_nil (hK _ ?_)
          clear hK K
          refine held_call (fuel := 2) (i := 10) rfl (by kernel_rfl) ?_
          go_wp2_with fail
          refine (rawake _).mono ?_; rintro e x3 ⟨rfl, hF⟩; have HF9 := Lib.hid (Frm.trans (S := []) (a := WX) (by repeat (first | exact HF8.out | exact HF9.out | exact Frm.refl _ _ | apply Frm.drew1 | apply Frm.drew)) hF); clear hF
          go_wp2_with fail
          refine onNormal_mk ⟨(by repeat (first | exact HF8.out | exact HF9.out | exact Frm.refl _ _ | apply Frm.drew1 | apply Frm.drew)), ?_⟩
          refine held_row_at (fuel := 0) (is := [11, 12]) (.cons rfl (.cons rfl .nil)) (by kernel_rfl) (fun _ _ _ _ _ h => h) rfl (by kernel_rfl) (by repeat (first | exact HF8.out | exact HF9.out | exact Frm.refl _ _ | apply Frm.drew1 | apply Frm.drew)) ?_
          intro K hK
          repeat (go_big_quiet_step (fail))
          refine wpQuiet_nil (hK _ ?_)
          clear hK K
          refine held_end (by kernel_rfl) ?_
          go_wp2
          go_ret
          exact ⟨rfl, (HO7.out.frm.trans HF9.out).below (Nat.le_refl _) (by simp)⟩

theorem ringPlays_long (v : Value) (acts : List (Int × Int)) (m : Int) (w : World) (h : ActsAt w v acts) (hl : 60 < acts.length) :
    Calls Try.prog 6 #[v, .int .u8 m] w fun e w' => e = .returned (.bool true) ∧ Below w.heap.size w w' := by
  obtain ⟨a, cap, rfl, -, -, -⟩ := h
  have d1 : decide ((60 : Int) < acts.length) = true := by simp; omega
  have d3 : decide (60 < acts.length) = true := by simp; omega
  go_enter Try.func6, Try.ntmps6
  go_wp2_with fail
  refine (rawake _).mono ?_
  rintro e w1 ⟨rfl, hF⟩
  have HF := Lib.hid hF
  clear hF
  go_wp2
  go_ret
  exact ⟨rfl, HF.out.below (Nat.le_refl _) (by simp)⟩

theorem ringPlays_walk (v : Value) (acts : List (Int × Int)) (m : Int) (w : World) (h : ActsAt w v acts) (hm : U8 m) :
    Calls Try.prog 6 #[v, .int .u8 m] w fun e w' => e = .returned (.bool true) ∧ Below w.heap.size w w' := by
  by_cases hl : acts.length ≤ 60
  · unfold U8 at hm
    obtain ⟨k, rfl⟩ := Int.eq_ofNat_of_zero_le hm.1
    exact ringPlays_short v acts k w h hm.1 hm.2 hl
  · exact ringPlays_long v acts m w h (by omega)
end Go.Proofs.Yteapniipkpijkaa
