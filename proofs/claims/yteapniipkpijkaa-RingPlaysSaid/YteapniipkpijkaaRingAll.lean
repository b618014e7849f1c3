/- Going through a ring: the contract of All's function value, for every loop body that keeps the ring. -/
import Derived.Test.YteapniipkpijkaaRingWalks
import Derived.RangeFuncNested
import Derived.RangeFuncBound
import Derived.RangeFuncCalls
import Derived.RangeFuncLeaves
import Derived.RangeFuncBox
import Derived.RangeFuncWrites
import Derived.Shelf.Abstract
import Derived.Shelf.RegionOpen
import Derived.OwnWalkIn
import Derived.TacticsInMore
import Derived.LoopNIn
import Derived.LoopIn
import Derived.Maps.AppendAt
namespace Go.Proofs.Yteapniipkpijkaa
open Go.RowKit Go.Shelf
attribute [local go_sem] Oper.semAt_some

/-- every block below n that is not in Z is as it was -/
def KeepX (n : Nat) (Z : List Nat) (W W' : World) : Prop := ∀ k, k < n → k ∉ Z → W'.heap[k]? = W.heap[k]?
theorem KeepX.refl (n : Nat) (Z : List Nat) (W : World) : KeepX n Z W W := fun _ _ _ => rfl
theorem KeepX.trans {n : Nat} {Z : List Nat} {A B C : World} (h : KeepX n Z A B) (k : KeepX n Z B C) : KeepX n Z A C := fun i hi hz => (k i hi hz).trans (h i hi hz)
theorem KeepX.put {n : Nat} {Z : List Nat} {w : World} (hn : n ≤ w.heap.size) (W : World) (l : Nat) (o o' : Obj) (hl : w.heap.size ≤ l) (_ : W.heap[l]? = some o) (_ : o.isCells = false) (_ : o.isWalk = false) : KeepX n Z W (W.putObj l o') :=
  fun _ hk _ => World.putObj_heap_other (by omega)
theorem KeepX.hat {n : Nat} {Z : List Nat} {W W' : World} (h : KeepX n Z W W') {b : Nat} {vs : List Value} {T : TypeId} (hb : b < n) (hz : b ∉ Z) (hh : HAt W b vs T) : HAt W' b vs T := (h b hb hz).trans hh
theorem KeepX.ring {n : Nat} {Z : List Nat} {W W' : World} (h : KeepX n Z W W') {b lb f : Nat} {cs xs : List Int} (hb : b < n) (hlb : lb < n) (hz : b ∉ Z) (hlz : lb ∉ Z) (hR : RingAt W b lb cs f xs) : RingAt W' b lb cs f xs :=
  { hR with box := h.hat hb hz hR.box, row := fun h0 => h.hat hlb hlz (hR.row h0) }
theorem RingAt.drew {W : World} {b lb f : Nat} {cs xs : List Int} (hR : RingAt W b lb cs f xs) (k : Nat) : RingAt (W.drewN k) b lb cs f xs := { hR with box := hR.box.drew k, row := fun h => (hR.row h).drew k }
theorem grown_drew (W : World) (k : Nat) : W.grownBy (W.drewN k) none := ⟨rfl, rfl, rfl, Nat.le_refl _, fun _ _ _ => rfl⟩

/-- what has come when k rounds are over -/
def upR (xs : List Int) (k : Nat) : List (Nat × Int) := (List.range k).map fun j => (j, xs[j]?.getD 0)
theorem upR_succ (xs : List Int) (k : Nat) : upR xs (k + 1) = upR xs k ++ [(k, xs[k]?.getD 0)] := by simp [upR, List.range_succ]
theorem upR_len (xs : List Int) (k : Nat) : (upR xs k).length = k := by simp [upR]

abbrev encR : Nat × Int → Array Value := fun x => #[Value.int .i64 (x.1 : Int), Value.int .i64 x.2]

set_option maxRecDepth 100000 in
set_option maxHeartbeats 2000000 in
theorem all1_some (n : Nat) (hn : 1 ≤ n) (Bn b lb f n₁ : Nat) (Z : List Nat) (cs xs : List Int) (hb : b < n₁) (hlb : lb < n₁) (hBn : Bn < n₁) (hz : b ∉ Z ∧ lb ∉ Z ∧ Bn ∉ Z) (hx : xs.length ≤ 300) (w : World) (hw1 : n₁ ≤ w.heap.size)
    (hbox : HAt w Bn [.pointer (some ⟨b, 0, none⟩)] 51) (hR : RingAt w b lb cs f xs) :
    SeqStopsK Fence.wide n Try.prog 41 #[.pointer (some ⟨Bn, 0, none⟩)] encR (KeepX n₁ Z) (fun ys => ys = upR xs xs.length) (fun pre => ∃ k, k ≤ xs.length ∧ pre = upR xs k) xs.length w := by
  intro l J Jx W hW hJ _ hY h0
  have hR' : RingAt W b lb cs f xs := { hR with box := (hW.block b (by omega)).trans hR.box, row := fun h => (hW.block lb (by omega)).trans (hR.row h) }
  have hbox' : HAt W Bn [.pointer (some ⟨b, 0, none⟩)] 51 := (hW.block Bn (by omega)).trans hbox
  clear hW hR hbox
  refine callsIn_of_wp Try.func41 rfl trivial ?_ rfl
  simp only [Try.ntmps41, List.size_toArray, List.length_cons, List.length_nil, Nat.reduceAdd, Nat.reduceSub, Array.replicate_succ, Array.replicate_zero, List.push_toArray, List.append_toArray, List.nil_append, List.cons_append]
  have HR := Lib.hid hR'
  have HB := Lib.hid hbox'
  have HJ := Lib.hid hJ
  clear hR' hbox' hJ
  gi_wp2
  gi_loopw [3] (fun i wr => ∃ k : Nat, k ≤ xs.length ∧ i = .int .i64 k ∧ J (upR xs k) wr ∧ KeepX n₁ Z W wr)
    (fun i _ => xs.length - (intOf i).toNat)
  case atStart => exact ⟨0, Nat.zero_le _, rfl, h0, KeepX.refl _ _ _⟩
  case round =>
    obtain ⟨k, hk, rfl, hJs, hnx⟩ := hrel
    have HR1 := Lib.hid (hnx.ring hb hlb hz.1 hz.2.1 HR.out)
    have c0 := (hnx.hat hBn hz.2.2 HB.out).cell (i := 0) rfl
    have HN := Lib.hid hnx
    have HJ1 := Lib.hid hJs
    clear hnx hJs
    by_cases hlt : k < xs.length
    · have l1 : (k : Int) < xs.length := by omega
      gi_wp2_with fail
      refine ⟨trivial, ?_⟩
      refine (callsIn_wide.2 (Len_any HR1.out)).mono ?_
      rintro e w1 ⟨rfl, rfl⟩
      gi_wp2_with fail
      refine ⟨trivial, ?_⟩
      refine (callsIn_wide.2 (At_yes k HR1.out hlt)).mono ?_
      rintro e w1 ⟨rfl, kk, rfl⟩
      have hJd : J (upR xs k) (wr.drewN kk) := HJ.out _ _ _ none HJ1.out (grown_drew _ _) (by simp)
      obtain ⟨fn, tmps, assign, body, hy, hRn⟩ := hY _ (k, xs[k]?.getD 0) _ hJd (by rw [upR_len]; exact hlt)
      dsimp only [encR] at hy
      clear hJd
      have HNd : Hid (KeepX n₁ Z W (wr.drewN kk)) := Lib.hid (fun i hi hz => HN.out i hi hz)
      have HX : Hid (upR xs (k + 1) = upR xs k ++ [(k, xs[k]?.getD 0)]) := Lib.hid (upR_succ xs k)
      generalize xs[k]?.getD 0 = x at *
      gi_wp2_with fail
      refine hRn.mono ?_
      rintro e W3 (⟨rfl, hJ3, hk3⟩ | ⟨rfl, hJx3⟩)
      · have HJ3 := Lib.hid hJ3
        have HK3 := Lib.hid hk3
        clear hJ3 hk3 hy hRn
        gi_wp2
        go_roundw
        case rel => exact ⟨k + 1, by omega, by go_num, by rw [HX.out]; exact HJ3.out, HNd.out.trans HK3.out⟩
        case measure => simp [intOf]; omega
      · have HJx3 := Lib.hid hJx3
        clear hJx3 hy hRn
        gi_wp2
        refine bodyPost_ret (results_none rfl _ _ _) rfl ?_
        exact ⟨⟨_, rfl⟩, .inr ⟨_, ⟨k + 1, by omega, HX.out.symm⟩, HJx3.out⟩⟩
    · obtain rfl : k = xs.length := by omega
      gi_wp2_with fail
      refine ⟨trivial, ?_⟩
      refine (callsIn_wide.2 (Len_any HR1.out)).mono ?_
      rintro e w1 ⟨rfl, rfl⟩
      gi_wp2
      go_end0
      exact ⟨⟨_, rfl⟩, .inl ⟨_, rfl, HJ1.out⟩⟩

set_option maxRecDepth 100000 in
set_option maxHeartbeats 2000000 in
theorem all1_none (n : Nat) (hn : 1 ≤ n) (Bn n₁ : Nat) (Z : List Nat) (hBn : Bn < n₁) (hz : Bn ∉ Z) (w : World) (hw1 : n₁ ≤ w.heap.size) (hbox : HAt w Bn [.pointer none] 51) :
    SeqStopsK Fence.wide n Try.prog 41 #[.pointer (some ⟨Bn, 0, none⟩)] encR (KeepX n₁ Z) (fun ys => ys = upR [] ([] : List Int).length) (fun pre => ∃ k, k ≤ ([] : List Int).length ∧ pre = upR [] k) ([] : List Int).length w := by
  intro l J Jx W hW hJ _ hY h0
  have hbox' : HAt W Bn [.pointer none] 51 := (hW.block Bn (by omega)).trans hbox
  clear hW hbox hY
  refine callsIn_of_wp Try.func41 rfl trivial ?_ rfl
  simp only [Try.ntmps41, List.size_toArray, List.length_cons, List.length_nil, Nat.reduceAdd, Nat.reduceSub, Array.replicate_succ, Array.replicate_zero, List.push_toArray, List.append_toArray, List.nil_append, List.cons_append]
  have HB := Lib.hid hbox'
  have H0 := Lib.hid h0
  clear hbox' hJ h0
  gi_wp2
  gi_loopw [3] (fun i wr => i = .int .i64 0 ∧ J [] wr ∧ KeepX n₁ Z W wr) (fun _ _ => 0)
  case atStart => exact ⟨rfl, H0.out, KeepX.refl _ _ _⟩
  case round =>
    obtain ⟨rfl, hJs, hnx⟩ := hrel
    have c0 := (hnx.hat hBn hz HB.out).cell (i := 0) rfl
    have HJ1 := Lib.hid hJs
    clear hnx hJs
    gi_wp2_with fail
    refine ⟨trivial, ?_⟩
    refine (callsIn_wide.2 (Len_nil _)).mono ?_
    rintro e w1 ⟨rfl, rfl⟩
    gi_wp2
    go_end0
    exact ⟨⟨_, rfl⟩, .inl ⟨_, rfl, HJ1.out⟩⟩

/-- what a ring's pointer gives: all its things, one by one -/
def SeqR (w : World) (pv : Option Addr) (xs : List Int) : Prop := ∀ (W : World) (Bn n₁ : Nat) (Z : List Nat), Frm [] w W → n₁ ≤ W.heap.size → w.heap.size ≤ Bn → Bn < n₁ → Bn ∉ Z → (∀ z ∈ Z, w.heap.size < z) → HAt W Bn [.pointer pv] 51 →
  SeqStopsK Fence.wide 4 Try.prog 41 #[.pointer (some ⟨Bn, 0, none⟩)] encR (KeepX n₁ Z) (fun ys => ys = upR xs xs.length) (fun pre => ∃ k, k ≤ xs.length ∧ pre = upR xs k) xs.length W
theorem seqR_none (w : World) : SeqR w none [] := fun _ _ _ _ _ h1 _ h2 h3 _ h4 => all1_none _ (by omega) _ _ _ h2 h3 _ h1 h4
theorem seqR_some {w : World} {b lb f : Nat} {cs xs : List Int} (hR : RingAt w b lb cs f xs) (hlb : lb ≤ w.heap.size) : SeqR w (some ⟨b, 0, none⟩) xs := fun W Bn n₁ Z hF h1 h2 h3 h4 h5 h6 => by
  have hb := hR.box.lt
  have hbig : xs.length ≤ 300 := by have := hR.big; have := hR.many; omega
  exact all1_some _ (by omega) Bn b lb f n₁ Z cs xs (by omega) (by omega) h3 ⟨fun hm => by have := h5 b hm; omega, fun hm => by have := h5 lb hm; omega, h4⟩ hbig W h1 h6 { hR with box := hR.box.frm hF (by simp), row := fun h => (hR.row h).frm hF (by simp) }
end Go.Proofs.Yteapniipkpijkaa
