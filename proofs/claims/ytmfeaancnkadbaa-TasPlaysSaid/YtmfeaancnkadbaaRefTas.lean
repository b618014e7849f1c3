/- The contracts of the tas document's answer: Spots, New, Ask, Leave, Step. -/
import Derived.Test.YtmfeaancnkadbaaTasNew
import Derived.Test.YtmfeaancnkadbaaRefTake
import Derived.Test.YtmfeaancnkadbaaRefStore
import Derived.Test.YtmfeaancnkadbaaRefCas
import Derived.Test.YtmfeaancnkadbaaSeg
import Derived.Deep.DeepMust
namespace Go.Proofs.Ytmfeaancnkadbaa
open Go.RowKit

/-- the first cells of block g are vs -/
def RowP (w : World) (g : Nat) (vs : List Value) (T : TypeId) : Prop := ∃ cur : Array Value, w.heap[g]? = some (.cells cur T (0, 0)) ∧ cur.toList.take vs.length = vs
theorem RowP.lt {w : World} {g : Nat} {vs : List Value} {T : TypeId} (h : RowP w g vs T) : g < w.heap.size := by
  obtain ⟨cur, h1, _⟩ := h
  exact (Array.getElem?_eq_some_iff.1 h1).1
theorem RowP.cell {w : World} {g : Nat} {vs : List Value} {T : TypeId} (h : RowP w g vs T) {i : Nat} {v : Value} (hv : vs[i]? = some v) : w.cell? ⟨g, i, none⟩ = some v := by
  obtain ⟨cur, h1, h2⟩ := h
  have hi : i < vs.length := (List.getElem?_eq_some_iff.1 hv).1
  rw [← h2, List.getElem?_take_of_lt (by rw [h2] at *; exact hi)] at hv
  have : HAt w g cur.toList T := by unfold HAt; simpa using h1
  exact this.cell hv
theorem RowP.frozen {w : World} {g : Nat} {vs : List Value} {T : TypeId} (h : RowP w g vs T) (i : Nat) : w.frozen? ⟨g, i, none⟩ = false := by
  obtain ⟨cur, h1, _⟩ := h
  have : HAt w g cur.toList T := by unfold HAt; simpa using h1
  exact this.frozen i
theorem RowP.set {w : World} {g : Nat} {vs : List Value} {T : TypeId} (h : RowP w g vs T) (i : Nat) (v : Value) : RowP (w.setCell ⟨g, i, none⟩ v) g (vs.set i v) T := by
  obtain ⟨cur, h1, h2⟩ := h
  have h3 : HAt w g cur.toList T := by unfold HAt; simpa using h1
  have h4 := h3.set i v
  refine ⟨(cur.toList.set i v).toArray, h4, ?_⟩
  rw [List.length_set, List.toList_toArray, List.take_set, h2]
theorem RowP.other {w : World} {g : Nat} {vs : List Value} {T : TypeId} (h : RowP w g vs T) (a : Addr) (v : Value) (hb : g ≠ a.block) : RowP (w.setCell a v) g vs T := by
  obtain ⟨cur, h1, h2⟩ := h
  exact ⟨cur, (Below.heap_setCell _ _ _ _ hb).trans h1, h2⟩
theorem RowP.frm {w w' : World} {g : Nat} {vs : List Value} {T : TypeId} (h : RowP w g vs T) {S : List Nat} (hf : Frm S w w') (hb : g ∉ S) : RowP w' g vs T := by
  have := h.lt
  obtain ⟨cur, h1, h2⟩ := h
  exact ⟨cur, (hf.block g this hb).trans h1, h2⟩

theorem cell_four_new (w : World) (a b c d : Value) (T : TypeId) : ∀ (j : Nat) (u : Value), [a, b, c, d][j]? = some u → (w.alloc (.cells #[a, b, c, d] T)).cell? ((⟨w.heap.size, 0, none⟩ : Addr).add j) = some u := by
  intro j u hu
  have h := HAt.new w #[a, b, c, d] T
  have e : (⟨w.heap.size, 0, none⟩ : Addr).add j = ⟨w.heap.size, j, none⟩ := by
    unfold Addr.add
    split
    · rename_i h0; subst h0; rfl
    · simp
  rw [e]
  exact h.cell hu
theorem spC_zero_succ (n : Nat) : spC (n + 1) (fun _ _ => 0) = spC n (fun _ _ => 0) ++ [.int .i64 0, .int .i64 0, .int .i64 0, .int .i64 0] := by
  unfold spC
  rw [show 4 * (n + 1) = 4 * n + 1 + 1 + 1 + 1 by omega]
  simp [List.range_succ]
theorem spC_len (n : Nat) (S : Nat → Nat → Int) : (spC n S).length = 4 * n := by unfold spC; simp

theorem rowBlock {w : World} {base size k : Nat} {e : TypeId} {v : Value} {xs : List Value} (h : w.ownsRow base e size v k xs) : ∀ j, v.ownBlock = some j → base ≤ j := by
  rcases h.2 with ⟨rfl, _⟩ | ⟨g, cap, cur, rfl, hg, _⟩
  · intro k hk; simp [Value.ownBlock] at hk
  · intro k hk; simp [Value.ownBlock] at hk; omega

set_option maxHeartbeats 2000000 in
theorem rSpots_any (n : Nat) (hn : n ≤ 100) (w : World) : Calls Try.prog 35 #[.int .i64 n] w fun e w' => ∃ v, e = .returned v ∧ w'.ownsRow w.heap.size 30 4 v n (spC n fun _ _ => 0) ∧ Frm [] w w' := by
  obtain ⟨i0, hi, hz0, hz1, hz2⟩ := info_parts spotInfo
  have HIN := Lib.hid (And.intro hi (And.intro hz0 (And.intro hz1 hz2)))
  clear hi hz0 hz1 hz2
  go_enter Try.func35, Try.ntmps35
  go_wp2
  go_loopw [3, 4] (fun out kv wx => ∃ k : Nat, kv = .int .i64 k ∧ k ≤ n ∧ wx.ownsRow w.heap.size 30 4 out k (spC k fun _ _ => 0) ∧ Frm [] w wx) (fun _ kv _ => n - (intOf kv).toNat)
  case atStart => exact ⟨0, rfl, Nat.zero_le _, World.ownsRow_nil _ _ _ _, Frm.refl _ _⟩
  case round =>
    obtain ⟨k, rfl, hk, hO, hF⟩ := hrel
    have HO := Lib.hid hO
    have HF := Lib.hid hF
    have hsz := hF.size
    clear hO hF
    by_cases hlt : k < n
    · have l1 : (k : Int) < n := by omega
      go_wp2_with (at_builtin; go_must (refine wpList_append_own _ rfl _ _ 53 rfl w.heap.size 30 i0 (.agg #[.int .i64 0, .int .i64 0, .int .i64 0, .int .i64 0]) 4 32 Try.underlying53 HIN.out.1 HIN.out.2.1 HIN.out.2.2.1 HIN.out.2.2.2 rfl (by decide) _ _ _ rfl (HO.out.alloc _) ⟨wr.heap.size, 0, none⟩ 1 1 [.int .i64 0, .int .i64 0, .int .i64 0, .int .i64 0] rfl rfl (cell_four_new _ _ _ _ _ _) (by simp [Value.oneCell']) (by unfold maxLen; omega) (by omega) (by rw [World.size_alloc]; omega) ?_; intro out' w1 hown' hgrow _))
      have hb : ∀ j, u3.ownBlock = some j → w.heap.size ≤ j := rowBlock HO.out
      have hF2 : Frm [] w w1 := (HF.out.alloc _).widen (S' := u3.ownBlock.toList) (Frm.of_grown hgrow (fun k hk => .inl (by simpa using hk.symm ▸ rfl))) (fun k hk => .inr (hb k (by simpa using hk)))
      have HO2 := Lib.hid hown'
      have HF2 := Lib.hid hF2
      clear hown' hgrow hF2 hb
      go_roundw
      case rel => exact ⟨k + 1, by go_num, by omega, by rw [spC_zero_succ]; exact HO2.out, HF2.out⟩
      case measure => simp [intOf]; omega
    · have l1 : ¬ (k : Int) < n := by omega
      obtain rfl : k = n := by omega
      go_wp2
      go_ret
      exact ⟨_, rfl, HO.out, HF.out⟩

structure RkAt (w : World) (yb rb g word n cap : Nat) (most : Int) (S : Nat → Nat → Int) : Prop where
  box : HAt w yb [.pointer (some ⟨rb, 0, none⟩), .int .i64 word, .int .i64 most, .slice (some ⟨g, 0, none⟩) n cap] 55
  row : RowP w g (spC n S) 30
  ne : yb ≠ g
  n1 : 1 ≤ n
  n32 : n ≤ 32
  m1 : 1 ≤ most
  m2 : most ≤ 1024
theorem RkAt.frm {w w' : World} {yb rb g word n cap : Nat} {most : Int} {S : Nat → Nat → Int} (h : RkAt w yb rb g word n cap most S) {Z : List Nat} (hf : Frm Z w w') (h1 : yb ∉ Z) (h2 : g ∉ Z) : RkAt w' yb rb g word n cap most S :=
  { h with box := h.box.frm hf h1, row := h.row.frm hf h2 }
theorem RkAt.put {w : World} {yb rb g word n cap : Nat} {most : Int} {S : Nat → Nat → Int} (h : RkAt w yb rb g word n cap most S) (i : Nat) {t : Nat} (ht : t < 4) (v : Int) :
    RkAt (w.setCell ⟨g, 4 * i + t, none⟩ (.int .i64 v)) yb rb g word n cap most (spPut S i t v) := by
  have hr := h.row.set (4 * i + t) (.int .i64 v)
  rw [spC_put n S ht v] at hr
  exact { h with box := h.box.other _ _ h.ne, row := hr }
theorem RkAt.put0 {w : World} {yb rb g word n cap : Nat} {most : Int} {S : Nat → Nat → Int} (h : RkAt w yb rb g word n cap most S) (i : Nat) (v : Int) : RkAt (w.setCell ⟨g, 4 * i, none⟩ (.int .i64 v)) yb rb g word n cap most (spPut S i 0 v) := h.put i (t := 0) (by omega) v
theorem RkAt.pc {w : World} {yb rb g word n cap : Nat} {most : Int} {S : Nat → Nat → Int} (h : RkAt w yb rb g word n cap most S) {j : Nat} (hj : j < n) (t : Nat) (ht : t < 4) : w.cell? ⟨g, 4 * j + t, none⟩ = some (.int .i64 (S j t)) := h.row.cell (spC_get n S hj ht)
theorem RkAt.pc0 {w : World} {yb rb g word n cap : Nat} {most : Int} {S : Nat → Nat → Int} (h : RkAt w yb rb g word n cap most S) {j : Nat} (hj : j < n) : w.cell? ⟨g, 4 * j, none⟩ = some (.int .i64 (S j 0)) := h.row.cell (spC_get n S (t := 0) hj (by omega))

/-- what New tells -/
def tasE (A : AR) (n most : Int) : Int := if n < 1 ∨ 32 < n ∨ most < 1 ∨ 1024 < most then 1 else A.takeE 1

section
variable {w : World} {rb : Nat} {v : Value} {A : AR} {most : Int}
theorem rtNew_ok (hR : RfAt w rb v A) (n : Nat) (hn1 : 1 ≤ n) (hn : n ≤ 32) (hm1 : 1 ≤ most) (hm2 : most ≤ 1024) (ht : A.takeE 1 = 0) (hv0 : ∀ k, v.ownBlock = some k → k < w.heap.size) :
    Calls Try.prog 18 #[.pointer (some ⟨rb, 0, none⟩), .int .i64 n, .int .i64 most] w fun e w' => ∃ yb g cap v', e = .returned (.tuple #[.pointer (some ⟨yb, 0, none⟩), .int .i64 0]) ∧ w.heap.size ≤ yb ∧ w.heap.size ≤ g ∧
      RkAt w' yb rb g (A.taken + 1) n cap most (fun _ _ => 0) ∧ RfAt w' rb v' (A.take 1) ∧ Frm (rb :: vb v) w w' ∧ (∀ k, v'.ownBlock = some k → (v.ownBlock = some k ∨ w.heap.size ≤ k) ∧ k ≠ yb ∧ k ≠ g) := by
  have d1 : decide ((n : Int) < 1) = false := by simp; omega
  have d2 : decide ((32 : Int) < n) = false := by simp; omega
  have d3 : decide (most < 1) = false := by simp; omega
  have d4 : decide (1024 < most) = false := by simp; omega
  have hT := rTake_any hR 1
  have hn' : A.takeN 1 = (A.taken : Int) + 1 := by unfold AR.takeN; rw [if_pos ht]
  rw [ht, hn'] at hT
  have HT := Lib.hid hT
  have hrb := hR.box.lt
  have HV0 := Lib.hid hv0
  clear hR hT hn' ht hv0
  go_enter Try.func18, Try.ntmps18
  go_wp2_with fail
  refine HT.out.mono ?_
  rintro e w1 ⟨rfl, v1, hR1, hF1, hv1⟩
  have hsz := hF1.size
  have HF := Lib.hid hF1
  have HR := Lib.hid hR1
  have HV1 := Lib.hid hv1
  clear hR1 hF1 hv1
  go_wp2_with fail
  refine (rSpots_any n (by omega) _).mono ?_
  rintro e w2 ⟨sv, rfl, hO, hF2⟩
  obtain ⟨g, cap, cur, rfl, hg, hh, hc1, hc2, hc3, hc4⟩ : ∃ g cap cur, sv = .slice (some ⟨g, 0, none⟩) n cap ∧ w1.heap.size ≤ g ∧ w2.heap[g]? = some (.cells cur 30 (0, 0)) ∧ n ≤ cap ∧ cap ≤ maxLen ∧ cur.size = cap * 4 ∧ cur.toList.take (n * 4) = spC n (fun _ _ => 0) := by
    rcases hO.2 with ⟨_, h0⟩ | h
    · omega
    · exact h
  have hRow : RowP w2 g (spC n fun _ _ => 0) 30 := ⟨cur, hh, by rw [spC_len, Nat.mul_comm 4 n]; exact hc4⟩
  have HRow := Lib.hid hRow
  have hg2 := hRow.lt
  have HF2 := Lib.hid hF2
  have hsz2 := hF2.size
  clear hO hF2 hRow hh hc1 hc2 hc3 hc4
  go_wp2
  go_ret2
  have hFb : Frm [] w2 (w2.alloc (.cells #[.pointer (some ⟨rb, 0, none⟩), .int .i64 ((A.taken : Int) + 1), .int .i64 most, .slice (some ⟨g, 0, none⟩) n cap] 55)) := (Frm.refl _ _).alloc _
  have hB := HAt.new w2 #[.pointer (some ⟨rb, 0, none⟩), .int .i64 ((A.taken : Int) + 1), .int .i64 most, .slice (some ⟨g, 0, none⟩) n cap] 55
  refine ⟨w2.heap.size, g, cap, v1, rfl, by omega, by omega, ?_, ?_, ?_, fun k hk => ⟨HV1.out k hk, ?_⟩⟩
  · exact { box := by simpa using hB, row := HRow.out.frm hFb (by simp), ne := by omega, n1 := hn1, n32 := hn, m1 := hm1, m2 := hm2 }
  · exact (HR.out.frm HF2.out (by simp)).frm hFb (by simp)
  · exact (HF.out.trans (HF2.out.mono (by simp))).alloc _
  · have hk2 : k < w1.heap.size := by
      rcases HR.out.row.2 with ⟨h0, _⟩ | ⟨g', cap', cur', h0, hg', hh', _⟩
      · rw [h0] at hk; simp [Value.ownBlock] at hk
      · rw [h0] at hk
        obtain rfl : g' = k := by simpa [Value.ownBlock] using hk
        exact (Array.getElem?_eq_some_iff.1 hh').1
    omega
theorem rtNew_bad (hR : RfAt w rb v A) (n : Int) (hE : tasE A n most ≠ 0) :
    Calls Try.prog 18 #[.pointer (some ⟨rb, 0, none⟩), .int .i64 n, .int .i64 most] w fun e w' => e = .returned (.tuple #[.pointer none, .int .i64 (tasE A n most)]) ∧ Frm (rb :: vb v) w w' := by
  have key : ∀ (_ : tasE A n most = 1) (_ : n < 1 ∨ 32 < n ∨ most < 1 ∨ 1024 < most), Calls Try.prog 18 #[.pointer (some ⟨rb, 0, none⟩), .int .i64 n, .int .i64 most] w fun e w' => e = .returned (.tuple #[.pointer none, .int .i64 1]) ∧ Frm (rb :: vb v) w w' := by
    intro _ hbad
    clear hE hR
    by_cases a1 : n < 1
    · have d1 : decide (n < 1) = true := by simpa using a1
      clear hbad
      go_enter Try.func18, Try.ntmps18
      go_wp2
      go_ret2
      exact ⟨rfl, Frm.refl _ _⟩
    have d1 : decide (n < 1) = false := by simpa using a1
    by_cases a2 : 32 < n
    · have d2 : decide (32 < n) = true := by simpa using a2
      clear hbad
      go_enter Try.func18, Try.ntmps18
      go_wp2
      go_ret2
      exact ⟨rfl, Frm.refl _ _⟩
    have d2 : decide (32 < n) = false := by simpa using a2
    by_cases a3 : most < 1
    · have d3 : decide (most < 1) = true := by simpa using a3
      clear hbad
      go_enter Try.func18, Try.ntmps18
      go_wp2
      go_ret2
      exact ⟨rfl, Frm.refl _ _⟩
    have d3 : decide (most < 1) = false := by simpa using a3
    have d4 : decide (1024 < most) = true := by simp; omega
    clear hbad
    go_enter Try.func18, Try.ntmps18
    go_wp2
    go_ret2
    exact ⟨rfl, Frm.refl _ _⟩
  by_cases hbad : n < 1 ∨ 32 < n ∨ most < 1 ∨ 1024 < most
  · have h1 : tasE A n most = 1 := by unfold tasE; rw [if_pos hbad]
    rw [h1]
    exact key h1 hbad
  · have h1 : tasE A n most = A.takeE 1 := by unfold tasE; rw [if_neg hbad]
    rw [h1] at hE ⊢
    have HT := Lib.hid (rTake_no hR 1 hE)
    have d1 : decide (n < 1) = false := by simp; omega
    have d2 : decide (32 < n) = false := by simp; omega
    have d3 : decide (most < 1) = false := by simp; omega
    have d4 : decide (1024 < most) = false := by simp; omega
    have d5 : (A.takeE 1 != 0) = true := by simpa using hE
    clear hbad h1 key hE hR
    generalize A.takeE 1 = E at *
    go_enter Try.func18, Try.ntmps18
    go_wp2_with fail
    refine HT.out.mono ?_
    rintro e w1 ⟨rfl, hF, -⟩
    have HF := Lib.hid hF
    clear hF
    go_wp2
    go_ret2
    exact ⟨rfl, HF.out.mono (by simp)⟩
theorem lNew_bad {ab wb : Nat} (hA : ArAt w ab wb A) (n : Int) (hE : tasE A n most ≠ 0) :
    Calls Try.prog 9 #[.pointer (some ⟨ab, 0, none⟩), .int .i64 n, .int .i64 most] w fun e w' => e = .returned (.tuple #[.pointer none, .int .i64 (tasE A n most)]) ∧ Frm [ab, wb] w w' := by
  by_cases hbad : n < 1 ∨ 32 < n ∨ most < 1 ∨ 1024 < most
  · have h1 : tasE A n most = 1 := by unfold tasE; rw [if_pos hbad]
    rw [h1]
    clear hE hA h1
    by_cases a1 : n < 1
    · have d1 : decide (n < 1) = true := by simpa using a1
      clear hbad
      go_enter Try.func9, Try.ntmps9
      go_wp2
      go_ret2
      exact ⟨rfl, Frm.refl _ _⟩
    have d1 : decide (n < 1) = false := by simpa using a1
    by_cases a2 : 32 < n
    · have d2 : decide (32 < n) = true := by simpa using a2
      clear hbad
      go_enter Try.func9, Try.ntmps9
      go_wp2
      go_ret2
      exact ⟨rfl, Frm.refl _ _⟩
    have d2 : decide (32 < n) = false := by simpa using a2
    by_cases a3 : most < 1
    · have d3 : decide (most < 1) = true := by simpa using a3
      clear hbad
      go_enter Try.func9, Try.ntmps9
      go_wp2
      go_ret2
      exact ⟨rfl, Frm.refl _ _⟩
    have d3 : decide (most < 1) = false := by simpa using a3
    have d4 : decide (1024 < most) = true := by simp; omega
    clear hbad
    go_enter Try.func9, Try.ntmps9
    go_wp2
    go_ret2
    exact ⟨rfl, Frm.refl _ _⟩
  · have h1 : tasE A n most = A.takeE 1 := by unfold tasE; rw [if_neg hbad]
    rw [h1] at hE ⊢
    have hn : A.takeN 1 = 0 := by unfold AR.takeN; rw [if_neg hE]
    have hT := Take_any hA 1
    rw [hn] at hT
    have HT := Lib.hid hT
    have d1 : decide (n < 1) = false := by simp; omega
    have d2 : decide (32 < n) = false := by simp; omega
    have d3 : decide (most < 1) = false := by simp; omega
    have d4 : decide (1024 < most) = false := by simp; omega
    have d5 : (A.takeE 1 != 0) = true := by simpa using hE
    clear hbad h1 hE hA hT hn
    generalize A.takeE 1 = E at *
    go_enter Try.func9, Try.ntmps9
    go_wp2_with fail
    refine HT.out.mono ?_
    rintro e w1 ⟨rfl, -, hF⟩
    have HF := Lib.hid hF
    clear hF
    go_wp2
    go_ret2
    exact ⟨rfl, HF.out⟩
end
end Go.Proofs.Ytmfeaancnkadbaa
