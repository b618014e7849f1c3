/- The contracts of package ring at int: a ring reads as a list of integers. -/
import Derived.Test.YteapniipkpijkaaProg
import Derived.Test.YteapniipkpijkaaFrame
import Derived.Test.YteapniipkpijkaaHeap
import Derived.Test.YteapniipkpijkaaOwn
import Derived.WalkKit
import Derived.WalkSpells
import Derived.Deep.QuietTactic
import Derived.BigQuiet
import Derived.Deep.RegionWith
import Derived.IntWalk
import Derived.Lib.Hide
namespace Go.Proofs.Yteapniipkpijkaa
open Go.RowKit

theorem place_any (w : World) (b lb f n m i : Nat) (h : HAt w b [.slice (some ⟨lb, 0, none⟩) n n, .int .i64 f, .int .i64 m] 36) (hn : 0 < n) (hn2 : n ≤ 1000) (hf : f ≤ 1000) (hi : i ≤ 1000) :
    Calls Try.prog 40 #[.pointer (some ⟨b, 0, none⟩), .int .i64 i] w fun e w' => e = .returned (.int .i64 ((f + i) % n : Nat)) ∧ ∃ k, w' = w.drewN k := by
  have c0 := h.cell (i := 0) rfl
  have c1 := h.cell (i := 1) rfl
  have s1 : IntKind.i64.wrap ((f : Int) + i) = (f : Int) + i := IntWalk.i64_in _ (by omega)
  have s2 : ((f : Int) + i).tmod n = (((f + i) % n : Nat) : Int) := by rw [Int.tmod_eq_emod_of_nonneg (by omega)]; simp
  have s3 : IntKind.i64.wrap (((f + i) % n : Nat) : Int) = (((f + i) % n : Nat) : Int) := IntWalk.i64_in _ (by have := Nat.mod_lt (f + i) hn; omega)
  have s4 : ((n : Int) == 0) = false := by simp; omega
  clear h
  go_enter Try.func40, Try.ntmps40
  go_wp2
  go_quiet (fail)
  go_wp2
  go_ret
  exact ⟨ret_int (by simp), _, rfl⟩

/-- where a ring's list lies -/
def rlist (lb : Nat) (n : Nat) : Value := if n = 0 then .slice none 0 0 else .slice (some ⟨lb, 0, none⟩) n n
theorem rlist_pos {lb n : Nat} (h : 0 < n) : rlist lb n = .slice (some ⟨lb, 0, none⟩) n n := by unfold rlist; rw [if_neg (by omega)]
theorem rlist_zero (lb : Nat) : rlist lb 0 = .slice none 0 0 := rfl

/-- a ring in block b, its list in block lb, reads as xs -/
structure RingAt (w : World) (b lb : Nat) (cs : List Int) (f : Nat) (xs : List Int) : Prop where
  box : HAt w b [rlist lb cs.length, .int .i64 f, .int .i64 xs.length] 36
  row : 0 < cs.length → HAt w lb (cs.map (Value.int .i64)) 3
  ne : lb ≠ b
  big : cs.length ≤ 300
  first : f < cs.length ∨ (cs.length = 0 ∧ f = 0)
  many : xs.length ≤ cs.length
  at_ : ∀ i (h : i < xs.length), cs[(f + i) % cs.length]? = some xs[i]

theorem Len_nil (w : World) : Calls Try.prog 27 #[.pointer none] w fun e w' => e = .returned (.int .i64 0) ∧ w = w' := by
  go_enter Try.func27, Try.ntmps27
  go_wp2
  go_ret
  exact ⟨rfl, rfl⟩
theorem Len_any {w : World} {b lb f : Nat} {cs xs : List Int} (h : RingAt w b lb cs f xs) : Calls Try.prog 27 #[.pointer (some ⟨b, 0, none⟩)] w fun e w' => e = .returned (.int .i64 xs.length) ∧ w = w' := by
  have c2 := h.box.cell (i := 2) rfl
  clear h
  go_enter Try.func27, Try.ntmps27
  go_wp2
  go_ret
  exact ⟨rfl, rfl⟩

theorem At_nil (i : Int) (w : World) : Calls Try.prog 25 #[.pointer none, .int .i64 i] w fun e w' => e = .returned (.tuple #[.int .i64 0, .bool false]) ∧ w = w' := by
  by_cases hi : i < 0
  · go_enter Try.func25, Try.ntmps25
    go_wp2
    go_ret2
    exact ⟨rfl, rfl⟩
  · go_enter Try.func25, Try.ntmps25
    go_wp2_with fail
    refine (Len_nil _).mono ?_
    rintro e w' ⟨rfl, rfl⟩
    go_wp2
    go_ret2
    exact ⟨rfl, rfl⟩
theorem At_no {w : World} {b lb f : Nat} {cs xs : List Int} (i : Int) (h : RingAt w b lb cs f xs) (hi : i < 0 ∨ (xs.length : Int) ≤ i) :
    Calls Try.prog 25 #[.pointer (some ⟨b, 0, none⟩), .int .i64 i] w fun e w' => e = .returned (.tuple #[.int .i64 0, .bool false]) ∧ w = w' := by
  by_cases hn : i < 0
  · clear hi h
    go_enter Try.func25, Try.ntmps25
    go_wp2
    go_ret2
    exact ⟨rfl, rfl⟩
  · have hge : (xs.length : Int) ≤ i := by omega
    clear hi
    have H := Lib.hid h
    clear h
    go_enter Try.func25, Try.ntmps25
    go_wp2_with fail
    refine (Len_any H.out).mono ?_
    rintro e w' ⟨rfl, rfl⟩
    go_wp2
    go_ret2
    exact ⟨rfl, rfl⟩
theorem At_yes {w : World} {b lb f : Nat} {cs xs : List Int} (i : Nat) (h : RingAt w b lb cs f xs) (hi : i < xs.length) :
    Calls Try.prog 25 #[.pointer (some ⟨b, 0, none⟩), .int .i64 i] w fun e w' => e = .returned (.tuple #[.int .i64 (xs[i]?.getD 0), .bool true]) ∧ ∃ k, w' = w.drewN k := by
  have h1 := h.big
  have h2 := h.many
  have h3 := h.first
  have hpos : 0 < cs.length := by omega
  have hb := h.box
  rw [rlist_pos hpos] at hb
  have c0 := hb.cell (i := 0) rfl
  have hm : (f + i) % cs.length < cs.length := Nat.mod_lt _ hpos
  have hx : xs[i]?.getD 0 = xs[i] := by simp [hi]
  have cx : w.cell? ⟨lb, (f + i) % cs.length, none⟩ = some (.int .i64 (xs[i]?.getD 0)) := by
    refine (h.row hpos).cell ?_
    rw [List.getElem?_map, h.at_ i hi, hx]
    rfl
  have l1 : ((((f + i) % cs.length : Nat)) : Int) < cs.length := by omega
  have hc : ∀ W : World, HAt W b [.slice (some ⟨lb, 0, none⟩) cs.length cs.length, .int .i64 f, .int .i64 xs.length] 36 →
    Calls Try.prog 40 #[.pointer (some ⟨b, 0, none⟩), .int .i64 i] W fun e w' => e = .returned (.int .i64 ((f + i) % cs.length : Nat)) ∧ ∃ k, w' = W.drewN k :=
    fun W hW => place_any W b lb f cs.length xs.length i hW hpos (by omega) (by omega) (by omega)
  have HC := Lib.hid hc
  have HB := Lib.hid hb
  have HL := Lib.hid (Len_any h)
  clear hc hb h hx h1 h2 h3
  generalize (f + i) % cs.length = q at *
  generalize xs[i]?.getD 0 = x at *
  go_enter Try.func25, Try.ntmps25
  go_wp2_with fail
  refine HL.out.mono ?_
  rintro e w' ⟨rfl, rfl⟩
  go_wp2_with fail
  go_quiet ((go_at_call 40; exact Calls.quiet_of (HC.out _ (HB.out.drew _))))
  go_wp2
  go_ret2
  exact ⟨rfl, _, rfl⟩

theorem mod2 {a n : Nat} (h : a < 2 * n) : a % n = if a < n then a else a - n := by
  split
  · exact Nat.mod_eq_of_lt ‹_›
  · rw [Nat.mod_eq_sub_mod (by omega), Nat.mod_eq_of_lt (by omega)]

/-- the list behind a push where there is room -/
theorem push_at {cs xs : List Int} {f : Nat} (x : Int) (hf : f < cs.length) (hm : xs.length < cs.length) (h : ∀ i (h : i < xs.length), cs[(f + i) % cs.length]? = some xs[i]) :
    ∀ i (_ : i < (xs ++ [x]).length), (cs.set ((f + xs.length) % cs.length) x)[(f + i) % (cs.set ((f + xs.length) % cs.length) x).length]? = some (xs ++ [x])[i] := by
  intro i hi
  rw [List.length_set]
  have hn : 0 < cs.length := by omega
  by_cases e : i = xs.length
  · subst e
    have : (f + xs.length) % cs.length < cs.length := Nat.mod_lt _ hn
    simp [this]
  · have hi' : i < xs.length := by simp at hi; omega
    have hne : (f + xs.length) % cs.length ≠ (f + i) % cs.length := by
      intro he
      rw [mod2 (by omega), mod2 (by omega)] at he
      split at he <;> split at he <;> omega
    rw [List.getElem?_set_ne hne, h i hi', List.getElem_append_left hi']

theorem Push_room {w : World} {b lb f : Nat} {cs xs : List Int} (x : Int) (h : RingAt w b lb cs f xs) (hm : xs.length < cs.length) :
    Calls Try.prog 21 #[.pointer (some ⟨b, 0, none⟩), .int .i64 x] w fun e w' => e = .returned (.tuple #[]) ∧
      RingAt w' b lb (cs.set ((f + xs.length) % cs.length) x) f (xs ++ [x]) ∧ Frm [b, lb] w w' := by
  have h1 := h.big
  have h2 := h.many
  have h3 := h.first
  have hpos : 0 < cs.length := by omega
  have hb := h.box
  rw [rlist_pos hpos] at hb
  have c0 := hb.cell (i := 0) rfl
  have c2 := hb.cell (i := 2) rfl
  have z0 := hb.frozen 2
  have hq : (f + xs.length) % cs.length < cs.length := Nat.mod_lt _ hpos
  have l1 : ((((f + xs.length) % cs.length : Nat)) : Int) < cs.length := by omega
  have hr := h.row hpos
  obtain ⟨y, cx⟩ : ∃ y, w.cell? ⟨lb, (f + xs.length) % cs.length, none⟩ = some y := by
    obtain ⟨y, hy⟩ : ∃ y, cs[(f + xs.length) % cs.length]? = some y := ⟨_, List.getElem?_eq_getElem hq⟩
    exact ⟨_, hr.cell (by rw [List.getElem?_map, hy]; rfl)⟩
  have z1 := hr.frozen ((f + xs.length) % cs.length)
  have hc : ∀ W : World, HAt W b [.slice (some ⟨lb, 0, none⟩) cs.length cs.length, .int .i64 f, .int .i64 xs.length] 36 →
    Calls Try.prog 40 #[.pointer (some ⟨b, 0, none⟩), .int .i64 xs.length] W fun e w' => e = .returned (.int .i64 ((f + xs.length) % cs.length : Nat)) ∧ ∃ k, w' = W.drewN k :=
    fun W hW => place_any W b lb f cs.length xs.length xs.length hW hpos (by omega) (by omega) (by omega)
  have hfin : ∀ W : World, HAt W b [.slice (some ⟨lb, 0, none⟩) cs.length cs.length, .int .i64 f, .int .i64 (xs.length + 1 : Int)] 36 → HAt W lb ((cs.set ((f + xs.length) % cs.length) x).map (Value.int .i64)) 3 →
      RingAt W b lb (cs.set ((f + xs.length) % cs.length) x) f (xs ++ [x]) := fun W a1 a2 =>
    { box := by rw [rlist_pos (by simpa using hpos)]; simpa using a1
      row := fun _ => a2
      ne := h.ne
      big := by simpa using h1
      first := .inl (by simpa using (by omega : f < cs.length))
      many := by simp; omega
      at_ := push_at x (by omega) hm h.at_ }
  have hd : ((xs.length : Int) == (cs.length : Int)) = false := by simp; omega
  have hne := h.ne
  have HC := Lib.hid hc
  have HB := Lib.hid hb
  have HR := Lib.hid hr
  have HF := Lib.hid hfin
  clear hc hb h hr hfin h2 h3
  generalize hqq : (f + xs.length) % cs.length = q at *
  have HQ := Lib.hid hqq
  clear hqq
  go_enter Try.func21, Try.ntmps21
  go_wp2_with fail
  go_quiet (fail)
  go_wp2_with fail
  go_region_with (go_at_call 40; refine (HC.out _ (HB.out.drew _)).mono ?_; rintro e w' ⟨rfl, k, rfl⟩)
  all_goals
    generalize hW : World.setCell _ _ _ = W
    have g1 : HAt W b [.slice (some ⟨lb, 0, none⟩) cs.length cs.length, .int .i64 f, .int .i64 xs.length] 36 := by
      subst hW; exact (HB.out.drew _).other _ _ (Ne.symm hne)
    have g2 : HAt W lb ((cs.set q x).map (Value.int .i64)) 3 := by
      subst hW; rw [List.map_set]; exact (HR.out.drew _).set _ _
    have g3 : Frm [b, lb] w W := by subst hW; exact ((Frm.refl _ _).drew _).set _ _ (.inl (by simp))
    have e2 := g1.cell (i := 2) rfl
    have z2 := g1.frozen 2
    have G1 := Lib.hid g1
    have G2 := Lib.hid g2
    clear hW g1 g2 HC HB HR c0 c2 z0 cx z1
    go_wp2
    go_end0
    exact ⟨rfl, HF.out _ (G1.out.set 2 _) (G2.out.other _ _ hne), g3.set _ _ (.inl (by simp))⟩

/-- a new row of n zeros -/
def zeros (n : Nat) : Array Value := (List.replicate n (Value.int .i64 0)).toArray
theorem toList_zeros (n : Nat) : (zeros n).toList = (List.replicate n (0 : Int)).map (Value.int .i64) := by simp [zeros]
theorem mkInts (n : Nat) (hn : n ≤ 1000000) (W : World) : (Instr.makeSlice 34 (.int .i64 n) (.int .i64 n)).run Try.prog W = .ok (.slice (some ⟨W.heap.size, 0, none⟩) n n) (W.alloc (.cells (zeros n) 3)) := by
  obtain ⟨i0, hi, hz0, hz1, hz2⟩ := info_parts intInfo
  rw [run_make W 34 3 i0 (.int .i64 0) Try.underlying34 hi hz0 .i64 .i64 n n (by omega) (by omega) (by rw [hz2]; omega) (by omega)]
  have e : madeCells (Value.int .i64 0).cells (((n : Int).toNat) * i0.size) = zeros n := by
    apply Array.ext'
    rw [hz1]
    show (madeCells #[Value.int .i64 0] _).toList = _
    rw [toList_madeCells_one]
    simp [zeros]
  rw [e]
  simp

end Go.Proofs.Yteapniipkpijkaa
