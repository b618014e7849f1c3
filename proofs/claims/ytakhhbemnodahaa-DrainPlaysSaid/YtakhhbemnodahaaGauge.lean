/- The contracts of package gauge. -/
import Derived.Test.YtakhhbemnodahaaArenaTake
import Derived.Test.YtakhhbemnodahaaArenaLoad
import Derived.Test.YtakhhbemnodahaaArenaAdd
namespace Go.Proofs.Ytakhhbemnodahaa
open Go.RowKit

/-- is there a node of that number? -/
def gHas (nodes : Nat) (k : Int) : Bool := decide (0 ≤ k ∧ k < (nodes : Int))
/-- a node's word; 0: there is none -/
def gWord (first nodes : Nat) (k : Int) : Int := if gHas nodes k then (first : Int) + 2 * k else 0
/-- the arena when one more comes in (which = 0), or goes out (1), at a node -/
def AR.gAdd (A : AR) (first nodes : Nat) (k which : Int) : AR := if gHas nodes k then A.add ((first : Int) + 2 * k + which) 1 else A
/-- what is told of a node's word, and the arena then -/
def AR.gGet (A : AR) (first nodes : Nat) (k which : Int) : Int := if gHas nodes k then A.get ((first : Int) + 2 * k + which) else 0
def AR.gLoad (A : AR) (first nodes : Nat) (k which : Int) : AR := if gHas nodes k then A.load ((first : Int) + 2 * k + which) else A

structure GgAt (w : World) (gb ab : Nat) (first nodes : Nat) : Prop where
  box : HAt w gb [.pointer (some ⟨ab, 0, none⟩), .int .i64 first, .int .i64 nodes] 55
  first1 : 1 ≤ first
  first2 : first ≤ 5000
  nodes2 : nodes ≤ 32
theorem GgAt.frm {w w' : World} {gb ab first nodes : Nat} (h : GgAt w gb ab first nodes) {S : List Nat} (hf : Frm S w w') (h1 : gb ∉ S) : GgAt w' gb ab first nodes :=
  { h with box := h.box.frm hf h1 }

/-- no gauge, or one without nodes -/
def GNone (w : World) (p : Option Addr) : Prop := p = none ∨ ∃ gb, p = some ⟨gb, 0, none⟩ ∧ HAt w gb [.pointer none, .int .i64 0, .int .i64 0] 55

theorem gNodes_nil (w : World) : Calls Try.prog 30 #[.pointer none] w fun e w' => e = .returned (.int .i64 0) ∧ w = w' := by
  go_enter Try.func30, Try.ntmps30
  go_wp2
  go_ret
  exact ⟨rfl, rfl⟩
theorem gNodes_none {w : World} {p : Option Addr} (h : GNone w p) : Calls Try.prog 30 #[.pointer p] w fun e w' => e = .returned (.int .i64 0) ∧ w = w' := by
  rcases h with rfl | ⟨gb, rfl, hb⟩
  · exact gNodes_nil w
  · have c2 := hb.cell (i := 2) rfl
    clear hb
    go_enter Try.func30, Try.ntmps30
    go_wp2
    go_ret
    exact ⟨rfl, rfl⟩
theorem gNodes_any {w : World} {gb ab first nodes : Nat} (h : GgAt w gb ab first nodes) : Calls Try.prog 30 #[.pointer (some ⟨gb, 0, none⟩)] w fun e w' => e = .returned (.int .i64 nodes) ∧ w = w' := by
  have c2 := h.box.cell (i := 2) rfl
  clear h
  go_enter Try.func30, Try.ntmps30
  go_wp2
  go_ret
  exact ⟨rfl, rfl⟩

theorem gWord_any {w : World} {gb ab first nodes : Nat} (h : GgAt w gb ab first nodes) (k : Int) : Calls Try.prog 28 #[.pointer (some ⟨gb, 0, none⟩), .int .i64 k] w fun e w' => e = .returned (.int .i64 (gWord first nodes k)) ∧ w = w' := by
  have c1 := h.box.cell (i := 1) rfl
  have h1 := h.first1
  have h2 := h.first2
  have h3 := h.nodes2
  have HN := Lib.hid (gNodes_any h)
  clear h
  by_cases hneg : k < 0
  · have hr : gWord first nodes k = 0 := by unfold gWord gHas; rw [if_neg (by simp; omega)]
    rw [hr]
    clear hr
    go_enter Try.func28, Try.ntmps28
    go_wp2
    go_ret
    exact ⟨rfl, rfl⟩
  · have d1 : decide (k < 0) = false := by simp; omega
    by_cases hge : (nodes : Int) ≤ k
    · have hr : gWord first nodes k = 0 := by unfold gWord gHas; rw [if_neg (by simp; omega)]
      rw [hr]
      have d2 : decide ((nodes : Int) ≤ k) = true := by simpa using hge
      clear hr
      go_enter Try.func28, Try.ntmps28
      go_wp2_with fail
      refine HN.out.mono ?_
      rintro e w' ⟨rfl, rfl⟩
      go_wp2
      go_ret
      exact ⟨rfl, rfl⟩
    · have hr : gWord first nodes k = (first : Int) + 2 * k := by unfold gWord gHas; rw [if_pos (by simp; omega)]
      rw [hr]
      have d2 : decide ((nodes : Int) ≤ k) = false := by simp; omega
      have hk1 : 0 ≤ k := by omega
      have hk2 : k ≤ 40 := by omega
      clear hr
      go_enter Try.func28, Try.ntmps28
      go_wp2_with fail
      refine HN.out.mono ?_
      rintro e w' ⟨rfl, rfl⟩
      go_wp2
      go_ret
      exact ⟨rfl, rfl⟩
theorem gWord_none {w : World} {p : Option Addr} (h : GNone w p) (k : Int) : Calls Try.prog 28 #[.pointer p, .int .i64 k] w fun e w' => e = .returned (.int .i64 0) ∧ w = w' := by
  have HN := Lib.hid (gNodes_none h)
  clear h
  by_cases hneg : k < 0
  · go_enter Try.func28, Try.ntmps28
    go_wp2
    go_ret
    exact ⟨rfl, rfl⟩
  · have d1 : decide (k < 0) = false := by simp; omega
    go_enter Try.func28, Try.ntmps28
    go_wp2_with fail
    refine HN.out.mono ?_
    rintro e w' ⟨rfl, rfl⟩
    go_wp2
    go_ret
    exact ⟨rfl, rfl⟩

theorem gadd_any {w : World} {gb ab wb first nodes : Nat} {A : AR} (h : GgAt w gb ab first nodes) (hA : ArAt w ab wb A) (k which : Int) (hw : which = 0 ∨ which = 1) :
    Calls Try.prog 56 #[.pointer (some ⟨gb, 0, none⟩), .int .i64 k, .int .i64 which] w fun e w' => e = .returned (.tuple #[]) ∧ ArAt w' ab wb (A.gAdd first nodes k which) ∧ Frm [ab, wb] w w' := by
  have c0 := h.box.cell (i := 0) rfl
  have h1 := h.first1
  have h2 := h.first2
  have h3 := h.nodes2
  have HW := Lib.hid (gWord_any h k)
  cases hk : gHas nodes k with
  | true =>
    have hk' : 0 ≤ k ∧ k < (nodes : Int) := by unfold gHas at hk; simpa using hk
    obtain ⟨k1, k2⟩ := hk'
    have hr : gWord first nodes k = (first : Int) + 2 * k := by unfold gWord; rw [hk]; rfl
    have hg : A.gAdd first nodes k which = A.add ((first : Int) + 2 * k + which) 1 := by unfold AR.gAdd; rw [hk]; rfl
    rw [hg]
    rw [hr] at HW
    have HAdd := Lib.hid (Add_any hA ((first : Int) + 2 * k + which) 1)
    clear h hA hk hr hg
    have w1 : 0 ≤ which := by omega
    have w2 : which ≤ 1 := by omega
    clear hw
    go_enter Try.func56, Try.ntmps56
    go_wp2_with fail
    refine HW.out.mono ?_
    rintro e w' ⟨rfl, rfl⟩
    go_wp2_with fail
    refine HAdd.out.mono ?_
    rintro e w' ⟨rfl, hA', hF⟩
    have HA := Lib.hid hA'
    have HF := Lib.hid hF
    clear hA' hF
    go_wp2
    go_end0
    exact ⟨rfl, HA.out, HF.out⟩
  | false =>
    have hr : gWord first nodes k = 0 := by unfold gWord; rw [hk]; rfl
    have hg : A.gAdd first nodes k which = A := by unfold AR.gAdd; rw [hk]; rfl
    rw [hg]
    rw [hr] at HW
    have HA := Lib.hid hA
    clear h hA hk hr hg hw
    go_enter Try.func56, Try.ntmps56
    go_wp2_with fail
    refine HW.out.mono ?_
    rintro e w' ⟨rfl, rfl⟩
    go_wp2
    go_end0
    exact ⟨rfl, HA.out, Frm.refl _ _⟩
theorem gadd_none {w : World} {p : Option Addr} (h : GNone w p) (k which : Int) : Calls Try.prog 56 #[.pointer p, .int .i64 k, .int .i64 which] w fun e w' => e = .returned (.tuple #[]) ∧ w = w' := by
  have HN := Lib.hid (gWord_none h k)
  clear h
  go_enter Try.func56, Try.ntmps56
  go_wp2_with fail
  refine HN.out.mono ?_
  rintro e w' ⟨rfl, rfl⟩
  go_wp2
  go_end0
  exact ⟨rfl, rfl⟩

theorem gload_any {w : World} {gb ab wb first nodes : Nat} {A : AR} (h : GgAt w gb ab first nodes) (hA : ArAt w ab wb A) (k which : Int) (hw : which = 0 ∨ which = 1) :
    Calls Try.prog 54 #[.pointer (some ⟨gb, 0, none⟩), .int .i64 k, .int .i64 which] w fun e w' => e = .returned (.int .i64 (A.gGet first nodes k which)) ∧ ArAt w' ab wb (A.gLoad first nodes k which) ∧ Frm [ab, wb] w w' := by
  have c0 := h.box.cell (i := 0) rfl
  have h1 := h.first1
  have h2 := h.first2
  have h3 := h.nodes2
  have HW := Lib.hid (gWord_any h k)
  cases hk : gHas nodes k with
  | true =>
    have hk' : 0 ≤ k ∧ k < (nodes : Int) := by unfold gHas at hk; simpa using hk
    obtain ⟨k1, k2⟩ := hk'
    have hr : gWord first nodes k = (first : Int) + 2 * k := by unfold gWord; rw [hk]; rfl
    have hg : A.gLoad first nodes k which = A.load ((first : Int) + 2 * k + which) := by unfold AR.gLoad; rw [hk]; rfl
    have hg' : A.gGet first nodes k which = A.get ((first : Int) + 2 * k + which) := by unfold AR.gGet; rw [hk]; rfl
    rw [hg, hg']
    rw [hr] at HW
    have HL := Lib.hid (Load_any hA ((first : Int) + 2 * k + which))
    have d0 : ((first : Int) + 2 * k == 0) = false := by simp; omega
    clear h hA hk hr hg hg'
    have w1 : 0 ≤ which := by omega
    have w2 : which ≤ 1 := by omega
    clear hw
    go_enter Try.func54, Try.ntmps54
    go_wp2_with fail
    refine HW.out.mono ?_
    rintro e w' ⟨rfl, rfl⟩
    go_wp2_with fail
    refine HL.out.mono ?_
    rintro e w' ⟨rfl, hA', hF⟩
    have HA := Lib.hid hA'
    have HF := Lib.hid hF
    clear hA' hF
    go_wp2
    go_ret
    exact ⟨rfl, HA.out, HF.out⟩
  | false =>
    have hr : gWord first nodes k = 0 := by unfold gWord; rw [hk]; rfl
    have hg : A.gLoad first nodes k which = A := by unfold AR.gLoad; rw [hk]; rfl
    have hg' : A.gGet first nodes k which = 0 := by unfold AR.gGet; rw [hk]; rfl
    rw [hg, hg']
    rw [hr] at HW
    have HA := Lib.hid hA
    clear h hA hk hr hg hg' hw
    go_enter Try.func54, Try.ntmps54
    go_wp2_with fail
    refine HW.out.mono ?_
    rintro e w' ⟨rfl, rfl⟩
    go_wp2
    go_ret
    exact ⟨rfl, HA.out, Frm.refl _ _⟩
theorem gload_none {w : World} {p : Option Addr} (h : GNone w p) (k which : Int) : Calls Try.prog 54 #[.pointer p, .int .i64 k, .int .i64 which] w fun e w' => e = .returned (.int .i64 0) ∧ w = w' := by
  have HN := Lib.hid (gWord_none h k)
  clear h
  go_enter Try.func54, Try.ntmps54
  go_wp2_with fail
  refine HN.out.mono ?_
  rintro e w' ⟨rfl, rfl⟩
  go_wp2
  go_ret
  exact ⟨rfl, rfl⟩

/-- what New comes to: the error; 0: there is a gauge -/
def AR.gNewE (A : AR) (nodes : Int) : Int := if nodes < 1 ∨ 32 < nodes then 1 else A.takeE (2 * nodes)

theorem gNew_bad {w : World} {ab wb : Nat} {A : AR} (h : ArAt w ab wb A) (nodes : Int) (he : A.gNewE nodes ≠ 0) :
    Calls Try.prog 15 #[.pointer (some ⟨ab, 0, none⟩), .int .i64 nodes] w fun e w' => e = .returned (.tuple #[.pointer none, .int .i64 (A.gNewE nodes)]) ∧ ArAt w' ab wb A ∧ Frm [ab, wb] w w' := by
  have H := Lib.hid h
  by_cases h1 : nodes < 1
  · have hr : A.gNewE nodes = 1 := by unfold AR.gNewE; rw [if_pos (.inl h1)]
    rw [hr]
    clear h he hr
    go_enter Try.func15, Try.ntmps15
    go_wp2
    go_ret2
    exact ⟨rfl, H.out, Frm.refl _ _⟩
  · by_cases h2 : 32 < nodes
    · have hr : A.gNewE nodes = 1 := by unfold AR.gNewE; rw [if_pos (.inr h2)]
      rw [hr]
      have d1 : decide (nodes < 1) = false := by simp; omega
      have d2 : decide (32 < nodes) = true := by simp; omega
      clear h he hr h1 h2
      go_enter Try.func15, Try.ntmps15
      go_wp2
      go_ret2
      exact ⟨rfl, H.out, Frm.refl _ _⟩
    · have hr : A.gNewE nodes = A.takeE (2 * nodes) := by unfold AR.gNewE; rw [if_neg (by omega)]
      rw [hr] at he ⊢
      have hT := Take_any h (2 * nodes)
      have ht : A.take (2 * nodes) = A := by unfold AR.take; rw [if_neg he]
      rw [ht] at hT
      have HT := Lib.hid hT
      have d1 : decide (nodes < 1) = false := by simp; omega
      have d2 : decide (32 < nodes) = false := by simp; omega
      have d3 : (A.takeE (2 * nodes) == 0) = false := by simpa using he
      have d4 : (A.takeE (2 * nodes) != 0) = true := by simpa using he
      clear h he hr hT ht
      go_enter Try.func15, Try.ntmps15
      go_wp2_with fail
      refine HT.out.mono ?_
      rintro e w' ⟨rfl, hA', hF⟩
      have HF := Lib.hid hF
      have HA := Lib.hid hA'
      clear hA' hF
      go_wp2
      go_ret2
      exact ⟨rfl, HA.out, HF.out⟩

theorem gNew_ok {w : World} {ab wb : Nat} {A : AR} (h : ArAt w ab wb A) (nodes : Int) (he : A.gNewE nodes = 0) :
    Calls Try.prog 15 #[.pointer (some ⟨ab, 0, none⟩), .int .i64 nodes] w fun e w' => ∃ gb, e = .returned (.tuple #[.pointer (some ⟨gb, 0, none⟩), .int .i64 0]) ∧ w.heap.size ≤ gb ∧
      GgAt w' gb ab (A.taken + 1) nodes.toNat ∧ ArAt w' ab wb (A.take (2 * nodes)) ∧ Frm [ab, wb] w w' := by
  have h12 : ¬ (nodes < 1 ∨ 32 < nodes) := by intro hc; unfold AR.gNewE at he; rw [if_pos hc] at he; omega
  have hr : A.takeE (2 * nodes) = 0 := by unfold AR.gNewE at he; rwa [if_neg h12] at he
  have h1 : ¬ nodes < 1 := by omega
  have h2 : ¬ 32 < nodes := by omega
  have d1 : decide (nodes < 1) = false := by simp; omega
  have d2 : decide (32 < nodes) = false := by simp; omega
  have hn : A.takeN (2 * nodes) = (A.taken : Int) + 1 := by unfold AR.takeN; rw [if_pos hr]
  have hT := Take_any h (2 * nodes)
  rw [hr, hn] at hT
  have HT := Lib.hid hT
  have hle := h.le
  have hroom := h.room
  have hab := h.box.lt
  have hwb := h.row.lt
  clear h he hr hT hn h12
  go_enter Try.func15, Try.ntmps15
  go_wp2_with fail
  refine HT.out.mono ?_
  rintro e w1 ⟨rfl, hA', hF⟩
  have hsz := hF.size
  have HF := Lib.hid hF
  have HA := Lib.hid hA'
  clear hA' hF
  go_wp2
  go_ret2
  refine ⟨w1.heap.size, rfl, hsz, ?_, ?_, HF.out.alloc _⟩
  · have hnew := HAt.new w1 #[.pointer (some ⟨ab, 0, none⟩), .int .i64 ((A.taken : Int) + 1), .int .i64 nodes] 55
    refine { box := ?_, first1 := by omega, first2 := by omega, nodes2 := by omega }
    have e1 : ((nodes.toNat : Nat) : Int) = nodes := by omega
    rw [e1]
    simpa using hnew
  · exact { HA.out with box := HA.out.box.alloc _, row := HA.out.row.alloc _ }

end Go.Proofs.Ytakhhbemnodahaa
