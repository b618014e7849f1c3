/- The contracts of package arena: words that are changed one at a time. -/
import Derived.Test.YtacogelejffbhaaProg
import Derived.Test.YtacogelejffbhaaFrame
import Derived.Test.YtacogelejffbhaaHeap
import Derived.WalkKit
import Derived.WalkSpells
import Derived.Deep.QuietTactic
import Derived.BigQuiet
import Derived.IntWalk
import Derived.Lib.Hide
import Derived.Laws.LoneSync
namespace Go.Proofs.Ytacogelejffbhaa
open Go.RowKit

/-! ### what an arena is -/
/-- an arena's state: its words (all that it has room for), how many are taken, how many ops, and the last op -/
structure AR where
  ws : List Int
  taken : Nat
  ops : Int
  k : Int
  at_ : Int
  wr : Bool

/-- the arena in block ab, its words in block wb -/
structure ArAt (w : World) (ab wb : Nat) (A : AR) : Prop where
  box : HAt w ab [.slice (some ⟨wb, 0, none⟩) A.ws.length A.ws.length, .int .i64 A.taken, .int .i64 A.ops, .int .i64 A.k, .int .i64 A.at_, .bool A.wr] 73
  row : HAt w wb (A.ws.map (Value.int .i64)) 81
  ne : wb ≠ ab
  room : A.ws.length ≤ 4096
  le : A.taken ≤ A.ws.length

theorem ArAt.frm {w w' : World} {ab wb : Nat} {A : AR} (h : ArAt w ab wb A) {S : List Nat} (hf : Frm S w w') (h1 : ab ∉ S) (h2 : wb ∉ S) : ArAt w' ab wb A :=
  { h with box := h.box.frm hf h1, row := h.row.frm hf h2 }

def AR.note (A : AR) (k at_ : Int) (wr : Bool) : AR := { A with ops := wrap64 (A.ops + 1), k := k, at_ := at_, wr := wr }
/-- is there a word of that number? -/
def AR.has (A : AR) (i : Int) : Bool := decide (1 ≤ i ∧ i ≤ (A.taken : Int))
def AR.get (A : AR) (i : Int) : Int := if A.has i then A.ws[(i.toNat - 1)]?.getD 0 else 0
def AR.put (A : AR) (i v : Int) : AR := { A with ws := A.ws.set (i.toNat - 1) v }
def AR.load (A : AR) (i : Int) : AR := if A.has i then A.note 1 i false else A
def AR.store (A : AR) (i v : Int) : AR := if A.has i then (A.note 2 i true).put i v else A
def AR.swap (A : AR) (i v : Int) : AR := if A.has i then (A.note 3 i true).put i v else A
def AR.casOk (A : AR) (i o : Int) : Bool := A.has i && decide (A.get i = o)
def AR.cas (A : AR) (i o v : Int) : AR := if A.has i then (if A.get i = o then (A.note 4 i true).put i v else A.note 4 i false) else A
def AR.add (A : AR) (i d : Int) : AR := if A.has i then (A.note 5 i true).put i (wrap64 (A.get i + d)) else A
def AR.addRes (A : AR) (i d : Int) : Int := if A.has i then wrap64 (A.get i + d) else 0

theorem Len_ar {w : World} {ab wb : Nat} {A : AR} (h : ArAt w ab wb A) : Calls Try.prog 42 #[.pointer (some ⟨ab, 0, none⟩)] w fun e w' => e = .returned (.int .i64 A.taken) ∧ w = w' := by
  have c1 := h.box.cell (i := 1) rfl
  clear h
  go_enter Try.func42, Try.ntmps42
  go_wp2
  go_ret
  exact ⟨rfl, rfl⟩

theorem Ops_any {w : World} {ab wb : Nat} {A : AR} (h : ArAt w ab wb A) : Calls Try.prog 26 #[.pointer (some ⟨ab, 0, none⟩)] w fun e w' => e = .returned (.int .i64 A.ops) ∧ w = w' := by
  have c1 := h.box.cell (i := 2) rfl
  clear h
  go_enter Try.func26, Try.ntmps26
  go_wp2
  go_ret
  exact ⟨rfl, rfl⟩

theorem word_yes {w : World} {ab wb : Nat} {A : AR} (h : ArAt w ab wb A) (i : Int) (hi : A.has i = true) :
    Calls Try.prog 70 #[.pointer (some ⟨ab, 0, none⟩), .int .i64 i] w fun e w' => e = .returned (.pointer (some ⟨wb, i.toNat - 1, none⟩)) ∧ w = w' := by
  have h1 : 1 ≤ i ∧ i ≤ (A.taken : Int) := by unfold AR.has at hi; simpa using hi
  have h2 := h.le
  have h3 := h.room
  have c0 := h.box.cell (i := 0) rfl
  obtain ⟨n, hn⟩ : ∃ n : Nat, i = (n : Int) + 1 := ⟨i.toNat - 1, by omega⟩
  have HL := Lib.hid (Len_ar h)
  subst hn
  have e1 : ((n : Int) + 1).toNat - 1 = n := by omega
  rw [e1]
  clear h hi e1
  have d1 : decide ((n : Int) + 1 < 1) = false := by simp; omega
  have d2 : decide ((A.taken : Int) < (n : Int) + 1) = false := by simp; omega
  have l1 : (n : Int) < A.ws.length := by omega
  go_enter Try.func70, Try.ntmps70
  go_wp2_with fail
  refine HL.out.mono ?_
  rintro e w' ⟨rfl, rfl⟩
  go_wp2
  go_ret
  exact ⟨rfl, rfl⟩

theorem word_no {w : World} {ab wb : Nat} {A : AR} (h : ArAt w ab wb A) (i : Int) (hi : A.has i = false) :
    Calls Try.prog 70 #[.pointer (some ⟨ab, 0, none⟩), .int .i64 i] w fun e w' => e = .returned (.pointer none) ∧ w = w' := by
  have h1 : ¬ (1 ≤ i ∧ i ≤ (A.taken : Int)) := by unfold AR.has at hi; simpa using hi
  have HL := Lib.hid (Len_ar h)
  clear h hi
  by_cases hlt : i < 1
  · go_enter Try.func70, Try.ntmps70
    go_wp2
    go_ret
    exact ⟨rfl, rfl⟩
  · have d1 : decide (i < 1) = false := by simp; omega
    have d2 : decide ((A.taken : Int) < i) = true := by simp; omega
    clear h1
    go_enter Try.func70, Try.ntmps70
    go_wp2_with fail
    refine HL.out.mono ?_
    rintro e w' ⟨rfl, rfl⟩
    go_wp2
    go_ret
    exact ⟨rfl, rfl⟩

theorem note_any {w : World} {ab wb : Nat} {A : AR} (h : ArAt w ab wb A) (k i : Int) (wr : Bool) :
    Calls Try.prog 71 #[.pointer (some ⟨ab, 0, none⟩), .int .i64 k, .int .i64 i, .bool wr] w fun e w' => e = .returned (.tuple #[]) ∧ ArAt w' ab wb (A.note k i wr) ∧ Frm [ab] w w' := by
  have c2 := h.box.cell (i := 2) rfl
  have c3 := h.box.cell (i := 3) rfl
  have c4 := h.box.cell (i := 4) rfl
  have c5 := h.box.cell (i := 5) rfl
  have z2 := h.box.frozen 2
  have z3 := h.box.frozen 3
  have z4 := h.box.frozen 4
  have z5 := h.box.frozen 5
  have H := Lib.hid h
  clear h
  go_enter Try.func71, Try.ntmps71
  go_wp2
  go_end0
  refine ⟨rfl, ?_, ?_⟩
  · exact { box := (((H.out.box.set 2 _).set 3 _).set 4 _).set 5 _, row := ((((H.out.row.other _ _ H.out.ne).other _ _ H.out.ne).other _ _ H.out.ne).other _ _ H.out.ne), ne := H.out.ne, room := H.out.room, le := H.out.le }
  · exact ((((Frm.refl _ _).set _ _ (.inl (by simp))).set _ _ (.inl (by simp))).set _ _ (.inl (by simp))).set _ _ (.inl (by simp))

/-- a word laid down -/
theorem ArAt.put {w : World} {ab wb : Nat} {A : AR} (h : ArAt w ab wb A) (i v : Int) : ArAt (w.setCell ⟨wb, i.toNat - 1, none⟩ (.int .i64 v)) ab wb (A.put i v) := by
  have h2 := h.box.other ⟨wb, i.toNat - 1, none⟩ (.int .i64 v) (Ne.symm h.ne)
  refine { box := ?_, row := ?_, ne := h.ne, room := ?_, le := ?_ }
  · unfold AR.put; rw [List.length_set]; exact h2
  · unfold AR.put; rw [List.map_set]; exact h.row.set _ _
  · unfold AR.put; rw [List.length_set]; exact h.room
  · unfold AR.put; rw [List.length_set]; exact h.le

theorem ar_cell {w : World} {ab wb : Nat} {A : AR} (h : ArAt w ab wb A) (i : Int) (hi : A.has i = true) : w.cell? ⟨wb, i.toNat - 1, none⟩ = some (.int .i64 (A.get i)) := by
  have h1 : 1 ≤ i ∧ i ≤ (A.taken : Int) := by unfold AR.has at hi; simpa using hi
  have h2 := h.le
  refine h.row.cell ?_
  have hl : (i.toNat - 1) < A.ws.length := by omega
  unfold AR.get
  rw [hi, List.getElem?_map, List.getElem?_eq_getElem hl]
  rfl


end Go.Proofs.Ytacogelejffbhaa
