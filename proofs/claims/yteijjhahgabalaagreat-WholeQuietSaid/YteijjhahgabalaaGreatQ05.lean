/- The contracts of package arena: words that are changed one at a time. -/
import Derived.WalkKit
import Derived.WalkSpells
import Derived.Deep.QuietTactic
import Derived.BigQuiet
import Derived.IntWalk
import Derived.Lib.Hide
import Derived.Laws.LoneSync
import Derived.Test.YteijjhahgabalaaGreatProg
import Derived.Test.YteijjhahgabalaaGreatQ04
import Derived.Test.YteijjhahgabalaaGreatQ02
namespace Go.Proofs.YteijjhahgabalaaGreat
open Go.RowKit

/-! ### what an arena is -/
/-- an arena's state: its words (all that it has room for), how many are taken, how many ops, and the last op -/
structure AR where
  ws : List Int
  taken : Nat
  ops : Int
  k : Int
  at_ : Int
  wr : Bool

/-- the arena in block ab, its words in block wb -/
structure ArAt (w : World) (ab wb : Nat) (A : AR) : Prop where
  box : HAt w ab [.slice (some ⟨wb, 0, none⟩) A.ws.length A.ws.length, .int .i64 A.taken, .int .i64 A.ops, .int .i64 A.k, .int .i64 A.at_, .bool A.wr] 93
  row : HAt w wb (A.ws.map (Value.int .i64)) 158
  ne : wb ≠ ab
  room : A.ws.length ≤ 4096
  le : A.taken ≤ A.ws.length

theorem ArAt.frm {w w' : World} {ab wb : Nat} {A : AR} (h : ArAt w ab wb A) {S : List Nat} (hf : Frm S w w') (h1 : ab ∉ S) (h2 : wb ∉ S) : ArAt w' ab wb A :=
  { h with box := h.box.frm hf h1, row := h.row.frm hf h2 }

def AR.note (A : AR) (k at_ : Int) (wr : Bool) : AR := { A with ops := wrap64 (A.ops + 1), k := k, at_ := at_, wr := wr }
/-- is there a word of that number? -/
def AR.has (A : AR) (i : Int) : Bool := decide (1 ≤ i ∧ i ≤ (A.taken : Int))
def AR.get (A : AR) (i : Int) : Int := if A.has i then A.ws[(i.toNat - 1)]?.getD 0 else 0
def AR.put (A : AR) (i v : Int) : AR := { A with ws := A.ws.set (i.toNat - 1) v }
def AR.load (A : AR) (i : Int) : AR := if A.has i then A.note 1 i false else A
def AR.store (A : AR) (i v : Int) : AR := if A.has i then (A.note 2 i true).put i v else A
def AR.swap (A : AR) (i v : Int) : AR := if A.has i then (A.note 3 i true).put i v else A
def AR.casOk (A : AR) (i o : Int) : Bool := A.has i && decide (A.get i = o)
def AR.cas (A : AR) (i o v : Int) : AR := if A.has i then (if A.get i = o then (A.note 4 i true).put i v else A.note 4 i false) else A
def AR.add (A : AR) (i d : Int) : AR := if A.has i then (A.note 5 i true).put i (wrap64 (A.get i + d)) else A
def AR.addRes (A : AR) (i d : Int) : Int := if A.has i then wrap64 (A.get i + d) else 0

theorem Len_ar {w : World} {ab wb : Nat} {A : AR} (h : ArAt w ab wb A) : Calls Tryz.prog 32 #[.pointer (some ⟨ab, 0, none⟩)] w fun e w' => e = .returned (.int .i64 A.taken) ∧ w = w' := by
  have c1 := h.box.cell (i := 1) rfl
  clear h
  go_enter Tryz.func32, Tryz.ntmps32
  go_wp2
  go_ret
  exact ⟨rfl, rfl⟩

theorem Ops_any {w : World} {ab wb : Nat} {A : AR} (h : ArAt w ab wb A) : Calls Tryz.prog 33 #[.pointer (some ⟨ab, 0, none⟩)] w fun e w' => e = .returned (.int .i64 A.ops) ∧ w = w' := by
  have c1 := h.box.cell (i := 2) rfl
  clear h
  go_enter Tryz.func33, Tryz.ntmps33
  go_wp2
  go_ret
  exact ⟨rfl, rfl⟩

theorem word_yes {w : World} {ab wb : Nat} {A : AR} (h : ArAt w ab wb A) (i : Int) (hi : A.has i = true) :
    Calls Tryz.prog 78 #[.pointer (some ⟨ab, 0, none⟩), .int .i64 i] w fun e w' => e = .returned (.pointer (some ⟨wb, i.toNat - 1, none⟩)) ∧ w = w' := by
  have h1 : 1 ≤ i ∧ i ≤ (A.taken : Int) := by unfold AR.has at hi; simpa using hi
  have h2 := h.le
  have h3 := h.room
  have c0 := h.box.cell (i := 0) rfl
  obtain ⟨n, hn⟩ : ∃ n : Nat, i = (n : Int) + 1 := ⟨i.toNat - 1, by omega⟩
  have HL := Lib.hid (Len_ar h)
  subst hn
  have e1 : ((n : Int) + 1).toNat - 1 = n := by omega
  rw [e1]
  clear h hi e1
  have d1 : decide ((n : Int) + 1 < 1) = false := by simp; omega
  have d2 : decide ((A.taken : Int) < (n : Int) + 1) = false := by simp; omega
  have l1 : (n : Int) < A.ws.length := by omega
  go_enter Tryz.func78, Tryz.ntmps78
  go_wp2_with fail
  refine HL.out.mono ?_
  rintro e w' ⟨rfl, rfl⟩
  go_wp2
  go_ret
  exact ⟨rfl, rfl⟩

theorem word_no {w : World} {ab wb : Nat} {A : AR} (h : ArAt w ab wb A) (i : Int) (hi : A.has i = false) :
    Calls Tryz.prog 78 #[.pointer (some ⟨ab, 0, none⟩), .int .i64 i] w fun e w' => e = .returned (.pointer none) ∧ w = w' := by
  have h1 : ¬ (1 ≤ i ∧ i ≤ (A.taken : Int)) := by unfold AR.has at hi; simpa using hi
  have HL := Lib.hid (Len_ar h)
  clear h hi
  by_cases hlt : i < 1
  · go_enter Tryz.func78, Tryz.ntmps78
    go_wp2
    go_ret
    exact ⟨rfl, rfl⟩
  · have d1 : decide (i < 1) = false := by simp; omega
    have d2 : decide ((A.taken : Int) < i) = true := by simp; omega
    clear h1
    go_enter Tryz.func78, Tryz.ntmps78
    go_wp2_with fail
    refine HL.out.mono ?_
    rintro e w' ⟨rfl, rfl⟩
    go_wp2
    go_ret
    exact ⟨rfl, rfl⟩

theorem note_any {w : World} {ab wb : Nat} {A : AR} (h : ArAt w ab wb A) (k i : Int) (wr : Bool) :
    Calls Tryz.prog 79 #[.pointer (some ⟨ab, 0, none⟩), .int .i64 k, .int .i64 i, .bool wr] w fun e w' => e = .returned (.tuple #[]) ∧ ArAt w' ab wb (A.note k i wr) ∧ Frm [ab] w w' := by
  have c2 := h.box.cell (i := 2) rfl
  have c3 := h.box.cell (i := 3) rfl
  have c4 := h.box.cell (i := 4) rfl
  have c5 := h.box.cell (i := 5) rfl
  have z2 := h.box.frozen 2
  have z3 := h.box.frozen 3
  have z4 := h.box.frozen 4
  have z5 := h.box.frozen 5
  have H := Lib.hid h
  clear h
  go_enter Tryz.func79, Tryz.ntmps79
  go_wp2
  go_end0
  refine ⟨rfl, ?_, ?_⟩
  · exact { box := (((H.out.box.set 2 _).set 3 _).set 4 _).set 5 _, row := ((((H.out.row.other _ _ H.out.ne).other _ _ H.out.ne).other _ _ H.out.ne).other _ _ H.out.ne), ne := H.out.ne, room := H.out.room, le := H.out.le }
  · exact ((((Frm.refl _ _).set _ _ (.inl (by simp))).set _ _ (.inl (by simp))).set _ _ (.inl (by simp))).set _ _ (.inl (by simp))

/-- a word laid down -/
theorem ArAt.put {w : World} {ab wb : Nat} {A : AR} (h : ArAt w ab wb A) (i v : Int) : ArAt (w.setCell ⟨wb, i.toNat - 1, none⟩ (.int .i64 v)) ab wb (A.put i v) := by
  have h2 := h.box.other ⟨wb, i.toNat - 1, none⟩ (.int .i64 v) (Ne.symm h.ne)
  refine { box := ?_, row := ?_, ne := h.ne, room := ?_, le := ?_ }
  · unfold AR.put; rw [List.length_set]; exact h2
  · unfold AR.put; rw [List.map_set]; exact h.row.set _ _
  · unfold AR.put; rw [List.length_set]; exact h.room
  · unfold AR.put; rw [List.length_set]; exact h.le

theorem ar_cell {w : World} {ab wb : Nat} {A : AR} (h : ArAt w ab wb A) (i : Int) (hi : A.has i = true) : w.cell? ⟨wb, i.toNat - 1, none⟩ = some (.int .i64 (A.get i)) := by
  have h1 : 1 ≤ i ∧ i ≤ (A.taken : Int) := by unfold AR.has at hi; simpa using hi
  have h2 := h.le
  refine h.row.cell ?_
  have hl : (i.toNat - 1) < A.ws.length := by omega
  unfold AR.get
  rw [hi, List.getElem?_map, List.getElem?_eq_getElem hl]
  rfl


end Go.Proofs.YteijjhahgabalaaGreat

/- The contract of arena's Cas. -/
namespace Go.Proofs.YteijjhahgabalaaGreat
open Go.RowKit

theorem aCas_hit (w : World) (b i : Nat) (n v : Int) (h : w.cell? ⟨b, i, none⟩ = some (.int .i64 n)) (hz : w.frozen? ⟨b, i, none⟩ = false) :
    Calls Tryz.prog 166 #[.pointer (some ⟨b, i, none⟩), .int .i64 n, .int .i64 v] w fun e w' => e = .returned (.bool true) ∧ w' = w.setCell ⟨b, i, none⟩ (.int .i64 v) := by
  have hl := run_call_cas_hit (P := Tryz.prog) Tryz.func167 (by kernel_rfl) (by kernel_rfl) (by kernel_rfl) .i64 (by kernel_rfl) (y := v) h hz
  go_enter Tryz.func166, Tryz.ntmps166
  go_wp2
  go_ret
  exact ⟨rfl, rfl⟩
theorem aCas_miss (w : World) (b i : Nat) (n o v : Int) (h : w.cell? ⟨b, i, none⟩ = some (.int .i64 n)) (hz : w.frozen? ⟨b, i, none⟩ = false) (hne : ¬ n = o) :
    Calls Tryz.prog 166 #[.pointer (some ⟨b, i, none⟩), .int .i64 o, .int .i64 v] w fun e w' => e = .returned (.bool false) ∧ w = w' := by
  have hl := run_call_cas_miss (P := Tryz.prog) Tryz.func167 (by kernel_rfl) (by kernel_rfl) (by kernel_rfl) .i64 (by kernel_rfl) (o := o) (y := v) h hz hne
  clear hne
  go_enter Tryz.func166, Tryz.ntmps166
  go_wp2
  go_ret
  exact ⟨rfl, rfl⟩


theorem Cas_no {w : World} {ab wb : Nat} {A : AR} (h : ArAt w ab wb A) (i o v : Int) (hi : A.has i = false) :
    Calls Tryz.prog 165 #[.pointer (some ⟨ab, 0, none⟩), .int .i64 i, .int .i64 o, .int .i64 v] w fun e w' => e = .returned (.bool false) ∧ w = w' := by
  have HW := Lib.hid (word_no h i hi)
  clear h hi
  go_enter Tryz.func165, Tryz.ntmps165
  go_wp2_with fail
  refine HW.out.mono ?_
  rintro e w' ⟨rfl, rfl⟩
  go_wp2
  go_ret
  exact ⟨rfl, rfl⟩

theorem Cas_hit {w : World} {ab wb : Nat} {A : AR} (h : ArAt w ab wb A) (i v : Int) (hi : A.has i = true) :
    Calls Tryz.prog 165 #[.pointer (some ⟨ab, 0, none⟩), .int .i64 i, .int .i64 (A.get i), .int .i64 v] w fun e w' => e = .returned (.bool true) ∧ ArAt w' ab wb ((A.note 4 i true).put i v) ∧ Frm [ab, wb] w w' := by
  have HW := Lib.hid (word_yes h i hi)
  have HC := Lib.hid (aCas_hit w wb (i.toNat - 1) (A.get i) v (ar_cell h i hi) (h.row.frozen _))
  have HN := Lib.hid (note_any (h.put i v) 4 i true)
  clear h hi
  go_enter Tryz.func165, Tryz.ntmps165
  go_wp2_with fail
  refine HW.out.mono ?_
  rintro e w' ⟨rfl, rfl⟩
  go_wp2_with fail
  refine HC.out.mono ?_
  rintro e w' ⟨rfl, rfl⟩
  go_wp2_with fail
  refine HN.out.mono ?_
  rintro e w1 ⟨rfl, hA, hF⟩
  have HA := Lib.hid hA
  have HF := Lib.hid hF
  clear hA hF
  go_wp2
  go_ret
  exact ⟨rfl, HA.out, ((Frm.refl [ab, wb] w).set _ _ (.inl (by simp))).trans (HF.out.mono (by simp))⟩
theorem Cas_miss {w : World} {ab wb : Nat} {A : AR} (h : ArAt w ab wb A) (i o v : Int) (hi : A.has i = true) (hne : ¬ A.get i = o) :
    Calls Tryz.prog 165 #[.pointer (some ⟨ab, 0, none⟩), .int .i64 i, .int .i64 o, .int .i64 v] w fun e w' => e = .returned (.bool false) ∧ ArAt w' ab wb (A.note 4 i false) ∧ Frm [ab, wb] w w' := by
  have HW := Lib.hid (word_yes h i hi)
  have HC := Lib.hid (aCas_miss w wb (i.toNat - 1) (A.get i) o v (ar_cell h i hi) (h.row.frozen _) hne)
  have HN := Lib.hid (note_any h 4 i false)
  clear h hi hne
  go_enter Tryz.func165, Tryz.ntmps165
  go_wp2_with fail
  refine HW.out.mono ?_
  rintro e w' ⟨rfl, rfl⟩
  go_wp2_with fail
  refine HC.out.mono ?_
  rintro e w' ⟨rfl, rfl⟩
  go_wp2_with fail
  refine HN.out.mono ?_
  rintro e w1 ⟨rfl, hA, hF⟩
  have HA := Lib.hid hA
  have HF := Lib.hid hF
  clear hA hF
  go_wp2
  go_ret
  exact ⟨rfl, HA.out, HF.out.mono (by simp)⟩

theorem Cas_any {w : World} {ab wb : Nat} {A : AR} (h : ArAt w ab wb A) (i o v : Int) :
    Calls Tryz.prog 165 #[.pointer (some ⟨ab, 0, none⟩), .int .i64 i, .int .i64 o, .int .i64 v] w fun e w' => e = .returned (.bool (A.casOk i o)) ∧ ArAt w' ab wb (A.cas i o v) ∧ Frm [ab, wb] w w' := by
  cases hi : A.has i with
  | true =>
    by_cases he : A.get i = o
    · subst he
      exact (Cas_hit h i v hi).mono fun e w' ⟨h1, h2, h3⟩ => ⟨by rw [h1]; unfold AR.casOk; rw [hi]; simp, by unfold AR.cas; rw [hi, if_pos rfl, if_pos rfl]; exact h2, h3⟩
    · exact (Cas_miss h i o v hi he).mono fun e w' ⟨h1, h2, h3⟩ => ⟨by rw [h1]; unfold AR.casOk; rw [hi]; simp [he], by unfold AR.cas; rw [hi, if_pos rfl, if_neg he]; exact h2, h3⟩
  | false =>
    exact (Cas_no h i o v hi).mono fun e w' ⟨h1, h2⟩ => by
      subst h2
      exact ⟨by rw [h1]; unfold AR.casOk; rw [hi]; rfl, by unfold AR.cas; rw [hi]; exact h, Frm.refl _ _⟩

end Go.Proofs.YteijjhahgabalaaGreat

/- The contract of arena's Store. -/
namespace Go.Proofs.YteijjhahgabalaaGreat
open Go.RowKit

theorem aStore_any (w : World) (b i : Nat) (n v : Int) (h : w.cell? ⟨b, i, none⟩ = some (.int .i64 n)) (hz : w.frozen? ⟨b, i, none⟩ = false) :
    Calls Tryz.prog 80 #[.pointer (some ⟨b, i, none⟩), .int .i64 v] w fun e w' => e = .returned (.tuple #[]) ∧ w' = w.setCell ⟨b, i, none⟩ (.int .i64 v) := by
  have hl := run_call_store (P := Tryz.prog) Tryz.func101 (by kernel_rfl) (by kernel_rfl) (by kernel_rfl) (by kernel_rfl) (k := .i64) (y := v) h hz
  go_enter Tryz.func80, Tryz.ntmps80
  go_wp2
  go_end0
  exact ⟨rfl, rfl⟩

theorem Store_no {w : World} {ab wb : Nat} {A : AR} (h : ArAt w ab wb A) (i v : Int) (hi : A.has i = false) :
    Calls Tryz.prog 63 #[.pointer (some ⟨ab, 0, none⟩), .int .i64 i, .int .i64 v] w fun e w' => e = .returned (.tuple #[]) ∧ w = w' := by
  have HW := Lib.hid (word_no h i hi)
  clear h hi
  go_enter Tryz.func63, Tryz.ntmps63
  go_wp2_with fail
  refine HW.out.mono ?_
  rintro e w' ⟨rfl, rfl⟩
  go_wp2
  go_end0
  exact ⟨rfl, rfl⟩

theorem Store_yes {w : World} {ab wb : Nat} {A : AR} (h : ArAt w ab wb A) (i v : Int) (hi : A.has i = true) :
    Calls Tryz.prog 63 #[.pointer (some ⟨ab, 0, none⟩), .int .i64 i, .int .i64 v] w fun e w' => e = .returned (.tuple #[]) ∧ ArAt w' ab wb ((A.note 2 i true).put i v) ∧ Frm [ab, wb] w w' := by
  have HW := Lib.hid (word_yes h i hi)
  have HN := Lib.hid (note_any h 2 i true)
  have HI := Lib.hid (show (A.note 2 i true).has i = true from hi)
  clear h hi
  go_enter Tryz.func63, Tryz.ntmps63
  go_wp2_with fail
  refine HW.out.mono ?_
  rintro e w' ⟨rfl, rfl⟩
  go_wp2_with fail
  refine HN.out.mono ?_
  rintro e w1 ⟨rfl, hA, hF⟩
  have HA := Lib.hid hA
  have HF := Lib.hid hF
  clear hA hF
  go_wp2_with fail
  refine (aStore_any _ _ _ _ _ (ar_cell HA.out i HI.out) (HA.out.row.frozen _)).mono ?_
  rintro e w2 ⟨rfl, rfl⟩
  go_wp2
  go_end0
  exact ⟨rfl, HA.out.put i _, (HF.out.mono (by simp)).set _ _ (.inl (by simp))⟩

theorem Store_any {w : World} {ab wb : Nat} {A : AR} (h : ArAt w ab wb A) (i v : Int) :
    Calls Tryz.prog 63 #[.pointer (some ⟨ab, 0, none⟩), .int .i64 i, .int .i64 v] w fun e w' => e = .returned (.tuple #[]) ∧ ArAt w' ab wb (A.store i v) ∧ Frm [ab, wb] w w' := by
  cases hi : A.has i with
  | true => exact (Store_yes h i v hi).mono fun e w' ⟨h1, h2, h3⟩ => ⟨h1, by unfold AR.store; rw [hi]; exact h2, h3⟩
  | false =>
    exact (Store_no h i v hi).mono fun e w' ⟨h1, h2⟩ => by
      subst h2
      exact ⟨h1, by unfold AR.store; rw [hi]; exact h, Frm.refl _ _⟩

end Go.Proofs.YteijjhahgabalaaGreat

/- The contract of arena's Load. -/
namespace Go.Proofs.YteijjhahgabalaaGreat
open Go.RowKit

theorem aLoad_any (w : World) (b i : Nat) (n : Int) (h : w.cell? ⟨b, i, none⟩ = some (.int .i64 n)) :
    Calls Tryz.prog 65 #[.pointer (some ⟨b, i, none⟩)] w fun e w' => e = .returned (.int .i64 n) ∧ w = w' := by
  have hl := run_call_load (P := Tryz.prog) Tryz.func81 (by kernel_rfl) (by kernel_rfl) (by kernel_rfl) .i64 (by kernel_rfl) h
  go_enter Tryz.func65, Tryz.ntmps65
  go_wp2
  go_ret
  exact ⟨rfl, rfl⟩

theorem Load_no {w : World} {ab wb : Nat} {A : AR} (h : ArAt w ab wb A) (i : Int) (hi : A.has i = false) :
    Calls Tryz.prog 106 #[.pointer (some ⟨ab, 0, none⟩), .int .i64 i] w fun e w' => e = .returned (.int .i64 0) ∧ w = w' := by
  have HW := Lib.hid (word_no h i hi)
  clear h hi
  go_enter Tryz.func106, Tryz.ntmps106
  go_wp2_with fail
  refine HW.out.mono ?_
  rintro e w' ⟨rfl, rfl⟩
  go_wp2
  go_ret
  exact ⟨rfl, rfl⟩

theorem Load_yes {w : World} {ab wb : Nat} {A : AR} (h : ArAt w ab wb A) (i : Int) (hi : A.has i = true) :
    Calls Tryz.prog 106 #[.pointer (some ⟨ab, 0, none⟩), .int .i64 i] w fun e w' => e = .returned (.int .i64 (A.get i)) ∧ ArAt w' ab wb (A.note 1 i false) ∧ Frm [ab, wb] w w' := by
  have HW := Lib.hid (word_yes h i hi)
  have HN := Lib.hid (note_any h 1 i false)
  have hg : (A.note 1 i false).get i = A.get i := rfl
  have HC := Lib.hid hg
  have HI := Lib.hid (show (A.note 1 i false).has i = true from hi)
  clear h hi hg
  go_enter Tryz.func106, Tryz.ntmps106
  go_wp2_with fail
  refine HW.out.mono ?_
  rintro e w' ⟨rfl, rfl⟩
  go_wp2_with fail
  refine HN.out.mono ?_
  rintro e w1 ⟨rfl, hA, hF⟩
  have HA := Lib.hid hA
  have HF := Lib.hid hF
  clear hA hF
  go_wp2_with fail
  refine (aLoad_any _ _ _ _ (ar_cell HA.out i HI.out)).mono ?_
  rintro e w' ⟨rfl, rfl⟩
  go_wp2
  go_ret
  exact ⟨ret_int HC.out, HA.out, HF.out.mono (by simp)⟩

theorem Load_any {w : World} {ab wb : Nat} {A : AR} (h : ArAt w ab wb A) (i : Int) :
    Calls Tryz.prog 106 #[.pointer (some ⟨ab, 0, none⟩), .int .i64 i] w fun e w' => e = .returned (.int .i64 (A.get i)) ∧ ArAt w' ab wb (A.load i) ∧ Frm [ab, wb] w w' := by
  cases hi : A.has i with
  | true => exact (Load_yes h i hi).mono fun e w' ⟨h1, h2, h3⟩ => ⟨h1, by unfold AR.load; rw [hi]; exact h2, h3⟩
  | false =>
    exact (Load_no h i hi).mono fun e w' ⟨h1, h2⟩ => by
      subst h2
      exact ⟨by rw [h1]; unfold AR.get; rw [hi]; rfl, by unfold AR.load; rw [hi]; exact h, Frm.refl _ _⟩

end Go.Proofs.YteijjhahgabalaaGreat

/- The contract of arena's Add. -/
namespace Go.Proofs.YteijjhahgabalaaGreat
open Go.RowKit

theorem aAdd_any (w : World) (b i : Nat) (n d : Int) (h : w.cell? ⟨b, i, none⟩ = some (.int .i64 n)) (hz : w.frozen? ⟨b, i, none⟩ = false) :
    Calls Tryz.prog 182 #[.pointer (some ⟨b, i, none⟩), .int .i64 d] w fun e w' => e = .returned (.int .i64 (wrap64 (n + d))) ∧ w' = w.setCell ⟨b, i, none⟩ (.int .i64 (wrap64 (n + d))) := by
  have hl := run_call_add (P := Tryz.prog) Tryz.func183 (by kernel_rfl) (by kernel_rfl) (by kernel_rfl) .i64 (by kernel_rfl) (y := d) (s := wrap64 (n + d)) h hz (by simp [go_sem, IntWalk.i64_left])
  go_enter Tryz.func182, Tryz.ntmps182
  go_wp2
  go_ret
  exact ⟨rfl, rfl⟩

theorem Add_no {w : World} {ab wb : Nat} {A : AR} (h : ArAt w ab wb A) (i d : Int) (hi : A.has i = false) :
    Calls Tryz.prog 179 #[.pointer (some ⟨ab, 0, none⟩), .int .i64 i, .int .i64 d] w fun e w' => e = .returned (.int .i64 0) ∧ w = w' := by
  have HW := Lib.hid (word_no h i hi)
  clear h hi
  go_enter Tryz.func179, Tryz.ntmps179
  go_wp2_with fail
  refine HW.out.mono ?_
  rintro e w' ⟨rfl, rfl⟩
  go_wp2
  go_ret
  exact ⟨rfl, rfl⟩

theorem Add_yes {w : World} {ab wb : Nat} {A : AR} (h : ArAt w ab wb A) (i d : Int) (hi : A.has i = true) :
    Calls Tryz.prog 179 #[.pointer (some ⟨ab, 0, none⟩), .int .i64 i, .int .i64 d] w fun e w' => e = .returned (.int .i64 (wrap64 (A.get i + d))) ∧ ArAt w' ab wb ((A.note 5 i true).put i (wrap64 (A.get i + d))) ∧ Frm [ab, wb] w w' := by
  have HW := Lib.hid (word_yes h i hi)
  have HN := Lib.hid (note_any h 5 i true)
  have hg : (A.note 5 i true).get i = A.get i := rfl
  have HC := Lib.hid hg
  have HI := Lib.hid (show (A.note 5 i true).has i = true from hi)
  clear h hi hg
  go_enter Tryz.func179, Tryz.ntmps179
  go_wp2_with fail
  refine HW.out.mono ?_
  rintro e w' ⟨rfl, rfl⟩
  go_wp2_with fail
  refine HN.out.mono ?_
  rintro e w1 ⟨rfl, hA, hF⟩
  have HA := Lib.hid hA
  have HF := Lib.hid hF
  clear hA hF
  go_wp2_with fail
  refine (aAdd_any _ _ _ _ _ (ar_cell HA.out i HI.out) (HA.out.row.frozen _)).mono ?_
  rintro e w2 ⟨rfl, rfl⟩
  go_wp2
  go_ret
  exact ⟨ret_int (by rw [HC.out]), by rw [HC.out]; exact HA.out.put i _, (HF.out.mono (by simp)).set _ _ (.inl (by simp))⟩

theorem Add_any {w : World} {ab wb : Nat} {A : AR} (h : ArAt w ab wb A) (i d : Int) :
    Calls Tryz.prog 179 #[.pointer (some ⟨ab, 0, none⟩), .int .i64 i, .int .i64 d] w fun e w' => e = .returned (.int .i64 (A.addRes i d)) ∧ ArAt w' ab wb (A.add i d) ∧ Frm [ab, wb] w w' := by
  cases hi : A.has i with
  | true => exact (Add_yes h i d hi).mono fun e w' ⟨h1, h2, h3⟩ => ⟨by rw [h1]; unfold AR.addRes; rw [hi]; rfl, by unfold AR.add; rw [hi]; exact h2, h3⟩
  | false =>
    exact (Add_no h i d hi).mono fun e w' ⟨h1, h2⟩ => by
      subst h2
      exact ⟨by rw [h1]; unfold AR.addRes; rw [hi]; rfl, by unfold AR.add; rw [hi]; exact h, Frm.refl _ _⟩

end Go.Proofs.YteijjhahgabalaaGreat

/- The words of a region of an arena, what an op leaves of them: plain lemmas. -/
namespace Go.Proofs.YteijjhahgabalaaGreat
open Go.RowKit

theorem wr_id {x : Int} (h : -9223372036854775808 ≤ x ∧ x ≤ 9223372036854775807) : wrap64 x = x := by unfold wrap64; omega
/-- the arena's words lie in its room -/
def AR.Fit (A : AR) : Prop := A.taken ≤ A.ws.length ∧ A.ws.length ≤ 4096 ∧ 0 ≤ A.ops ∧ A.ops ≤ 1000000000
theorem has_iff {A : AR} {i : Int} : A.has i = true ↔ 1 ≤ i ∧ i ≤ (A.taken : Int) := by unfold AR.has; simp
theorem get_note (A : AR) (k a : Int) (wr : Bool) (i : Int) : (A.note k a wr).get i = A.get i := rfl
theorem get_put {A : AR} (hf : A.taken ≤ A.ws.length) {i : Int} (hi : A.has i = true) (v j : Int) : (A.put i v).get j = if j = i then v else A.get j := by
  have h1 := has_iff.1 hi
  by_cases e : j = i
  · subst e
    rw [if_pos rfl]
    unfold AR.get AR.put
    have : AR.has { A with ws := A.ws.set (j.toNat - 1) v } j = A.has j := rfl
    rw [this, hi, if_pos rfl, List.getElem?_set, if_pos rfl, if_pos (by omega)]
    rfl
  · rw [if_neg e]
    unfold AR.get AR.put
    have : AR.has { A with ws := A.ws.set (i.toNat - 1) v } j = A.has j := rfl
    rw [this]
    by_cases hj : A.has j = true
    · have h2 := has_iff.1 hj
      rw [hj, if_pos rfl, if_pos rfl, List.getElem?_set, if_neg (by omega)]
    · rw [if_neg hj, if_neg hj]
section
variable {A : AR} {i j v o d : Int}
theorem get_load : (A.load i).get j = A.get j := by unfold AR.load; split <;> rfl
theorem get_store (hf : A.taken ≤ A.ws.length) (hi : A.has i = true) : (A.store i v).get j = if j = i then v else A.get j := by
  unfold AR.store; rw [if_pos hi]; exact get_put (A := A.note 2 i true) hf hi v j
theorem get_swap (hf : A.taken ≤ A.ws.length) (hi : A.has i = true) : (A.swap i v).get j = if j = i then v else A.get j := by
  unfold AR.swap; rw [if_pos hi]; exact get_put (A := A.note 3 i true) hf hi v j
theorem get_add (hf : A.taken ≤ A.ws.length) (hi : A.has i = true) : (A.add i d).get j = if j = i then wrap64 (A.get i + d) else A.get j := by
  unfold AR.add; rw [if_pos hi]; exact get_put (A := A.note 5 i true) hf hi _ j
theorem get_cas (hf : A.taken ≤ A.ws.length) (hi : A.has i = true) : (A.cas i o v).get j = if j = i ∧ A.get i = o then v else A.get j := by
  unfold AR.cas
  rw [if_pos hi]
  by_cases h : A.get i = o
  · rw [if_pos h]
    refine (get_put (A := A.note 4 i true) hf hi v j).trans ?_
    by_cases e : j = i
    · rw [if_pos e, if_pos ⟨e, h⟩]
    · rw [if_neg e, if_neg (fun x => e x.1)]; rfl
  · rw [if_neg h, if_neg (fun x => h x.2)]; rfl
theorem cas_ok (hi : A.has i = true) : A.casOk i o = true ↔ A.get i = o := by unfold AR.casOk; rw [hi]; simp
end
/-- none or one op, in the region of m words from b on -/
structure Op1 (b m : Nat) (A B : AR) : Prop where
  taken : B.taken = A.taken
  len : B.ws.length = A.ws.length
  out : ∀ i : Int, (i < b ∨ (b : Int) + m ≤ i) → B.get i = A.get i
  ops : B = A ∨ (B.ops = A.ops + 1 ∧ (b : Int) ≤ B.at_ ∧ B.at_ < (b : Int) + m)
section
variable {A B : AR} {b m : Nat} {i v o d : Int}
theorem Op1.refl (b m : Nat) (A : AR) : Op1 b m A A := ⟨rfl, rfl, fun _ _ => rfl, .inl rfl⟩
theorem ops_wrap (hf : A.Fit) : wrap64 (A.ops + 1) = A.ops + 1 := wr_id (by have := hf.2.2; omega)
theorem op_load (hf : A.Fit) (hi : A.has i = true) (h1 : (b : Int) ≤ i) (h2 : i < (b : Int) + m) : Op1 b m A (A.load i) ∧ (A.load i).ops = A.ops + 1 := by
  have e : A.load i = A.note 1 i false := by unfold AR.load; rw [if_pos hi]
  rw [e]
  exact ⟨⟨rfl, rfl, fun _ _ => rfl, .inr ⟨ops_wrap hf, h1, h2⟩⟩, ops_wrap hf⟩
theorem op_store (hf : A.Fit) (hi : A.has i = true) (h1 : (b : Int) ≤ i) (h2 : i < (b : Int) + m) : Op1 b m A (A.store i v) ∧ (A.store i v).ops = A.ops + 1 := by
  have e : A.store i v = (A.note 2 i true).put i v := by unfold AR.store; rw [if_pos hi]
  refine ⟨⟨by rw [e]; rfl, by rw [e]; exact List.length_set, fun j hj => ?_, .inr ?_⟩, by rw [e]; exact ops_wrap hf⟩
  · rw [get_store hf.1 hi, if_neg (by omega)]
  · rw [e]; exact ⟨ops_wrap hf, h1, h2⟩
theorem op_swap (hf : A.Fit) (hi : A.has i = true) (h1 : (b : Int) ≤ i) (h2 : i < (b : Int) + m) : Op1 b m A (A.swap i v) ∧ (A.swap i v).ops = A.ops + 1 := by
  have e : A.swap i v = (A.note 3 i true).put i v := by unfold AR.swap; rw [if_pos hi]
  refine ⟨⟨by rw [e]; rfl, by rw [e]; exact List.length_set, fun j hj => ?_, .inr ?_⟩, by rw [e]; exact ops_wrap hf⟩
  · rw [get_swap hf.1 hi, if_neg (by omega)]
  · rw [e]; exact ⟨ops_wrap hf, h1, h2⟩
theorem op_add (hf : A.Fit) (hi : A.has i = true) (h1 : (b : Int) ≤ i) (h2 : i < (b : Int) + m) : Op1 b m A (A.add i d) ∧ (A.add i d).ops = A.ops + 1 := by
  have e : A.add i d = (A.note 5 i true).put i (wrap64 (A.get i + d)) := by unfold AR.add; rw [if_pos hi]
  refine ⟨⟨by rw [e]; rfl, by rw [e]; exact List.length_set, fun j hj => ?_, .inr ?_⟩, by rw [e]; exact ops_wrap hf⟩
  · rw [get_add hf.1 hi, if_neg (by omega)]
  · rw [e]; exact ⟨ops_wrap hf, h1, h2⟩
theorem op_cas (hf : A.Fit) (hi : A.has i = true) (h1 : (b : Int) ≤ i) (h2 : i < (b : Int) + m) : Op1 b m A (A.cas i o v) ∧ (A.cas i o v).ops = A.ops + 1 := by
  by_cases h : A.get i = o
  · have e : A.cas i o v = (A.note 4 i true).put i v := by unfold AR.cas; rw [if_pos hi, if_pos h]
    refine ⟨⟨by rw [e]; rfl, by rw [e]; exact List.length_set, fun j hj => ?_, .inr ?_⟩, by rw [e]; exact ops_wrap hf⟩
    · rw [get_cas hf.1 hi, if_neg (by omega)]
    · rw [e]; exact ⟨ops_wrap hf, h1, h2⟩
  · have e : A.cas i o v = A.note 4 i false := by unfold AR.cas; rw [if_pos hi, if_neg h]
    rw [e]
    exact ⟨⟨rfl, rfl, fun _ _ => rfl, .inr ⟨ops_wrap hf, h1, h2⟩⟩, ops_wrap hf⟩
theorem Op1.mono {b' m' : Nat} (h : Op1 b m A B) (h1 : b' ≤ b) (h2 : b + m ≤ b' + m') : Op1 b' m' A B :=
  ⟨h.taken, h.len, fun i hi => h.out i (by omega), h.ops.imp id fun ⟨a, c, d⟩ => ⟨a, by omega, by omega⟩⟩
theorem Op1.has (h : Op1 b m A B) (i : Int) : B.has i = A.has i := by unfold AR.has; rw [h.taken]
theorem Op1.le (h : Op1 b m A B) : A.ops ≤ B.ops ∧ B.ops ≤ A.ops + 1 := by
  rcases h.ops with e | ⟨e, _⟩
  · rw [e]; omega
  · omega
theorem Op1.fit (h : Op1 b m A B) (hf : A.Fit) (hl : A.ops < 1000000000) : B.Fit := by
  have := h.le
  exact ⟨by rw [h.taken, h.len]; exact hf.1, by rw [h.len]; exact hf.2.1, by have := hf.2.2.1; omega, by omega⟩
end
end Go.Proofs.YteijjhahgabalaaGreat

/- The contract of arena's Swap. -/
namespace Go.Proofs.YteijjhahgabalaaGreat
open Go.RowKit

theorem run_call_swap {P : Program} {f : FuncId} {fn : Func} (hf : P.funcs[f]? = some fn) (hname : (fn.name == "runtime.NumGoroutine") = false) (hb : fn.body.isNone = true) (hn : Extern.findNext fn = none) (k : IntKind)
    (he : Extern.find fn = some (Extern.Atomic.swapT (.int k))) {a : Addr} {x y : Int} {w : World} (hc : w.cell? a = some (.int k x)) (hz : w.frozen? a = false) :
    (callFunc f #[.pointer (some a), .int k y]).run P w = .ok (.value (.int k x)) (w.setCell a (.int k y)) := by
  rw [run_callFunc_extern hf hname hb hn he]
  change (Sem.run P (asAddr (.pointer (some a)) >>= fun a' => Extern.Atomic.read (.int k) a' >>= fun old => store a' (.int k y) .atomic >>= fun _ => pure old) w).andThen _ = _
  simp [Extern.Atomic.read, asAddr, hc, hz, run_store P w a (.int k y) .atomic rfl, Result.andThen]

theorem aSwap_any (w : World) (b i : Nat) (n v : Int) (h : w.cell? ⟨b, i, none⟩ = some (.int .i64 n)) (hz : w.frozen? ⟨b, i, none⟩ = false) :
    Calls Tryz.prog 208 #[.pointer (some ⟨b, i, none⟩), .int .i64 v] w fun e w' => e = .returned (.int .i64 n) ∧ w' = w.setCell ⟨b, i, none⟩ (.int .i64 v) := by
  have hl := run_call_swap (P := Tryz.prog) Tryz.func209 (by kernel_rfl) (by kernel_rfl) (by kernel_rfl) .i64 (by kernel_rfl) (y := v) h hz
  go_enter Tryz.func208, Tryz.ntmps208
  go_wp2
  go_ret
  exact ⟨rfl, rfl⟩

theorem Swap_no {w : World} {ab wb : Nat} {A : AR} (h : ArAt w ab wb A) (i v : Int) (hi : A.has i = false) :
    Calls Tryz.prog 207 #[.pointer (some ⟨ab, 0, none⟩), .int .i64 i, .int .i64 v] w fun e w' => e = .returned (.int .i64 0) ∧ w = w' := by
  have HW := Lib.hid (word_no h i hi)
  clear h hi
  go_enter Tryz.func207, Tryz.ntmps207
  go_wp2_with fail
  refine HW.out.mono ?_
  rintro e w' ⟨rfl, rfl⟩
  go_wp2
  go_ret
  exact ⟨rfl, rfl⟩

theorem Swap_yes {w : World} {ab wb : Nat} {A : AR} (h : ArAt w ab wb A) (i v : Int) (hi : A.has i = true) :
    Calls Tryz.prog 207 #[.pointer (some ⟨ab, 0, none⟩), .int .i64 i, .int .i64 v] w fun e w' => e = .returned (.int .i64 (A.get i)) ∧ ArAt w' ab wb ((A.note 3 i true).put i v) ∧ Frm [ab, wb] w w' := by
  have HW := Lib.hid (word_yes h i hi)
  have HN := Lib.hid (note_any h 3 i true)
  have hg : (A.note 3 i true).get i = A.get i := rfl
  have HC := Lib.hid hg
  have HI := Lib.hid (show (A.note 3 i true).has i = true from hi)
  clear h hi hg
  go_enter Tryz.func207, Tryz.ntmps207
  go_wp2_with fail
  refine HW.out.mono ?_
  rintro e w' ⟨rfl, rfl⟩
  go_wp2_with fail
  refine HN.out.mono ?_
  rintro e w1 ⟨rfl, hA, hF⟩
  have HA := Lib.hid hA
  have HF := Lib.hid hF
  clear hA hF
  go_wp2_with fail
  refine (aSwap_any _ _ _ _ _ (ar_cell HA.out i HI.out) (HA.out.row.frozen _)).mono ?_
  rintro e w2 ⟨rfl, rfl⟩
  go_wp2
  go_ret
  exact ⟨ret_int (by rw [HC.out]), HA.out.put i _, (HF.out.mono (by simp)).set _ _ (.inl (by simp))⟩

theorem Swap_any {w : World} {ab wb : Nat} {A : AR} (h : ArAt w ab wb A) (i v : Int) :
    Calls Tryz.prog 207 #[.pointer (some ⟨ab, 0, none⟩), .int .i64 i, .int .i64 v] w fun e w' => e = .returned (.int .i64 (A.get i)) ∧ ArAt w' ab wb (A.swap i v) ∧ Frm [ab, wb] w w' := by
  cases hi : A.has i with
  | true => exact (Swap_yes h i v hi).mono fun e w' ⟨h1, h2, h3⟩ => ⟨h1, by unfold AR.swap; rw [hi]; exact h2, h3⟩
  | false =>
    exact (Swap_no h i v hi).mono fun e w' ⟨h1, h2⟩ => by
      subst h2
      exact ⟨by rw [h1]; unfold AR.get; rw [hi]; rfl, by unfold AR.swap; rw [hi]; exact h, Frm.refl _ _⟩

end Go.Proofs.YteijjhahgabalaaGreat

/- The contracts of arena's New, Take and Last. -/
namespace Go.Proofs.YteijjhahgabalaaGreat
open Go.RowKit

def zerosA (n : Nat) : Array Value := (List.replicate n (Value.int .i64 0)).toArray
theorem toList_zerosA (n : Nat) : (zerosA n).toList = (List.replicate n (0 : Int)).map (Value.int .i64) := by simp [zerosA]
theorem wordInfo : (Tryz.prog.info? 158).map (fun i => (i.zero, i.size, i.bytes)) = some (some (.agg #[.int .i64 0]), 1, 8) := by kernel_rfl
theorem mkWords (n : Nat) (hn : n ≤ 1000000) (W : World) : (Instr.makeSlice 91 (.int .i64 n) (.int .i64 n)).run Tryz.prog W = .ok (.slice (some ⟨W.heap.size, 0, none⟩) n n) (W.alloc (.cells (zerosA n) 158)) := by
  obtain ⟨i0, hi, hz0, hz1, hz2⟩ := info_parts wordInfo
  rw [run_make W 91 158 i0 (.agg #[.int .i64 0]) Tryz.underlying91 hi hz0 .i64 .i64 n n (by omega) (by omega) (by rw [hz2]; omega) (by omega)]
  have e : madeCells (Value.agg #[.int .i64 0]).cells (((n : Int).toNat) * i0.size) = zerosA n := by
    apply Array.ext'
    rw [hz1]
    show (madeCells #[Value.int .i64 0] _).toList = _
    rw [toList_madeCells_one]
    simp [zerosA]
  rw [e]
  simp

def AR.fresh (n : Nat) : AR := { ws := List.replicate n 0, taken := 0, ops := 0, k := 0, at_ := 0, wr := false }
theorem fresh_at (w : World) (n : Nat) (hn : n ≤ 4096) : ArAt ((w.alloc (.cells (zerosA n) 158)).alloc (.cells #[.slice (some ⟨w.heap.size, 0, none⟩) n n, .int .i64 0, .int .i64 0, .int .i64 0, .int .i64 0, .bool false] 93)) (w.heap.size + 1) w.heap.size (AR.fresh n) := by
  have h1 := (HAt.new w (zerosA n) 158).alloc (.cells #[.slice (some ⟨w.heap.size, 0, none⟩) n n, .int .i64 0, .int .i64 0, .int .i64 0, .int .i64 0, .bool false] 93)
  have h2 := HAt.new (w.alloc (.cells (zerosA n) 158)) #[.slice (some ⟨w.heap.size, 0, none⟩) n n, .int .i64 0, .int .i64 0, .int .i64 0, .int .i64 0, .bool false] 93
  rw [toList_zerosA] at h1
  rw [World.size_alloc] at h2
  refine { box := ?_, row := h1, ne := by omega, room := by simpa [AR.fresh] using hn, le := by simp [AR.fresh] }
  simpa [AR.fresh] using h2

set_option maxRecDepth 100000 in
theorem New_case (room : Int) (n : Nat) (hn : n ≤ 4096) (w : World) (h : (4096 < room ∧ n = 4096) ∨ (0 < room ∧ room ≤ 4096 ∧ room = n) ∨ (room ≤ 0 ∧ n = 0)) :
    Calls Tryz.prog 30 #[.int .i64 room] w fun e w' => e = .returned (.pointer (some ⟨w.heap.size + 1, 0, none⟩)) ∧ ArAt w' (w.heap.size + 1) w.heap.size (AR.fresh n) ∧ Frm [] w w' := by
  have HF := Lib.hid (fresh_at w n hn)
  have hmk := mkWords n (by omega)
  rcases h with ⟨h1, rfl⟩ | ⟨h1, h2, rfl⟩ | ⟨h1, rfl⟩
  · have hmk' : ∀ W : World, (Instr.makeSlice 91 (.int .i64 4096) (.int .i64 4096)).run Tryz.prog W = .ok (.slice (some ⟨W.heap.size, 0, none⟩) 4096 4096) (W.alloc (.cells (zerosA 4096) 158)) := fun W => hmk W
    clear hmk
    go_enter Tryz.func30, Tryz.ntmps30
    go_wp2
    go_ret
    exact ⟨rfl, HF.out, ((Frm.refl _ _).alloc _).alloc _⟩
  · go_enter Tryz.func30, Tryz.ntmps30
    go_wp2
    go_ret
    exact ⟨rfl, HF.out, ((Frm.refl _ _).alloc _).alloc _⟩
  · have hmk' : ∀ W : World, (Instr.makeSlice 91 (.int .i64 0) (.int .i64 0)).run Tryz.prog W = .ok (.slice (some ⟨W.heap.size, 0, none⟩) 0 0) (W.alloc (.cells (zerosA 0) 158)) := fun W => hmk W
    clear hmk
    go_enter Tryz.func30, Tryz.ntmps30
    go_wp2
    go_ret
    exact ⟨rfl, HF.out, ((Frm.refl _ _).alloc _).alloc _⟩

/-- how many words a new arena has room for -/
def roomOf (room : Int) : Nat := if 4096 < room then 4096 else room.toNat
theorem New_any (room : Int) (w : World) : Calls Tryz.prog 30 #[.int .i64 room] w fun e w' => e = .returned (.pointer (some ⟨w.heap.size + 1, 0, none⟩)) ∧
    ArAt w' (w.heap.size + 1) w.heap.size (AR.fresh (roomOf room)) ∧ Frm [] w w' :=
  New_case room (roomOf room) (by unfold roomOf; split <;> omega) w (by unfold roomOf; split <;> omega)

end Go.Proofs.YteijjhahgabalaaGreat

/- The contract of arena's Take. -/
namespace Go.Proofs.YteijjhahgabalaaGreat
open Go.RowKit

/-- what Take comes to: the first word's number, the error, the arena then -/
def AR.takeE (A : AR) (n : Int) : Int := if n < 0 then 1 else if (A.ws.length : Int) - A.taken < n then 3 else 0
def AR.takeN (A : AR) (n : Int) : Int := if A.takeE n = 0 then (A.taken : Int) + 1 else 0
def AR.take (A : AR) (n : Int) : AR := if A.takeE n = 0 then { A with taken := A.taken + n.toNat } else A

theorem Take_no {w : World} {ab wb : Nat} {A : AR} (h : ArAt w ab wb A) (n : Int) (hn : A.takeE n ≠ 0) :
    Calls Tryz.prog 61 #[.pointer (some ⟨ab, 0, none⟩), .int .i64 n] w fun e w' => e = .returned (.tuple #[.int .i64 0, .int .i64 (A.takeE n)]) ∧ Frm [] w w' ∧ ArAt w' ab wb A := by
  have c0 := h.box.cell (i := 0) rfl
  have c1 := h.box.cell (i := 1) rfl
  have hle := h.le
  have hroom := h.room
  have H := Lib.hid h
  clear h
  by_cases hneg : n < 0
  · have he : A.takeE n = 1 := by unfold AR.takeE; rw [if_pos hneg]
    rw [he]
    clear hn he
    go_enter Tryz.func61, Tryz.ntmps61
    go_wp2
    go_ret2
    exact ⟨rfl, Frm.refl _ _, H.out⟩
  · have hbig : (A.ws.length : Int) - A.taken < n := by
      by_cases hb : (A.ws.length : Int) - A.taken < n
      · exact hb
      · exact absurd (by unfold AR.takeE; rw [if_neg hneg, if_neg hb]) hn
    have he : A.takeE n = 3 := by unfold AR.takeE; rw [if_neg hneg, if_pos hbig]
    rw [he]
    clear hn he
    have d1 : decide ((A.ws.length : Int) - A.taken < n) = true := by simpa using hbig
    go_enter Tryz.func61, Tryz.ntmps61
    go_wp2
    go_quiet (fail)
    go_wp2
    go_ret2
    exact ⟨rfl, (Frm.refl _ _).drew _, (H.out.frm ((Frm.refl [] _).drew _) (by simp) (by simp))⟩

theorem Take_yes {w : World} {ab wb : Nat} {A : AR} (h : ArAt w ab wb A) (n : Int) (hn : A.takeE n = 0) :
    Calls Tryz.prog 61 #[.pointer (some ⟨ab, 0, none⟩), .int .i64 n] w fun e w' => e = .returned (.tuple #[.int .i64 ((A.taken : Int) + 1), .int .i64 0]) ∧ Frm [ab] w w' ∧ ArAt w' ab wb { A with taken := A.taken + n.toNat } := by
  have hneg : ¬ n < 0 := by intro hneg; unfold AR.takeE at hn; rw [if_pos hneg] at hn; omega
  have hbig : ¬ (A.ws.length : Int) - A.taken < n := by intro hb; unfold AR.takeE at hn; rw [if_neg hneg, if_pos hb] at hn; omega
  clear hn
  obtain ⟨m, rfl⟩ : ∃ m : Nat, n = m := ⟨n.toNat, by omega⟩
  have d1 : decide ((A.ws.length : Int) - A.taken < (m : Int)) = false := by simp; omega
  have c0 := h.box.cell (i := 0) rfl
  have c1 := h.box.cell (i := 1) rfl
  have z1 := h.box.frozen 1
  have hle := h.le
  have hroom := h.room
  have hfin : ∀ W : World, HAt W ab [.slice (some ⟨wb, 0, none⟩) A.ws.length A.ws.length, .int .i64 ((A.taken : Int) + m), .int .i64 A.ops, .int .i64 A.k, .int .i64 A.at_, .bool A.wr] 93 → HAt W wb (A.ws.map (Value.int .i64)) 158 →
      ArAt W ab wb { A with taken := A.taken + (m : Int).toNat } := fun W a1 a2 =>
    { box := by simpa using a1, row := a2, ne := h.ne, room := hroom, le := by simp; omega }
  have H := Lib.hid h
  have HF := Lib.hid hfin
  clear h hfin
  go_enter Tryz.func61, Tryz.ntmps61
  go_wp2
  go_quiet (fail)
  go_wp2
  go_ret2
  refine ⟨rfl, ?_, ?_⟩
  · exact ((Frm.refl _ _).drew _).set _ _ (.inl (by simp))
  · exact HF.out _ ((H.out.box.drew _).set 1 _) ((H.out.row.drew _).other _ _ H.out.ne)

theorem Take_any {w : World} {ab wb : Nat} {A : AR} (h : ArAt w ab wb A) (n : Int) :
    Calls Tryz.prog 61 #[.pointer (some ⟨ab, 0, none⟩), .int .i64 n] w fun e w' => e = .returned (.tuple #[.int .i64 (A.takeN n), .int .i64 (A.takeE n)]) ∧ ArAt w' ab wb (A.take n) ∧ Frm [ab, wb] w w' := by
  by_cases hn : A.takeE n = 0
  · exact (Take_yes h n hn).mono fun e w' ⟨h1, h2, h3⟩ => ⟨by rw [h1]; unfold AR.takeN; rw [if_pos hn, hn], by unfold AR.take; rw [if_pos hn]; exact h3, h2.mono (by simp)⟩
  · exact (Take_no h n hn).mono fun e w' ⟨h1, h2, h3⟩ => ⟨by rw [h1]; unfold AR.takeN; rw [if_neg hn], by unfold AR.take; rw [if_neg hn]; exact h3, h2.mono (by simp)⟩

end Go.Proofs.YteijjhahgabalaaGreat
