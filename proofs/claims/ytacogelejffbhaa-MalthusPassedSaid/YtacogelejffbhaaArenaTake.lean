/- The contract of arena's Take. -/
import Derived.Test.YtacogelejffbhaaArenaNew
namespace Go.Proofs.Ytacogelejffbhaa
open Go.RowKit

/-- what Take comes to: the first word's number, the error, the arena then -/
def AR.takeE (A : AR) (n : Int) : Int := if n < 0 then 1 else if (A.ws.length : Int) - A.taken < n then 3 else 0
def AR.takeN (A : AR) (n : Int) : Int := if A.takeE n = 0 then (A.taken : Int) + 1 else 0
def AR.take (A : AR) (n : Int) : AR := if A.takeE n = 0 then { A with taken := A.taken + n.toNat } else A

theorem Take_no {w : World} {ab wb : Nat} {A : AR} (h : ArAt w ab wb A) (n : Int) (hn : A.takeE n ≠ 0) :
    Calls Try.prog 35 #[.pointer (some ⟨ab, 0, none⟩), .int .i64 n] w fun e w' => e = .returned (.tuple #[.int .i64 0, .int .i64 (A.takeE n)]) ∧ Frm [] w w' ∧ ArAt w' ab wb A := by
  have c0 := h.box.cell (i := 0) rfl
  have c1 := h.box.cell (i := 1) rfl
  have hle := h.le
  have hroom := h.room
  have H := Lib.hid h
  clear h
  by_cases hneg : n < 0
  · have he : A.takeE n = 1 := by unfold AR.takeE; rw [if_pos hneg]
    rw [he]
    clear hn he
    go_enter Try.func35, Try.ntmps35
    go_wp2
    go_ret2
    exact ⟨rfl, Frm.refl _ _, H.out⟩
  · have hbig : (A.ws.length : Int) - A.taken < n := by
      by_cases hb : (A.ws.length : Int) - A.taken < n
      · exact hb
      · exact absurd (by unfold AR.takeE; rw [if_neg hneg, if_neg hb]) hn
    have he : A.takeE n = 3 := by unfold AR.takeE; rw [if_neg hneg, if_pos hbig]
    rw [he]
    clear hn he
    have d1 : decide ((A.ws.length : Int) - A.taken < n) = true := by simpa using hbig
    go_enter Try.func35, Try.ntmps35
    go_wp2
    go_quiet (fail)
    go_wp2
    go_ret2
    exact ⟨rfl, (Frm.refl _ _).drew _, (H.out.frm ((Frm.refl [] _).drew _) (by simp) (by simp))⟩

theorem Take_yes {w : World} {ab wb : Nat} {A : AR} (h : ArAt w ab wb A) (n : Int) (hn : A.takeE n = 0) :
    Calls Try.prog 35 #[.pointer (some ⟨ab, 0, none⟩), .int .i64 n] w fun e w' => e = .returned (.tuple #[.int .i64 ((A.taken : Int) + 1), .int .i64 0]) ∧ Frm [ab] w w' ∧ ArAt w' ab wb { A with taken := A.taken + n.toNat } := by
  have hneg : ¬ n < 0 := by intro hneg; unfold AR.takeE at hn; rw [if_pos hneg] at hn; omega
  have hbig : ¬ (A.ws.length : Int) - A.taken < n := by intro hb; unfold AR.takeE at hn; rw [if_neg hneg, if_pos hb] at hn; omega
  clear hn
  obtain ⟨m, rfl⟩ : ∃ m : Nat, n = m := ⟨n.toNat, by omega⟩
  have d1 : decide ((A.ws.length : Int) - A.taken < (m : Int)) = false := by simp; omega
  have c0 := h.box.cell (i := 0) rfl
  have c1 := h.box.cell (i := 1) rfl
  have z1 := h.box.frozen 1
  have hle := h.le
  have hroom := h.room
  have hfin : ∀ W : World, HAt W ab [.slice (some ⟨wb, 0, none⟩) A.ws.length A.ws.length, .int .i64 ((A.taken : Int) + m), .int .i64 A.ops, .int .i64 A.k, .int .i64 A.at_, .bool A.wr] 73 → HAt W wb (A.ws.map (Value.int .i64)) 81 →
      ArAt W ab wb { A with taken := A.taken + (m : Int).toNat } := fun W a1 a2 =>
    { box := by simpa using a1, row := a2, ne := h.ne, room := hroom, le := by simp; omega }
  have H := Lib.hid h
  have HF := Lib.hid hfin
  clear h hfin
  go_enter Try.func35, Try.ntmps35
  go_wp2
  go_quiet (fail)
  go_wp2
  go_ret2
  refine ⟨rfl, ?_, ?_⟩
  · exact ((Frm.refl _ _).drew _).set _ _ (.inl (by simp))
  · exact HF.out _ ((H.out.box.drew _).set 1 _) ((H.out.row.drew _).other _ _ H.out.ne)

theorem Take_any {w : World} {ab wb : Nat} {A : AR} (h : ArAt w ab wb A) (n : Int) :
    Calls Try.prog 35 #[.pointer (some ⟨ab, 0, none⟩), .int .i64 n] w fun e w' => e = .returned (.tuple #[.int .i64 (A.takeN n), .int .i64 (A.takeE n)]) ∧ ArAt w' ab wb (A.take n) ∧ Frm [ab, wb] w w' := by
  by_cases hn : A.takeE n = 0
  · exact (Take_yes h n hn).mono fun e w' ⟨h1, h2, h3⟩ => ⟨by rw [h1]; unfold AR.takeN; rw [if_pos hn, hn], by unfold AR.take; rw [if_pos hn]; exact h3, h2.mono (by simp)⟩
  · exact (Take_no h n hn).mono fun e w' ⟨h1, h2, h3⟩ => ⟨by rw [h1]; unfold AR.takeN; rw [if_neg hn], by unfold AR.take; rw [if_neg hn]; exact h3, h2.mono (by simp)⟩

end Go.Proofs.Ytacogelejffbhaa
