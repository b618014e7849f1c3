/- The contract of arena's Words. -/
import Derived.Maps.AppendAt
import Derived.Test.YteijjhahgabalaaGreatQ05
import Derived.Test.YteijjhahgabalaaGreatQ07
namespace Go.Proofs.YteijjhahgabalaaGreat
open Go.RowKit

/-- the words that were taken -/
def AR.words (A : AR) : List Int := A.ws.take A.taken

set_option maxHeartbeats 1000000 in
theorem Words_any {w : World} {ab wb : Nat} {A : AR} (h : ArAt w ab wb A) :
    Calls Tryz.prog 54 #[.pointer (some ⟨ab, 0, none⟩)] w fun e w' => ∃ v, e = .returned v ∧ Own w' w.heap.size v A.words ∧ Frm [] w w' := by
  obtain ⟨i0, hi, hz0, hz1, hz2⟩ := info_parts intInfo
  have HL := Lib.hid (Len_ar h)
  have hle := h.le
  have hroom := h.room
  have hab := h.box.lt
  have hwb := h.row.lt
  have H := Lib.hid h
  have HI := Lib.hid (And.intro hi (And.intro hz0 (And.intro hz1 hz2)))
  clear h hi hz0 hz1 hz2
  go_enter Tryz.func54, Tryz.ntmps54
  go_wp2_with fail
  refine HL.out.mono ?_
  rintro e w' ⟨rfl, rfl⟩
  go_wp2_with fail
  go_loopw [3, 7] (fun vv i wr => ∃ (k : Nat) (v : Value), v = vv ∧ i = .int .i64 k ∧ k ≤ A.taken ∧ Own wr w.heap.size v (A.ws.take k) ∧ Frm [] w wr)
    (fun _ i _ => A.taken - (intOf i).toNat)
  case atStart => exact ⟨0, _, rfl, rfl, Nat.zero_le _, Own.nil _ _, Frm.refl _ _⟩
  case round =>
    obtain ⟨k, v, rfl, rfl, hk, hO, hF⟩ := hrel
    have hA := H.out.frm hF (by simp) (by simp)
    have hsz := hF.size
    by_cases hlt : k < A.taken
    · have hkl : k < A.ws.length := by omega
      have c0 := hA.box.cell (i := 0) rfl
      have l1 : (k : Int) < A.ws.length := by omega
      have cx : wr.cell? ⟨wb, k, none⟩ = some (.int .i64 (A.ws[k]?.getD 0)) := hA.row.cell (by rw [List.getElem?_map, List.getElem?_eq_getElem hkl]; rfl)
      have hnx : A.ws.take (k + 1) = A.ws.take k ++ [A.ws[k]?.getD 0] := by
        rw [List.take_succ_eq_append_getElem hkl]; simp [hkl]
      have hlen : (A.ws.take k).length = k := by simp; omega
      have HX := Lib.hid cx
      have HN := Lib.hid hnx
      have HB := Lib.hid (own_block hO)
      have HO := Lib.hid hO
      have HF := Lib.hid hF
      have HLN := Lib.hid hlen
      clear hnx cx hA hO hF hlen
      generalize hy : A.ws[k]?.getD 0 = y at HX HN
      clear hy
      go_wp2_with fail
      refine (aLoad_any _ _ _ _ HX.out).mono ?_
      rintro e w' ⟨rfl, rfl⟩
      have HOW := Lib.hid (HO.out.at HLN.out)
      go_wp2_with (at_builtin; refine wpList_append_own _ rfl _ _ 22 rfl w.heap.size 3 i0 (.int .i64 0) 1 8 Tryz.underlying22 HI.out.1 HI.out.2.1 HI.out.2.2.1 HI.out.2.2.2 rfl (by decide) _ _ _ rfl (HOW.out.alloc _) ⟨wr.heap.size, 0, none⟩ 1 1 [.int .i64 y] rfl rfl ?c1 ?c2 ?c3 ?c4 ?c5 ?_)
      case c1 => exact cell_one_new _ _ _
      case c2 => simp [Value.oneCell']
      case c3 => unfold maxLen; omega
      case c4 => omega
      case c5 => simp; omega
      intro v' w1 hown' hgrow _
      rw [← List.map_take] at hown'
      obtain ⟨g1, g2⟩ := own_step HLN.out hown' hgrow HB.out HF.out (Nat.le_refl _)
      rw [← HN.out] at g1
      have G1 := Lib.hid g1
      have G2 := Lib.hid g2
      clear g1 g2 hown' hgrow HX HN HOW HO HF HB c0
      go_wp2
      go_roundw
      case rel => exact ⟨k + 1, _, rfl, by go_num, by omega, G1.out, G2.out⟩
      case measure => simp [intOf]; omega
    · have hke : k = A.taken := by omega
      have HK := Lib.hid hke
      have HO := Lib.hid hO
      have HF := Lib.hid hF
      clear hke hA hO hF
      go_wp2
      go_ret
      exact ⟨_, rfl, by unfold AR.words; rw [← HK.out]; exact HO.out, HF.out⟩

end Go.Proofs.YteijjhahgabalaaGreat
