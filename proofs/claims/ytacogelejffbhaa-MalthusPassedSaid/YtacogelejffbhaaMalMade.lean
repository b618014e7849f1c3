/- The contract of the law's made. -/
import Derived.Test.YtacogelejffbhaaMalAwake
import Derived.Test.YtacogelejffbhaaTopoOpen
import Derived.Test.YtacogelejffbhaaActs
namespace Go.Proofs.Ytacogelejffbhaa
open Go.RowKit
section
variable {w : World} {b1 b2 : Nat} {v u : Value} {P T : List Int}
theorem made_no (hx : RowAt w b1 v P) (hy : RowAt w b2 u T) (hs : ¬ tSmall P T 8) (n : Int) : Calls Try.prog 28 #[.agg #[v, u], .int .u8 n] w fun e w' => e = .returned (.tuple #[.pointer none, .pointer none, .bool false]) ∧ Frm [] w w' := by
  have HS := Lib.hid (fun (W : World) (hf : Frm [] w W) => Small_any W (hx.frm hf (by simp)) (hy.frm hf (by simp)) 8)
  have HN := Lib.hid hs
  obtain ⟨a, cap, rfl, -, -⟩ := hx
  obtain ⟨a', cap', rfl, -, -⟩ := hy
  clear hs
  go_enter Try.func28, Try.ntmps28
  go_wp2_with fail
  refine (HS.out _ ((Frm.refl _ _).alloc _)).mono ?_
  rintro e w1 ⟨r, rfl, hr, hF⟩
  obtain rfl : r = false := by cases r with | false => rfl | true => exact absurd (hr.1 rfl) HN.out
  have HF := Lib.hid (((Frm.refl [] w).alloc (.cells #[.slice a P.length cap, .slice a' T.length cap'] 58)).trans hF)
  clear hF hr
  go_wp2
  go_ret3
  exact ⟨rfl, HF.out⟩
set_option maxRecDepth 100000 in
theorem made_ok (hx : RowAt w b1 v P) (hy : RowAt w b2 u T) (hs : tSmall P T 8) (n : Int) (hn : U8 n) : Calls Try.prog 28 #[.agg #[v, u], .int .u8 n] w fun e w' => ∃ lb sb bb ab wb, e = .returned (.tuple #[.pointer (some ⟨ab, 0, none⟩), .pointer (some ⟨lb, 0, none⟩), .bool true]) ∧
      w.heap.size ≤ lb ∧ w.heap.size ≤ sb ∧ w.heap.size ≤ bb ∧ w.heap.size ≤ ab ∧ w.heap.size ≤ wb ∧
      MLk w' lb sb bb ab wb 1 (3 + 2 * T.length) T.length (n % 4) ⟨{ AR.fresh 4096 with taken := 4 + 3 * T.length }, ⟨0, 0, 0, 0⟩, 0, fun _ _ => 0⟩ ∧
      MInv 1 (3 + 2 * T.length) T.length ⟨{ AR.fresh 4096 with taken := 4 + 3 * T.length }, ⟨0, 0, 0, 0⟩, 0, fun _ _ => 0⟩ ∧ Frm [] w w' := by
  have HS := Lib.hid (fun (W : World) (hf : Frm [] w W) => Small_any W (hx.frm hf (by simp)) (hy.frm hf (by simp)) 8)
  have HN := Lib.hid hs
  have hl := hs.2
  have HNW := Lib.hid (fun (W : World) (hf : Frm [] w W) (ab wb : Nat) (hA : ArAt W ab wb (AR.fresh 4096)) => mNew_ok (bud := n % 4) hA (hx.frm hf (by simp)) (hy.frm hf (by simp)) hs.1 (by omega) (by show 0 + (4 + 3 * T.length) ≤ (List.replicate 4096 (0 : Int)).length; rw [List.length_replicate]; omega)
    (fun i _ => by
      unfold AR.get
      split
      · show ((List.replicate 4096 (0 : Int))[i.toNat - 1]?).getD 0 = 0
        rw [List.getElem?_replicate]; split <;> rfl
      · rfl) (by show 0 ≤ 3000; omega))
  obtain ⟨a, cap, rfl, -, -⟩ := hx
  obtain ⟨a', cap', rfl, -, -⟩ := hy
  have n0 : 0 ≤ n := hn.1
  have n1 : n ≤ 255 := hn.2
  clear hs hn
  go_enter Try.func28, Try.ntmps28
  go_wp2_with fail
  refine (HS.out _ ((Frm.refl _ _).alloc _)).mono ?_
  rintro e w1 ⟨r, rfl, hr, hF⟩
  obtain rfl : r = true := hr.2 HN.out
  have HF := Lib.hid (((Frm.refl [] w).alloc (.cells #[.slice a P.length cap, .slice a' T.length cap'] 58)).trans hF)
  have g := (HAt.new w #[.slice a P.length cap, .slice a' T.length cap'] 58).frm hF (by simp)
  have HG := Lib.hid g
  have hsz := HF.out.size
  clear hF hr g
  go_wp2_with fail
  refine (New_any 4096 _).mono ?_
  rintro e w2 ⟨rfl, hA, hF⟩
  have HF2 := Lib.hid (HF.out.trans hF)
  have g2 := HG.out.frm hF (by simp)
  have k0 := g2.cell (i := 0) rfl
  have k1 := g2.cell (i := 1) rfl
  have HQ := Lib.hid (HNW.out w2 HF2.out _ _ (show ArAt w2 (w1.heap.size + 1) w1.heap.size (AR.fresh 4096) from hA))
  clear hF hA g2
  go_wp2_with fail
  refine HQ.out.mono ?_
  rintro e w3 ⟨lb, sb, bb, rfl, hlb, hsb, hbb, hL, hM, hF⟩
  have HL := Lib.hid hL
  have HM := Lib.hid hM
  have hs2 := HF2.out.size
  have HF3 := Lib.hid (HF2.out.widen hF (by simp; omega))
  clear hL hM hF
  go_wp2
  go_ret3
  have e1 : (AR.fresh 4096).taken + (4 + 3 * T.length) = 4 + 3 * T.length := by show 0 + _ = _; omega
  have e2 : (AR.fresh 4096).taken + 1 + 2 + 2 * T.length = 3 + 2 * T.length := by show 0 + 1 + 2 + _ = _; omega
  have e3 : (AR.fresh 4096).taken + 1 = 1 := rfl
  have hL := HL.out
  have hM := HM.out
  rw [e1, e2, e3] at hL hM
  exact ⟨lb, sb, bb, _, _, rfl, by omega, by omega, by omega, by omega, by omega, hL, hM, HF3.out⟩
end
end Go.Proofs.Ytacogelejffbhaa
