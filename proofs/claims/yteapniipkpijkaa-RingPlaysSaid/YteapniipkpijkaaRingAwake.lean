/- The ring law's own check of what must come, whatever the arguments are: it returns true. -/
import Derived.Test.YteapniipkpijkaaRingLaw
import Derived.Test.YteapniipkpijkaaRingPush
import Derived.Test.YteapniipkpijkaaRingCut
import Derived.Test.YteapniipkpijkaaSame
namespace Go.Proofs.Yteapniipkpijkaa
open Go.RowKit

theorem is5 (x : Int) (W : World) : Calls Try.prog 38 #[.int .i64 x] W fun e w' => e = .returned (.bool (x == 5)) ∧ W = w' := by
  go_enter Try.func38, Try.ntmps38
  go_wp2
  go_ret
  exact ⟨rfl, rfl⟩
theorem zeroRing (w : World) : RingAt (w.alloc (.cells #[.slice none 0 0, .int .i64 0, .int .i64 0] 36)) w.heap.size (w.heap.size + 1) [] 0 [] :=
  { box := HAt.new w _ _, row := fun h => absurd h (by simp), ne := by omega, big := by simp, first := .inr ⟨rfl, rfl⟩, many := by simp, at_ := fun i h => absurd h (by simp) }
theorem HAt.rowAt {w : World} {b base : Nat} {zs : List Int} (h : HAt w b (zs.map (Value.int .i64)) 3) (hb : base ≤ b) (hl : zs.length ≤ maxLen) : RowAt w base (.slice (some ⟨b, 0, none⟩) zs.length zs.length) zs := by
  refine ⟨_, _, rfl, hl, fun _ => ⟨b, 0, hb, rfl, fun i hi => ?_⟩⟩
  rw [Nat.zero_add]
  refine h.cell ?_
  rw [List.getElem?_map, List.getElem?_eq_getElem hi]
  simp

set_option maxRecDepth 100000 in
set_option maxHeartbeats 4000000 in
theorem rawake (w : World) : Calls Try.prog 20 #[] w fun e w' => e = .returned (.bool true) ∧ Frm [] w w' := by
  go_enter Try.func20, Try.ntmps20
  go_wp2_with fail
  have hR := zeroRing w
  have HF1 : Hid (Frm [] w (w.alloc (.cells #[.slice none 0 0, .int .i64 0, .int .i64 0] 36))) := Lib.hid ((Frm.refl _ _).alloc _)
  refine (Push_any 3 hR (by simp)).mono ?_
  rintro e w1 ⟨rfl, lb1, cs1, f1, hR1, hF, ho⟩
  have hol1 : w.heap.size ≤ lb1 := by simp at ho; omega
  have hlb1 : lb1 < w1.heap.size := (hR1.row (by have := hR1.many; simp at this; omega)).lt
  have HF2 := Lib.hid (HF1.out.widen hF (by simp))
  have HR := Lib.hid hR1
  clear hR hR1 hF HF1
  go_wp2_with fail
  refine (Push_any 4 HR.out (by simp)).mono ?_
  rintro e w2 ⟨rfl, lb2, cs2, f2, hR2, hF, ho⟩
  have hlb2 : lb2 < w2.heap.size := (hR2.row (by have := hR2.many; simp at this; omega)).lt
  have hol2 : w.heap.size ≤ lb2 := by have := HF2.out.size; omega
  have HF3 := Lib.hid (HF2.out.widen hF (by simp; omega))
  have HR := Lib.hid hR2
  clear hR2 hF ho HF2
  go_wp2_with fail
  refine (Push_any 5 HR.out (by simp)).mono ?_
  rintro e w3 ⟨rfl, lb3, cs3, f3, hR3, hF, ho⟩
  have hlb3 : lb3 < w3.heap.size := (hR3.row (by have := hR3.many; simp at this; omega)).lt
  have hol3 : w.heap.size ≤ lb3 := by have := HF3.out.size; omega
  have HF4 := Lib.hid (HF3.out.widen hF (by simp; omega))
  have HR : Hid (RingAt w3 w.heap.size lb3 cs3 f3 [3, 4, 5]) := Lib.hid hR3
  clear hR3 hF ho HF3
  go_wp2_with fail
  refine (Cut_yes 1 HR.out (by simp)).mono ?_
  rintro e w4 ⟨rfl, cs4, f4, hR4, hF, hl4⟩
  have HF5 := Lib.hid (HF4.out.widen hF (by simp; omega))
  have HR : Hid (RingAt w4 w.heap.size lb3 cs4 f4 [3, 5]) := Lib.hid hR4
  have hlb4 : lb3 < w4.heap.size := by have := hF.size; omega
  clear hR4 hF HF4
  go_wp2_with fail
  refine (Pop_any HR.out).mono ?_
  rintro e w5 ⟨rfl, cs5, f5, hR5, hF, hl5⟩
  have HF6 := Lib.hid (HF5.out.widen hF (by simp; omega))
  have HR : Hid (RingAt w5 w.heap.size lb3 cs5 f5 [5]) := Lib.hid hR5
  have hlb5 : lb3 < w5.heap.size := by have := hF.size; omega
  clear hR5 hF HF5
  go_wp2_with fail
  refine (At_yes 0 HR.out (by simp)).mono ?_
  rintro e w6 ⟨rfl, kk, rfl⟩
  have HF7 := Lib.hid (HF6.out.drew kk)
  have HR := Lib.hid (HR.out.drew kk)
  have hlb6 : lb3 < (w5.drewN kk).heap.size := hlb5
  generalize w5.drewN kk = w6 at *
  clear hl4 hl5 hlb5 hlb4 hlb3 hlb2 hlb1 hol2 HF6
  go_wp2_with fail
  refine (Len_any HR.out).mono ?_
  rintro e w7 ⟨rfl, rfl⟩
  go_wp2_with fail
  refine (Find_of (seqR_some HR.out (by omega)) 38 #[] (fun x => x == 5) (enters_of Try.func38 (by kernel_rfl) rfl) (fun x W _ => is5 x W)).mono ?_
  rintro e w8 ⟨he, hF⟩
  obtain rfl : e = .returned (.int .i64 0) := he
  have HF8 := Lib.hid (HF7.out.trans hF)
  have HR8 := Lib.hid ({ HR.out with box := HR.out.box.frm hF (by simp), row := fun h => (HR.out.row h).frm hF (by simp) } : RingAt w8 w.heap.size lb3 cs5 f5 [5])
  have hlb8 : lb3 < w8.heap.size := by have := hF.size; omega
  clear hF HF7 HR hlb6
  go_wp2_with fail
  refine (all_of (seqR_some HR8.out (by omega)) (by simp) 9 (by omega) (by omega)).mono ?_
  rintro e w9 ⟨v, rfl, hO, hF⟩
  have HF9 := Lib.hid (HF8.out.trans hF)
  have HO : Hid (Own w9 w8.heap.size v [5]) := Lib.hid hO
  clear hO hF HF8 HR8
  go_wp2_with fail
  have hw : HAt (w9.alloc (.cells #[.int .i64 5] 3)) w9.heap.size ([(5 : Int)].map (Value.int .i64)) 3 := HAt.new _ _ _
  have hFa : Frm [] w9 (w9.alloc (.cells #[.int .i64 5] 3)) := (Frm.refl _ _).alloc _
  have HO2 := Lib.hid (HO.out.frm hFa (by simp))
  have HF10 := Lib.hid (HF9.out.trans hFa)
  have HW := Lib.hid (hw.rowAt (Nat.zero_le _) (by simp [maxLen]))
  clear hw hFa HF9 HO
  refine (Same_any _ HO2.out.row HW.out).mono ?_
  rintro e w10 ⟨he, n, rfl⟩
  obtain rfl : e = .returned (.bool true) := he
  go_wp2
  go_ret
  exact ⟨rfl, HF10.out.drew n⟩
end Go.Proofs.Yteapniipkpijkaa
