/- The malthus laws' own check of what must come, whatever the arguments are: it returns true. (Printed by gen_malawake.py.) -/
import Derived.Test.YtacogelejffbhaaMalNew
namespace Go.Proofs.Ytacogelejffbhaa
open Go.RowKit
theorem HAt.rowAt {w : World} {b base : Nat} {zs : List Int} (h : HAt w b (zs.map (Value.int .i64)) 3) (hb : base ≤ b) (hl : zs.length ≤ maxLen) : RowAt w base (.slice (some ⟨b, 0, none⟩) zs.length zs.length) zs := by
  refine ⟨_, _, rfl, hl, fun _ => ⟨b, 0, hb, rfl, fun i hi => ?_⟩⟩
  rw [Nat.zero_add]
  refine h.cell ?_
  rw [List.getElem?_map, List.getElem?_eq_getElem hi]
  simp
/-- spots from a list -/
def ofL (L : List (List Int)) : Nat → Nat → Int := fun i t => (L[i]?.getD [])[t]?.getD 0
theorem ofL_put (L : List (List Int)) (j t : Nat) (v : Int) (hj : j < L.length) (ht : t < (L[j]?.getD []).length) : spPut (ofL L) j t v = ofL (L.set j ((L[j]?.getD []).set t v)) := by
  funext i s
  unfold spPut ofL
  by_cases hi : i = j
  · subst hi
    rw [List.getElem?_set_self hj]
    simp only [Option.getD_some]
    by_cases hs : s = t
    · subst hs
      rw [if_pos (by simp), List.getElem?_set_self ht]
      rfl
    · rw [if_neg (by simp [hs]), List.getElem?_set_ne (fun h => hs h.symm)]
  · rw [if_neg (by simp [hi]), List.getElem?_set_ne (fun h => hi h.symm)]
theorem ofL_zero : (fun _ _ => 0 : Nat → Nat → Int) = ofL [[0, 0, 0, 0], [0, 0, 0, 0], [0, 0, 0, 0]] := by
  funext i t
  unfold ofL
  rcases i with _ | _ | _ | i <;> rcases t with _ | _ | _ | _ | t <;> simp
theorem mStepI_lit {m m' : MS} {i : Int} {j : Nat} {S1 : Nat → Nat → Int} {r : Int} (hi : (sHas 3 i, i.toNat) = (true, j)) (e : mGo 1 9 3 1 m j = (⟨m'.A, m'.B, m'.d, S1⟩, r)) (hS : spPut S1 j 0 r = m'.S) : mStepI 1 9 3 1 m i = m' := by
  have h1 : sHas 3 i = true := congrArg Prod.fst hi
  have h2 : i.toNat = j := congrArg Prod.snd hi
  unfold mStepI
  rw [h1, if_pos rfl, h2]
  unfold mStep
  rw [e]
  show (⟨m'.A, m'.B, m'.d, spPut S1 j 0 r⟩ : MS) = m'
  rw [hS]
theorem mBeg_lit {m m' : MS} {i fr tt : Int} {j : Nat} (hok : mBegOk 3 m i fr = true) (h0 : i.toNat = j) (h1 : m.A = m'.A) (h2 : m.B = m'.B) (h3 : m.d = m'.d) (hS : spPut m.S j 0 tt = m'.S) : mBeg 3 m i fr tt = m' := by
  unfold mBeg
  rw [hok, if_pos rfl, h0, hS, h1, h2, h3]
theorem mSt_0 {m : MS} {i : Int} : mSt 1 9 3 1 0 m i = (false, m) := rfl
theorem mSt_t {m m' : MS} {i : Int} {k : Nat} (h1 : mStepIR 1 9 3 1 m i = true) (h2 : mStepI 1 9 3 1 m i = m') : mSt 1 9 3 1 (k + 1) m i = (true, m') := by unfold mSt; rw [h1, if_pos rfl, h2]
theorem mSt_f {m m' : MS} {i : Int} {k : Nat} {r : Bool × MS} (h1 : mStepIR 1 9 3 1 m i = false) (h2 : mStepI 1 9 3 1 m i = m') (h3 : mSt 1 9 3 1 k m' i = r) : mSt 1 9 3 1 (k + 1) m i = r := by unfold mSt; rw [h1, if_neg (by simp), h2, h3]
theorem leaf_one : tLeaf [-1] 0 = true := by decide
theorem tok_one (T : List Int) (h1 : 1 ≤ T.length) (h2 : T.length ≤ 32) (h : ∀ t ∈ T, t = 0) : TOk [-1] T := by
  refine ⟨⟨by simp, by simp, h1, h2⟩, ⟨rfl, fun v h1 h2 => by simp at h2; omega⟩, fun v w hv hw _ _ => ?_, fun t ht => by rw [h t ht]; exact leaf_one⟩
  simp at hv hw
  subst hv hw
  exact ⟨rfl, by decide⟩
def awZ : List Int := List.replicate 86 0
def aw0 : MS := ⟨⟨[0, 0, 0, 0, 0, 0, 0, 0, 0, 0, 0, 0, 0] ++ awZ, 13, 0, 0, 0, false⟩, ⟨0, 0, 0, 0⟩, 0, ofL [[0, 0, 0, 0], [0, 0, 0, 0], [0, 0, 0, 0]]⟩
def aw1 : MS := ⟨⟨[0, 0, 0, 0, 0, 0, 0, 0, 0, 0, 0, 0, 0] ++ awZ, 13, 0, 0, 0, false⟩, ⟨0, 0, 0, 0⟩, 0, ofL [[1, 0, 0, 0], [0, 0, 0, 0], [0, 0, 0, 0]]⟩
def aw2 : MS := ⟨⟨[0, 0, 0, 0, 0, 0, 0, 0, 0, 0, 0, 0, 0] ++ awZ, 13, 1, 2, 3, true⟩, ⟨0, 0, 0, 0⟩, 0, ofL [[2, 0, 0, 0], [0, 0, 0, 0], [0, 0, 0, 0]]⟩
def aw3 : MS := ⟨⟨[0, 0, 0, 1, 0, 0, 0, 0, 0, 0, 0, 0, 0] ++ awZ, 13, 2, 2, 4, true⟩, ⟨0, 0, 0, 0⟩, 0, ofL [[3, 0, 0, 0], [0, 0, 0, 0], [0, 0, 0, 0]]⟩
def aw4 : MS := ⟨⟨[1, 0, 0, 1, 0, 0, 0, 0, 0, 0, 0, 0, 0] ++ awZ, 13, 3, 3, 1, true⟩, ⟨0, 0, 0, 0⟩, 0, ofL [[10, 0, 0, 0], [0, 0, 0, 0], [0, 0, 0, 0]]⟩
def aw5 : MS := ⟨⟨[1, 0, 0, 1, 0, 0, 0, 0, 0, 0, 0, 0, 0] ++ awZ, 13, 3, 3, 1, true⟩, ⟨0, 0, 0, 0⟩, 0, ofL [[10, 0, 0, 0], [1, 0, 0, 0], [0, 0, 0, 0]]⟩
def aw6 : MS := ⟨⟨[1, 0, 0, 1, 0, 0, 0, 0, 0, 0, 0, 0, 0] ++ awZ, 13, 4, 2, 5, true⟩, ⟨0, 0, 0, 0⟩, 0, ofL [[10, 0, 0, 0], [2, 0, 0, 0], [0, 0, 0, 0]]⟩
def aw7 : MS := ⟨⟨[1, 0, 0, 1, 0, 1, 0, 0, 0, 0, 0, 0, 0] ++ awZ, 13, 5, 2, 6, true⟩, ⟨0, 0, 0, 0⟩, 0, ofL [[10, 0, 0, 0], [3, 0, 0, 0], [0, 0, 0, 0]]⟩
def aw8 : MS := ⟨⟨[2, 0, 0, 1, 0, 1, 0, 0, 0, 0, 0, 0, 0] ++ awZ, 13, 6, 3, 1, true⟩, ⟨0, 0, 0, 0⟩, 0, ofL [[10, 0, 0, 0], [4, 1, 0, 0], [0, 0, 0, 0]]⟩
def aw9 : MS := ⟨⟨[2, 0, 2, 1, 0, 1, 0, 0, 0, 0, 0, 0, 0] ++ awZ, 13, 7, 2, 3, true⟩, ⟨0, 0, 0, 0⟩, 0, ofL [[10, 0, 0, 0], [5, 1, 0, 0], [0, 0, 0, 0]]⟩
def aw10 : MS := ⟨⟨[2, 0, 2, 1, 0, 1, 0, 0, 0, 0, 0, 0, 0] ++ awZ, 13, 8, 1, 6, false⟩, ⟨0, 0, 0, 0⟩, 0, ofL [[10, 0, 0, 0], [5, 1, 0, 0], [0, 0, 0, 0]]⟩
def aw11 : MS := ⟨⟨[2, 0, 2, 1, 0, 1, 0, 0, 0, 0, 0, 0, 0] ++ awZ, 13, 9, 1, 6, false⟩, ⟨0, 0, 0, 0⟩, 0, ofL [[10, 0, 0, 0], [5, 1, 0, 0], [0, 0, 0, 0]]⟩
def aw12 : MS := ⟨⟨[2, 0, 2, 1, 0, 1, 0, 0, 0, 0, 0, 0, 0] ++ awZ, 13, 9, 1, 6, false⟩, ⟨0, 0, 0, 0⟩, 0, ofL [[10, 0, 0, 0], [5, 1, 0, 0], [1, 0, 0, 0]]⟩
def aw13 : MS := ⟨⟨[2, 0, 2, 1, 0, 1, 0, 0, 0, 0, 0, 0, 0] ++ awZ, 13, 10, 2, 7, true⟩, ⟨0, 0, 0, 0⟩, 0, ofL [[10, 0, 0, 0], [5, 1, 0, 0], [2, 0, 0, 0]]⟩
def aw14 : MS := ⟨⟨[2, 0, 2, 1, 0, 1, 0, 1, 0, 0, 0, 0, 0] ++ awZ, 13, 11, 2, 8, true⟩, ⟨0, 0, 0, 0⟩, 0, ofL [[10, 0, 0, 0], [5, 1, 0, 0], [3, 0, 0, 0]]⟩
def aw15 : MS := ⟨⟨[3, 0, 2, 1, 0, 1, 0, 1, 0, 0, 0, 0, 0] ++ awZ, 13, 12, 3, 1, true⟩, ⟨0, 0, 0, 0⟩, 0, ofL [[10, 0, 0, 0], [5, 1, 0, 0], [4, 2, 0, 0]]⟩
def aw16 : MS := ⟨⟨[3, 0, 2, 1, 3, 1, 0, 1, 0, 0, 0, 0, 0] ++ awZ, 13, 13, 2, 5, true⟩, ⟨0, 0, 0, 0⟩, 0, ofL [[10, 0, 0, 0], [5, 1, 0, 0], [5, 2, 0, 0]]⟩
def aw17 : MS := ⟨⟨[3, 0, 2, 1, 3, 1, 0, 1, 0, 0, 0, 0, 0] ++ awZ, 13, 14, 1, 8, false⟩, ⟨0, 0, 0, 0⟩, 0, ofL [[10, 0, 0, 0], [5, 1, 0, 0], [5, 2, 0, 0]]⟩
def aw18 : MS := ⟨⟨[3, 0, 2, 1, 3, 1, 0, 1, 0, 0, 0, 0, 0] ++ awZ, 13, 15, 1, 8, false⟩, ⟨0, 0, 0, 0⟩, 0, ofL [[10, 0, 0, 0], [5, 1, 0, 0], [5, 2, 0, 0]]⟩
def aw19 : MS := ⟨⟨[3, 0, 2, 1, 3, 1, 0, 1, 0, 0, 0, 0, 0] ++ awZ, 13, 15, 1, 8, false⟩, ⟨0, 0, 0, 0⟩, 0, ofL [[11, 0, 0, 0], [5, 1, 0, 0], [5, 2, 0, 0]]⟩
def aw20 : MS := ⟨⟨[3, 1, 2, 1, 3, 1, 0, 1, 0, 0, 0, 0, 0] ++ awZ, 13, 16, 5, 2, true⟩, ⟨0, 0, 0, 0⟩, 0, ofL [[12, 0, 0, 1], [5, 1, 0, 0], [5, 2, 0, 0]]⟩
def aw21 : MS := ⟨⟨[3, 1, 2, 1, 3, 1, 0, 1, 0, 0, 0, 0, 0] ++ awZ, 13, 17, 1, 3, false⟩, ⟨0, 0, 0, 0⟩, 0, ofL [[21, 2, 0, 1], [5, 1, 0, 0], [5, 2, 0, 0]]⟩
def aw22 : MS := ⟨⟨[3, 1, 2, 1, 3, 1, 0, 1, 0, 0, 0, 0, 0] ++ awZ, 13, 18, 1, 5, false⟩, ⟨1, 2, 0, 0⟩, 3, ofL [[22, 2, 0, 1], [5, 1, 0, 0], [5, 2, 0, 0]]⟩
def aw23 : MS := ⟨⟨[3, 1, 2, 1, 3, 1, 0, 1, 0, 0, 0, 0, 0] ++ awZ, 13, 19, 2, 12, true⟩, ⟨2, 2, 0, 0⟩, 3, ofL [[22, 2, 0, 1], [5, 1, 0, 0], [5, 2, 0, 0]]⟩
def aw24 : MS := ⟨⟨[3, 1, 2, 1, 3, 1, 0, 1, 0, 0, 0, 0, 0] ++ awZ, 13, 20, 1, 10, false⟩, ⟨3, 2, 0, 0⟩, 3, ofL [[22, 2, 0, 1], [5, 1, 0, 0], [5, 2, 0, 0]]⟩
def aw25 : MS := ⟨⟨[3, 1, 2, 1, 3, 1, 0, 1, 2, 0, 0, 0, 0] ++ awZ, 13, 21, 2, 9, true⟩, ⟨4, 2, 0, 0⟩, 3, ofL [[22, 2, 0, 1], [5, 1, 0, 0], [5, 2, 0, 0]]⟩
def aw26 : MS := ⟨⟨[3, 1, 2, 1, 3, 1, 0, 1, 2, 2, 0, 0, 0] ++ awZ, 13, 22, 2, 10, true⟩, ⟨0, 2, 0, 0⟩, 3, ofL [[23, 2, 0, 1], [5, 1, 0, 0], [5, 2, 0, 0]]⟩
def aw27 : MS := ⟨⟨[3, 1, 2, 1, 3, 1, 0, 0, 2, 2, 0, 0, 0] ++ awZ, 13, 23, 2, 8, true⟩, ⟨0, 2, 0, 0⟩, 3, ofL [[0, 2, 0, 1], [5, 1, 0, 0], [5, 2, 0, 0]]⟩
def aw28 : MS := ⟨⟨[3, 1, 2, 1, 3, 1, 0, 0, 2, 2, 0, 0, 0] ++ awZ, 13, 24, 1, 6, false⟩, ⟨0, 2, 0, 0⟩, 3, ofL [[0, 2, 0, 1], [5, 1, 0, 0], [5, 2, 0, 0]]⟩
def aw29 : MS := ⟨⟨[3, 1, 2, 1, 3, 1, 0, 0, 2, 2, 0, 0, 0] ++ awZ, 13, 25, 1, 6, false⟩, ⟨0, 2, 0, 0⟩, 3, ofL [[0, 2, 0, 1], [5, 1, 0, 0], [5, 2, 0, 0]]⟩
def aw30 : MS := ⟨⟨[3, 1, 2, 1, 3, 1, 0, 0, 2, 2, 0, 0, 0] ++ awZ, 13, 26, 1, 6, false⟩, ⟨0, 2, 0, 0⟩, 3, ofL [[0, 2, 0, 1], [5, 1, 0, 0], [5, 2, 0, 0]]⟩
def aw31 : MS := ⟨⟨[3, 1, 2, 1, 3, 1, 0, 0, 2, 2, 0, 0, 0] ++ awZ, 13, 27, 1, 8, false⟩, ⟨0, 2, 0, 0⟩, 3, ofL [[0, 2, 0, 1], [5, 1, 0, 0], [10, 2, 0, 0]]⟩
def aw32 : MS := ⟨⟨[3, 1, 2, 1, 3, 1, 0, 0, 2, 2, 0, 0, 0] ++ awZ, 13, 27, 1, 8, false⟩, ⟨0, 2, 0, 0⟩, 3, ofL [[0, 2, 0, 1], [5, 1, 0, 0], [11, 2, 0, 0]]⟩
def aw33 : MS := ⟨⟨[3, 2, 2, 1, 3, 1, 0, 0, 2, 2, 0, 0, 0] ++ awZ, 13, 28, 5, 2, true⟩, ⟨0, 2, 0, 0⟩, 3, ofL [[0, 2, 0, 1], [5, 1, 0, 0], [12, 2, 0, 2]]⟩
def aw34 : MS := ⟨⟨[3, 2, 2, 1, 3, 1, 0, 0, 2, 2, 0, 0, 0] ++ awZ, 13, 29, 1, 7, false⟩, ⟨5, 1, 0, 0⟩, 3, ofL [[0, 2, 0, 1], [5, 1, 0, 0], [13, 0, 0, 2]]⟩
def aw35 : MS := ⟨⟨[3, 2, 2, 1, 3, 1, 0, 0, 2, 2, 0, 0, 0] ++ awZ, 13, 30, 1, 9, false⟩, ⟨6, 2, 0, 0⟩, 3, ofL [[0, 2, 0, 1], [5, 1, 0, 0], [13, 0, 0, 2]]⟩
def aw36 : MS := ⟨⟨[3, 2, 2, 1, 3, 1, 0, 0, 2, 2, 0, 0, 0] ++ awZ, 13, 31, 1, 12, false⟩, ⟨7, 2, 0, 0⟩, 3, ofL [[0, 2, 0, 1], [5, 1, 0, 0], [13, 0, 0, 2]]⟩
def aw37 : MS := ⟨⟨[3, 2, 2, 1, 3, 1, 0, 0, 0, 2, 0, 0, 0] ++ awZ, 13, 32, 2, 9, true⟩, ⟨8, 2, 0, 0⟩, 3, ofL [[0, 2, 0, 1], [5, 1, 0, 0], [13, 0, 0, 2]]⟩
def aw38 : MS := ⟨⟨[3, 2, 2, 1, 3, 1, 0, 0, 0, 0, 0, 0, 0] ++ awZ, 13, 33, 2, 10, true⟩, ⟨0, 2, 0, 2⟩, 3, ofL [[0, 2, 0, 1], [5, 1, 0, 0], [15, 0, 2, 2]]⟩
def aw39 : MS := ⟨⟨[3, 2, 2, 1, 0, 1, 0, 0, 0, 0, 0, 0, 0] ++ awZ, 13, 34, 2, 5, true⟩, ⟨0, 2, 0, 2⟩, 3, ofL [[0, 2, 0, 1], [5, 1, 0, 0], [16, 0, 2, 2]]⟩
def aw40 : MS := ⟨⟨[2, 2, 2, 1, 0, 1, 0, 0, 0, 0, 0, 0, 0] ++ awZ, 13, 35, 4, 1, true⟩, ⟨0, 2, 0, 2⟩, 3, ofL [[0, 2, 0, 1], [5, 1, 0, 0], [18, 0, 2, 2]]⟩
def aw41 : MS := ⟨⟨[2, 2, 2, 1, 0, 0, 0, 0, 0, 0, 0, 0, 0] ++ awZ, 13, 36, 2, 6, true⟩, ⟨0, 2, 0, 2⟩, 3, ofL [[0, 2, 0, 1], [5, 1, 0, 0], [0, 0, 2, 2]]⟩
def aw42 : MS := ⟨⟨[2, 2, 2, 1, 0, 0, 0, 0, 0, 0, 0, 0, 0] ++ awZ, 13, 37, 1, 6, false⟩, ⟨0, 2, 0, 2⟩, 3, ofL [[0, 2, 0, 1], [10, 1, 0, 0], [0, 0, 2, 2]]⟩
def aw43 : MS := ⟨⟨[2, 2, 2, 1, 0, 0, 0, 0, 0, 0, 0, 0, 0] ++ awZ, 13, 37, 1, 6, false⟩, ⟨0, 2, 0, 2⟩, 3, ofL [[0, 2, 0, 1], [11, 1, 0, 0], [0, 0, 2, 2]]⟩
def aw44 : MS := ⟨⟨[2, 3, 2, 1, 0, 0, 0, 0, 0, 0, 0, 0, 0] ++ awZ, 13, 38, 5, 2, true⟩, ⟨0, 2, 0, 2⟩, 3, ofL [[0, 2, 0, 1], [12, 1, 0, 3], [0, 0, 2, 2]]⟩
def aw45 : MS := ⟨⟨[2, 3, 2, 1, 0, 0, 0, 0, 0, 0, 0, 0, 0] ++ awZ, 13, 39, 1, 5, false⟩, ⟨5, 1, 0, 2⟩, 3, ofL [[0, 2, 0, 1], [13, 0, 0, 3], [0, 0, 2, 2]]⟩
def aw46 : MS := ⟨⟨[2, 3, 2, 1, 0, 0, 0, 0, 0, 0, 0, 0, 0] ++ awZ, 13, 40, 1, 9, false⟩, ⟨0, 0, 0, 0⟩, 3, ofL [[0, 2, 0, 1], [19, 0, 0, 3], [0, 0, 2, 2]]⟩
def aw47 : MS := ⟨⟨[0, 3, 2, 1, 0, 0, 0, 0, 0, 0, 0, 0, 0] ++ awZ, 13, 41, 4, 1, true⟩, ⟨0, 0, 0, 0⟩, 3, ofL [[0, 2, 0, 1], [0, 0, 0, 3], [0, 0, 2, 2]]⟩
theorem awb0 : mBegOk 3 aw0 0 0 = true := by kernel_rfl
theorem aws0 : mBeg 3 aw0 0 0 1 = aw1 := by
  refine mBeg_lit (j := 0) awb0 rfl rfl rfl rfl ?_
  rw [show aw0.S = ofL [[0, 0, 0, 0], [0, 0, 0, 0], [0, 0, 0, 0]] from rfl, ofL_put _ _ _ _ (by decide) (by decide)]
  rfl
theorem aws1 : mStepI 1 9 3 1 aw1 0 = aw2 := by
  refine mStepI_lit (j := 0) (S1 := ofL [[1, 0, 0, 0], [0, 0, 0, 0], [0, 0, 0, 0]]) (r := 2) (by kernel_rfl) (by kernel_rfl) ?_
  rw [ofL_put _ _ _ _ (by decide) (by decide)]
  rfl
theorem awr1 : mStepIR 1 9 3 1 aw1 0 = false := by kernel_rfl
theorem aws2 : mStepI 1 9 3 1 aw2 0 = aw3 := by
  refine mStepI_lit (j := 0) (S1 := ofL [[2, 0, 0, 0], [0, 0, 0, 0], [0, 0, 0, 0]]) (r := 3) (by kernel_rfl) (by kernel_rfl) ?_
  rw [ofL_put _ _ _ _ (by decide) (by decide)]
  rfl
theorem awr2 : mStepIR 1 9 3 1 aw2 0 = false := by kernel_rfl
theorem aws3 : mStepI 1 9 3 1 aw3 0 = aw4 := by
  refine mStepI_lit (j := 0) (S1 := spPut (ofL [[3, 0, 0, 0], [0, 0, 0, 0], [0, 0, 0, 0]]) 0 1 (0)) (r := 10) (by kernel_rfl) (by kernel_rfl) ?_
  rw [ofL_put _ _ _ _ (by decide) (by decide), ofL_put _ _ _ _ (by decide) (by decide)]
  rfl
theorem awr3 : mStepIR 1 9 3 1 aw3 0 = true := by kernel_rfl
theorem awt1 : mSt 1 9 3 1 3 aw1 0 = (true, aw4) := mSt_f awr1 aws1 (mSt_f awr2 aws2 (mSt_t awr3 aws3))
theorem awb4 : mBegOk 3 aw4 1 0 = true := by kernel_rfl
theorem aws4 : mBeg 3 aw4 1 0 1 = aw5 := by
  refine mBeg_lit (j := 1) awb4 rfl rfl rfl rfl ?_
  rw [show aw4.S = ofL [[10, 0, 0, 0], [0, 0, 0, 0], [0, 0, 0, 0]] from rfl, ofL_put _ _ _ _ (by decide) (by decide)]
  rfl
theorem aws5 : mStepI 1 9 3 1 aw5 1 = aw6 := by
  refine mStepI_lit (j := 1) (S1 := ofL [[10, 0, 0, 0], [1, 0, 0, 0], [0, 0, 0, 0]]) (r := 2) (by kernel_rfl) (by kernel_rfl) ?_
  rw [ofL_put _ _ _ _ (by decide) (by decide)]
  rfl
theorem awr5 : mStepIR 1 9 3 1 aw5 1 = false := by kernel_rfl
theorem aws6 : mStepI 1 9 3 1 aw6 1 = aw7 := by
  refine mStepI_lit (j := 1) (S1 := ofL [[10, 0, 0, 0], [2, 0, 0, 0], [0, 0, 0, 0]]) (r := 3) (by kernel_rfl) (by kernel_rfl) ?_
  rw [ofL_put _ _ _ _ (by decide) (by decide)]
  rfl
theorem awr6 : mStepIR 1 9 3 1 aw6 1 = false := by kernel_rfl
theorem aws7 : mStepI 1 9 3 1 aw7 1 = aw8 := by
  refine mStepI_lit (j := 1) (S1 := spPut (ofL [[10, 0, 0, 0], [3, 0, 0, 0], [0, 0, 0, 0]]) 1 1 (1)) (r := 4) (by kernel_rfl) (by kernel_rfl) ?_
  rw [ofL_put _ _ _ _ (by decide) (by decide), ofL_put _ _ _ _ (by decide) (by decide)]
  rfl
theorem awr7 : mStepIR 1 9 3 1 aw7 1 = false := by kernel_rfl
theorem aws8 : mStepI 1 9 3 1 aw8 1 = aw9 := by
  refine mStepI_lit (j := 1) (S1 := ofL [[10, 0, 0, 0], [4, 1, 0, 0], [0, 0, 0, 0]]) (r := 5) (by kernel_rfl) (by kernel_rfl) ?_
  rw [ofL_put _ _ _ _ (by decide) (by decide)]
  rfl
theorem awr8 : mStepIR 1 9 3 1 aw8 1 = false := by kernel_rfl
theorem aws9 : mStepI 1 9 3 1 aw9 1 = aw10 := by
  refine mStepI_lit (j := 1) (S1 := ofL [[10, 0, 0, 0], [5, 1, 0, 0], [0, 0, 0, 0]]) (r := 5) (by kernel_rfl) (by kernel_rfl) ?_
  rw [ofL_put _ _ _ _ (by decide) (by decide)]
  rfl
theorem awr9 : mStepIR 1 9 3 1 aw9 1 = false := by kernel_rfl
theorem aws10 : mStepI 1 9 3 1 aw10 1 = aw11 := by
  refine mStepI_lit (j := 1) (S1 := ofL [[10, 0, 0, 0], [5, 1, 0, 0], [0, 0, 0, 0]]) (r := 5) (by kernel_rfl) (by kernel_rfl) ?_
  rw [ofL_put _ _ _ _ (by decide) (by decide)]
  rfl
theorem awr10 : mStepIR 1 9 3 1 aw10 1 = false := by kernel_rfl
theorem awt5 : mSt 1 9 3 1 6 aw5 1 = (false, aw11) := mSt_f awr5 aws5 (mSt_f awr6 aws6 (mSt_f awr7 aws7 (mSt_f awr8 aws8 (mSt_f awr9 aws9 (mSt_f awr10 aws10 (mSt_0))))))
theorem awb11 : mBegOk 3 aw11 2 0 = true := by kernel_rfl
theorem aws11 : mBeg 3 aw11 2 0 1 = aw12 := by
  refine mBeg_lit (j := 2) awb11 rfl rfl rfl rfl ?_
  rw [show aw11.S = ofL [[10, 0, 0, 0], [5, 1, 0, 0], [0, 0, 0, 0]] from rfl, ofL_put _ _ _ _ (by decide) (by decide)]
  rfl
theorem aws12 : mStepI 1 9 3 1 aw12 2 = aw13 := by
  refine mStepI_lit (j := 2) (S1 := ofL [[10, 0, 0, 0], [5, 1, 0, 0], [1, 0, 0, 0]]) (r := 2) (by kernel_rfl) (by kernel_rfl) ?_
  rw [ofL_put _ _ _ _ (by decide) (by decide)]
  rfl
theorem awr12 : mStepIR 1 9 3 1 aw12 2 = false := by kernel_rfl
theorem aws13 : mStepI 1 9 3 1 aw13 2 = aw14 := by
  refine mStepI_lit (j := 2) (S1 := ofL [[10, 0, 0, 0], [5, 1, 0, 0], [2, 0, 0, 0]]) (r := 3) (by kernel_rfl) (by kernel_rfl) ?_
  rw [ofL_put _ _ _ _ (by decide) (by decide)]
  rfl
theorem awr13 : mStepIR 1 9 3 1 aw13 2 = false := by kernel_rfl
theorem aws14 : mStepI 1 9 3 1 aw14 2 = aw15 := by
  refine mStepI_lit (j := 2) (S1 := spPut (ofL [[10, 0, 0, 0], [5, 1, 0, 0], [3, 0, 0, 0]]) 2 1 (2)) (r := 4) (by kernel_rfl) (by kernel_rfl) ?_
  rw [ofL_put _ _ _ _ (by decide) (by decide), ofL_put _ _ _ _ (by decide) (by decide)]
  rfl
theorem awr14 : mStepIR 1 9 3 1 aw14 2 = false := by kernel_rfl
theorem aws15 : mStepI 1 9 3 1 aw15 2 = aw16 := by
  refine mStepI_lit (j := 2) (S1 := ofL [[10, 0, 0, 0], [5, 1, 0, 0], [4, 2, 0, 0]]) (r := 5) (by kernel_rfl) (by kernel_rfl) ?_
  rw [ofL_put _ _ _ _ (by decide) (by decide)]
  rfl
theorem awr15 : mStepIR 1 9 3 1 aw15 2 = false := by kernel_rfl
theorem aws16 : mStepI 1 9 3 1 aw16 2 = aw17 := by
  refine mStepI_lit (j := 2) (S1 := ofL [[10, 0, 0, 0], [5, 1, 0, 0], [5, 2, 0, 0]]) (r := 5) (by kernel_rfl) (by kernel_rfl) ?_
  rw [ofL_put _ _ _ _ (by decide) (by decide)]
  rfl
theorem awr16 : mStepIR 1 9 3 1 aw16 2 = false := by kernel_rfl
theorem aws17 : mStepI 1 9 3 1 aw17 2 = aw18 := by
  refine mStepI_lit (j := 2) (S1 := ofL [[10, 0, 0, 0], [5, 1, 0, 0], [5, 2, 0, 0]]) (r := 5) (by kernel_rfl) (by kernel_rfl) ?_
  rw [ofL_put _ _ _ _ (by decide) (by decide)]
  rfl
theorem awr17 : mStepIR 1 9 3 1 aw17 2 = false := by kernel_rfl
theorem awt12 : mSt 1 9 3 1 6 aw12 2 = (false, aw18) := mSt_f awr12 aws12 (mSt_f awr13 aws13 (mSt_f awr14 aws14 (mSt_f awr15 aws15 (mSt_f awr16 aws16 (mSt_f awr17 aws17 (mSt_0))))))
theorem awb18 : mBegOk 3 aw18 0 10 = true := by kernel_rfl
theorem aws18 : mBeg 3 aw18 0 10 11 = aw19 := by
  refine mBeg_lit (j := 0) awb18 rfl rfl rfl rfl ?_
  rw [show aw18.S = ofL [[10, 0, 0, 0], [5, 1, 0, 0], [5, 2, 0, 0]] from rfl, ofL_put _ _ _ _ (by decide) (by decide)]
  rfl
theorem aws19 : mStepI 1 9 3 1 aw19 0 = aw20 := by
  refine mStepI_lit (j := 0) (S1 := spPut (ofL [[11, 0, 0, 0], [5, 1, 0, 0], [5, 2, 0, 0]]) 0 3 (1)) (r := 12) (by kernel_rfl) (by kernel_rfl) ?_
  rw [ofL_put _ _ _ _ (by decide) (by decide), ofL_put _ _ _ _ (by decide) (by decide)]
  rfl
theorem awr19 : mStepIR 1 9 3 1 aw19 0 = false := by kernel_rfl
theorem aws20 : mStepI 1 9 3 1 aw20 0 = aw21 := by
  refine mStepI_lit (j := 0) (S1 := spPut (ofL [[12, 0, 0, 1], [5, 1, 0, 0], [5, 2, 0, 0]]) 0 1 (2)) (r := 21) (by kernel_rfl) (by kernel_rfl) ?_
  rw [ofL_put _ _ _ _ (by decide) (by decide), ofL_put _ _ _ _ (by decide) (by decide)]
  rfl
theorem awr20 : mStepIR 1 9 3 1 aw20 0 = false := by kernel_rfl
theorem aws21 : mStepI 1 9 3 1 aw21 0 = aw22 := by
  refine mStepI_lit (j := 0) (S1 := ofL [[21, 2, 0, 1], [5, 1, 0, 0], [5, 2, 0, 0]]) (r := 22) (by kernel_rfl) (by kernel_rfl) ?_
  rw [ofL_put _ _ _ _ (by decide) (by decide)]
  rfl
theorem awr21 : mStepIR 1 9 3 1 aw21 0 = false := by kernel_rfl
theorem aws22 : mStepI 1 9 3 1 aw22 0 = aw23 := by
  refine mStepI_lit (j := 0) (S1 := ofL [[22, 2, 0, 1], [5, 1, 0, 0], [5, 2, 0, 0]]) (r := 22) (by kernel_rfl) (by kernel_rfl) ?_
  rw [ofL_put _ _ _ _ (by decide) (by decide)]
  rfl
theorem awr22 : mStepIR 1 9 3 1 aw22 0 = false := by kernel_rfl
theorem aws23 : mStepI 1 9 3 1 aw23 0 = aw24 := by
  refine mStepI_lit (j := 0) (S1 := ofL [[22, 2, 0, 1], [5, 1, 0, 0], [5, 2, 0, 0]]) (r := 22) (by kernel_rfl) (by kernel_rfl) ?_
  rw [ofL_put _ _ _ _ (by decide) (by decide)]
  rfl
theorem awr23 : mStepIR 1 9 3 1 aw23 0 = false := by kernel_rfl
theorem aws24 : mStepI 1 9 3 1 aw24 0 = aw25 := by
  refine mStepI_lit (j := 0) (S1 := ofL [[22, 2, 0, 1], [5, 1, 0, 0], [5, 2, 0, 0]]) (r := 22) (by kernel_rfl) (by kernel_rfl) ?_
  rw [ofL_put _ _ _ _ (by decide) (by decide)]
  rfl
theorem awr24 : mStepIR 1 9 3 1 aw24 0 = false := by kernel_rfl
theorem aws25 : mStepI 1 9 3 1 aw25 0 = aw26 := by
  refine mStepI_lit (j := 0) (S1 := ofL [[22, 2, 0, 1], [5, 1, 0, 0], [5, 2, 0, 0]]) (r := 23) (by kernel_rfl) (by kernel_rfl) ?_
  rw [ofL_put _ _ _ _ (by decide) (by decide)]
  rfl
theorem awr25 : mStepIR 1 9 3 1 aw25 0 = false := by kernel_rfl
theorem aws26 : mStepI 1 9 3 1 aw26 0 = aw27 := by
  refine mStepI_lit (j := 0) (S1 := ofL [[23, 2, 0, 1], [5, 1, 0, 0], [5, 2, 0, 0]]) (r := 0) (by kernel_rfl) (by kernel_rfl) ?_
  rw [ofL_put _ _ _ _ (by decide) (by decide)]
  rfl
theorem awr26 : mStepIR 1 9 3 1 aw26 0 = true := by kernel_rfl
theorem awt19 : mSt 1 9 3 1 8 aw19 0 = (true, aw27) := mSt_f awr19 aws19 (mSt_f awr20 aws20 (mSt_f awr21 aws21 (mSt_f awr22 aws22 (mSt_f awr23 aws23 (mSt_f awr24 aws24 (mSt_f awr25 aws25 (mSt_t awr26 aws26)))))))
theorem aws27 : mStepI 1 9 3 1 aw27 1 = aw28 := by
  refine mStepI_lit (j := 1) (S1 := ofL [[0, 2, 0, 1], [5, 1, 0, 0], [5, 2, 0, 0]]) (r := 5) (by kernel_rfl) (by kernel_rfl) ?_
  rw [ofL_put _ _ _ _ (by decide) (by decide)]
  rfl
theorem awr27 : mStepIR 1 9 3 1 aw27 1 = false := by kernel_rfl
theorem aws28 : mStepI 1 9 3 1 aw28 1 = aw29 := by
  refine mStepI_lit (j := 1) (S1 := ofL [[0, 2, 0, 1], [5, 1, 0, 0], [5, 2, 0, 0]]) (r := 5) (by kernel_rfl) (by kernel_rfl) ?_
  rw [ofL_put _ _ _ _ (by decide) (by decide)]
  rfl
theorem awr28 : mStepIR 1 9 3 1 aw28 1 = false := by kernel_rfl
theorem aws29 : mStepI 1 9 3 1 aw29 1 = aw30 := by
  refine mStepI_lit (j := 1) (S1 := ofL [[0, 2, 0, 1], [5, 1, 0, 0], [5, 2, 0, 0]]) (r := 5) (by kernel_rfl) (by kernel_rfl) ?_
  rw [ofL_put _ _ _ _ (by decide) (by decide)]
  rfl
theorem awr29 : mStepIR 1 9 3 1 aw29 1 = false := by kernel_rfl
theorem awt27 : mSt 1 9 3 1 3 aw27 1 = (false, aw30) := mSt_f awr27 aws27 (mSt_f awr28 aws28 (mSt_f awr29 aws29 (mSt_0)))
theorem aws30 : mStepI 1 9 3 1 aw30 2 = aw31 := by
  refine mStepI_lit (j := 2) (S1 := ofL [[0, 2, 0, 1], [5, 1, 0, 0], [5, 2, 0, 0]]) (r := 10) (by kernel_rfl) (by kernel_rfl) ?_
  rw [ofL_put _ _ _ _ (by decide) (by decide)]
  rfl
theorem awr30 : mStepIR 1 9 3 1 aw30 2 = true := by kernel_rfl
theorem awt30 : mSt 1 9 3 1 1 aw30 2 = (true, aw31) := mSt_t awr30 aws30
theorem awb31 : mBegOk 3 aw31 2 10 = true := by kernel_rfl
theorem aws31 : mBeg 3 aw31 2 10 11 = aw32 := by
  refine mBeg_lit (j := 2) awb31 rfl rfl rfl rfl ?_
  rw [show aw31.S = ofL [[0, 2, 0, 1], [5, 1, 0, 0], [10, 2, 0, 0]] from rfl, ofL_put _ _ _ _ (by decide) (by decide)]
  rfl
theorem aws32 : mStepI 1 9 3 1 aw32 2 = aw33 := by
  refine mStepI_lit (j := 2) (S1 := spPut (ofL [[0, 2, 0, 1], [5, 1, 0, 0], [11, 2, 0, 0]]) 2 3 (2)) (r := 12) (by kernel_rfl) (by kernel_rfl) ?_
  rw [ofL_put _ _ _ _ (by decide) (by decide), ofL_put _ _ _ _ (by decide) (by decide)]
  rfl
theorem awr32 : mStepIR 1 9 3 1 aw32 2 = false := by kernel_rfl
theorem aws33 : mStepI 1 9 3 1 aw33 2 = aw34 := by
  refine mStepI_lit (j := 2) (S1 := spPut (ofL [[0, 2, 0, 1], [5, 1, 0, 0], [12, 2, 0, 2]]) 2 1 (0)) (r := 13) (by kernel_rfl) (by kernel_rfl) ?_
  rw [ofL_put _ _ _ _ (by decide) (by decide), ofL_put _ _ _ _ (by decide) (by decide)]
  rfl
theorem awr33 : mStepIR 1 9 3 1 aw33 2 = false := by kernel_rfl
theorem aws34 : mStepI 1 9 3 1 aw34 2 = aw35 := by
  refine mStepI_lit (j := 2) (S1 := ofL [[0, 2, 0, 1], [5, 1, 0, 0], [13, 0, 0, 2]]) (r := 13) (by kernel_rfl) (by kernel_rfl) ?_
  rw [ofL_put _ _ _ _ (by decide) (by decide)]
  rfl
theorem awr34 : mStepIR 1 9 3 1 aw34 2 = false := by kernel_rfl
theorem aws35 : mStepI 1 9 3 1 aw35 2 = aw36 := by
  refine mStepI_lit (j := 2) (S1 := ofL [[0, 2, 0, 1], [5, 1, 0, 0], [13, 0, 0, 2]]) (r := 13) (by kernel_rfl) (by kernel_rfl) ?_
  rw [ofL_put _ _ _ _ (by decide) (by decide)]
  rfl
theorem awr35 : mStepIR 1 9 3 1 aw35 2 = false := by kernel_rfl
theorem aws36 : mStepI 1 9 3 1 aw36 2 = aw37 := by
  refine mStepI_lit (j := 2) (S1 := ofL [[0, 2, 0, 1], [5, 1, 0, 0], [13, 0, 0, 2]]) (r := 13) (by kernel_rfl) (by kernel_rfl) ?_
  rw [ofL_put _ _ _ _ (by decide) (by decide)]
  rfl
theorem awr36 : mStepIR 1 9 3 1 aw36 2 = false := by kernel_rfl
theorem aws37 : mStepI 1 9 3 1 aw37 2 = aw38 := by
  refine mStepI_lit (j := 2) (S1 := spPut (ofL [[0, 2, 0, 1], [5, 1, 0, 0], [13, 0, 0, 2]]) 2 2 (2)) (r := 15) (by kernel_rfl) (by kernel_rfl) ?_
  rw [ofL_put _ _ _ _ (by decide) (by decide), ofL_put _ _ _ _ (by decide) (by decide)]
  rfl
theorem awr37 : mStepIR 1 9 3 1 aw37 2 = false := by kernel_rfl
theorem aws38 : mStepI 1 9 3 1 aw38 2 = aw39 := by
  refine mStepI_lit (j := 2) (S1 := ofL [[0, 2, 0, 1], [5, 1, 0, 0], [15, 0, 2, 2]]) (r := 16) (by kernel_rfl) (by kernel_rfl) ?_
  rw [ofL_put _ _ _ _ (by decide) (by decide)]
  rfl
theorem awr38 : mStepIR 1 9 3 1 aw38 2 = false := by kernel_rfl
theorem aws39 : mStepI 1 9 3 1 aw39 2 = aw40 := by
  refine mStepI_lit (j := 2) (S1 := ofL [[0, 2, 0, 1], [5, 1, 0, 0], [16, 0, 2, 2]]) (r := 18) (by kernel_rfl) (by kernel_rfl) ?_
  rw [ofL_put _ _ _ _ (by decide) (by decide)]
  rfl
theorem awr39 : mStepIR 1 9 3 1 aw39 2 = false := by kernel_rfl
theorem aws40 : mStepI 1 9 3 1 aw40 2 = aw41 := by
  refine mStepI_lit (j := 2) (S1 := ofL [[0, 2, 0, 1], [5, 1, 0, 0], [18, 0, 2, 2]]) (r := 0) (by kernel_rfl) (by kernel_rfl) ?_
  rw [ofL_put _ _ _ _ (by decide) (by decide)]
  rfl
theorem awr40 : mStepIR 1 9 3 1 aw40 2 = true := by kernel_rfl
theorem awt32 : mSt 1 9 3 1 9 aw32 2 = (true, aw41) := mSt_f awr32 aws32 (mSt_f awr33 aws33 (mSt_f awr34 aws34 (mSt_f awr35 aws35 (mSt_f awr36 aws36 (mSt_f awr37 aws37 (mSt_f awr38 aws38 (mSt_f awr39 aws39 (mSt_t awr40 aws40))))))))
theorem aws41 : mStepI 1 9 3 1 aw41 1 = aw42 := by
  refine mStepI_lit (j := 1) (S1 := ofL [[0, 2, 0, 1], [5, 1, 0, 0], [0, 0, 2, 2]]) (r := 10) (by kernel_rfl) (by kernel_rfl) ?_
  rw [ofL_put _ _ _ _ (by decide) (by decide)]
  rfl
theorem awr41 : mStepIR 1 9 3 1 aw41 1 = true := by kernel_rfl
theorem awt41 : mSt 1 9 3 1 1 aw41 1 = (true, aw42) := mSt_t awr41 aws41
theorem awb42 : mBegOk 3 aw42 1 10 = true := by kernel_rfl
theorem aws42 : mBeg 3 aw42 1 10 11 = aw43 := by
  refine mBeg_lit (j := 1) awb42 rfl rfl rfl rfl ?_
  rw [show aw42.S = ofL [[0, 2, 0, 1], [10, 1, 0, 0], [0, 0, 2, 2]] from rfl, ofL_put _ _ _ _ (by decide) (by decide)]
  rfl
theorem aws43 : mStepI 1 9 3 1 aw43 1 = aw44 := by
  refine mStepI_lit (j := 1) (S1 := spPut (ofL [[0, 2, 0, 1], [11, 1, 0, 0], [0, 0, 2, 2]]) 1 3 (3)) (r := 12) (by kernel_rfl) (by kernel_rfl) ?_
  rw [ofL_put _ _ _ _ (by decide) (by decide), ofL_put _ _ _ _ (by decide) (by decide)]
  rfl
theorem awr43 : mStepIR 1 9 3 1 aw43 1 = false := by kernel_rfl
theorem aws44 : mStepI 1 9 3 1 aw44 1 = aw45 := by
  refine mStepI_lit (j := 1) (S1 := spPut (ofL [[0, 2, 0, 1], [12, 1, 0, 3], [0, 0, 2, 2]]) 1 1 (0)) (r := 13) (by kernel_rfl) (by kernel_rfl) ?_
  rw [ofL_put _ _ _ _ (by decide) (by decide), ofL_put _ _ _ _ (by decide) (by decide)]
  rfl
theorem awr44 : mStepIR 1 9 3 1 aw44 1 = false := by kernel_rfl
theorem aws45 : mStepI 1 9 3 1 aw45 1 = aw46 := by
  refine mStepI_lit (j := 1) (S1 := spPut (ofL [[0, 2, 0, 1], [13, 0, 0, 3], [0, 0, 2, 2]]) 1 2 (0)) (r := 19) (by kernel_rfl) (by kernel_rfl) ?_
  rw [ofL_put _ _ _ _ (by decide) (by decide), ofL_put _ _ _ _ (by decide) (by decide)]
  rfl
theorem awr45 : mStepIR 1 9 3 1 aw45 1 = false := by kernel_rfl
theorem aws46 : mStepI 1 9 3 1 aw46 1 = aw47 := by
  refine mStepI_lit (j := 1) (S1 := ofL [[0, 2, 0, 1], [19, 0, 0, 3], [0, 0, 2, 2]]) (r := 0) (by kernel_rfl) (by kernel_rfl) ?_
  rw [ofL_put _ _ _ _ (by decide) (by decide)]
  rfl
theorem awr46 : mStepIR 1 9 3 1 aw46 1 = true := by kernel_rfl
theorem awt43 : mSt 1 9 3 1 4 aw43 1 = (true, aw47) := mSt_f awr43 aws43 (mSt_f awr44 aws44 (mSt_f awr45 aws45 (mSt_t awr46 aws46)))
end Go.Proofs.Ytacogelejffbhaa
