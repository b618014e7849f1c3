/- Flat locks of any kind: a contract for each method, whatever the kind is. (Printed by gen_flatlock.py.) -/
import Derived.Handy
import Derived.Test.YteijjhahgabalaaGreatQ17
import Derived.Test.YteijjhahgabalaaGreatQ16
namespace Go.Proofs.YteijjhahgabalaaGreat
open Go.RowKit

theorem HAt.apart {w : World} {b b' : Nat} {vs vs' : List Value} {T T' : TypeId} (h : HAt w b vs T) (h' : HAt w b' vs' T') (ht : T ≠ T') : b ≠ b' := by
  rintro rfl
  unfold HAt at h h'
  rw [h] at h'
  have := Option.some.inj h'
  injection this with _ h2
  exact ht h2
/-- a flat lock's make: its kind, how long it waits or how many places it has, its first word, its slots -/
structure FK where
  k : Nat
  p : Nat
  b : Nat
  n : Nat
def FK.size (K : FK) : Nat := if K.k = 1 then 1 else if K.k = 2 then 2 else if K.k = 3 then 1 + K.p else if K.k = 4 then 1 + 2 * K.n else K.n + 2
def fStepR (K : FK) (S : Nat → Nat → Int) (A : AR) (i : Int) : Bool := if K.k = 1 then tStepR K.n K.b S A i else if K.k = 2 then kStepR K.n K.b S A i else if K.k = 3 then pStepR K.n K.b K.p S A i else if K.k = 4 then cStepR K.n K.b S A i else hStepR K.n K.b S A i
def fStepS (K : FK) (S : Nat → Nat → Int) (A : AR) (i : Int) : Nat → Nat → Int := if K.k = 1 then tStepS K.n K.b K.p S A i else if K.k = 2 then kStepS K.n K.b S A i else if K.k = 3 then pStepS K.n K.b K.p S A i else if K.k = 4 then cStepS K.n K.b S A i else hStepS K.n K.b S A i
def fStepA (K : FK) (S : Nat → Nat → Int) (A : AR) (i : Int) : AR := if K.k = 1 then tStepA K.n K.b S A i else if K.k = 2 then kStepA K.n K.b S A i else if K.k = 3 then pStepA K.n K.b K.p S A i else if K.k = 4 then cStepA K.n K.b S A i else hStepA K.n K.b S A i
def fAlR (K : FK) (S : Nat → Nat → Int) (A : AR) (i : Int) : Bool := if K.k = 1 then kTurnOk K.n S i 10 else if K.k = 4 then cAlR K.n K.b S A i else if K.k = 5 then hAlR K.n K.b S A i else kAlR K.n K.b S A i
def fAlA (K : FK) (S : Nat → Nat → Int) (A : AR) (i : Int) : AR := if K.k = 1 then A else if K.k = 4 then cAlA K.n K.b S A i else if K.k = 5 then hAlA K.n K.b S A i else kAlA K.n K.b S A i
def fAsk (K : FK) (S : Nat → Nat → Int) (i : Int) : Nat → Nat → Int := if K.k = 1 then tAsk K.n S i else kTurn K.n S i 0 1
def fLeave (K : FK) (S : Nat → Nat → Int) (i : Int) : Nat → Nat → Int := kTurn K.n S i 10 11

/-- a flat lock in block fb: its lock in lb, its spots in sb, its arena in ab and wb -/
inductive FlAt (w : World) (fb lb sb ab wb : Nat) (A : AR) (S : Nat → Nat → Int) (K : FK) : Prop
  | tas (e : K.k = 1) (hb : HAt w fb [.int .i64 1, .iface 100 (.agg #[.pointer (some ⟨lb, 0, none⟩)])] 114) (h : LkAt w lb ab sb K.b K.n K.p S) (hA : ArAt w ab wb A) : FlAt w fb lb sb ab wb A S K
  | ticket (e : K.k = 2) (hb : HAt w fb [.int .i64 2, .iface 101 (.pointer (some ⟨lb, 0, none⟩))] 114) (h : KkAt w lb ab sb K.b K.n S) (hA : ArAt w ab wb A) : FlAt w fb lb sb ab wb A S K
  | parted (e : K.k = 3) (hb : HAt w fb [.int .i64 3, .iface 104 (.pointer (some ⟨lb, 0, none⟩))] 114) (h : PtAt w lb sb ab wb K.b K.p K.n A S) : FlAt w fb lb sb ab wb A S K
  | mcs (e : K.k = 4) (hb : HAt w fb [.int .i64 4, .iface 107 (.pointer (some ⟨lb, 0, none⟩))] 114) (h : McAt w lb sb ab wb K.b K.n A S) : FlAt w fb lb sb ab wb A S K
  | clh (X : Nat × List Value) (e : K.k = 5) (hb : HAt w fb [.int .i64 5, .iface 110 (.pointer (some ⟨lb, 0, none⟩))] 114) (h : ClAt w lb sb ab wb K.b K.n X A S) : FlAt w fb lb sb ab wb A S K
section
variable {w w' : World} {fb lb sb ab wb : Nat} {A A' : AR} {S : Nat → Nat → Int} {K : FK}
theorem FlAt.ar (h : FlAt w fb lb sb ab wb A S K) : ArAt w ab wb A := by
  cases h with
  | tas e hb h hA => exact hA
  | ticket e hb h hA => exact hA
  | parted e hb h => exact h.ar
  | mcs e hb h => exact h.ar
  | clh X e hb h => exact h.ar
/-- it stands, whatever else is done, and whatever the arena has become -/
theorem FlAt.re (h : FlAt w fb lb sb ab wb A S K) {Z : List Nat} (hf : Frm Z w w') (h1 : fb ∉ Z) (h2 : lb ∉ Z) (h3 : sb ∉ Z) (hA' : ArAt w' ab wb A') : FlAt w' fb lb sb ab wb A' S K := by
  cases h with
  | tas e hb h hA => exact .tas e (hb.frm hf h1) (h.frm hf h2 h3) hA'
  | ticket e hb h hA => exact .ticket e (hb.frm hf h1) (h.frm hf h2 h3) hA'
  | parted e hb h => exact .parted e (hb.frm hf h1) { h with box := h.box.frm hf h2, row := h.row.frm hf h3, ar := hA' }
  | mcs e hb h => exact .mcs e (hb.frm hf h1) { h with box := h.box.frm hf h2, row := h.row.frm hf h3, ar := hA' }
  | clh X e hb h => exact .clh X e (hb.frm hf h1) { h with box := h.box.frm hf h2, row := h.row.frm hf h3, ar := hA' }
theorem FlAt.frm (h : FlAt w fb lb sb ab wb A S K) {Z : List Nat} (hf : Frm Z w w') (hz : ∀ k ∈ [fb, lb, sb, ab, wb], k ∉ Z) : FlAt w' fb lb sb ab wb A S K :=
  h.re hf (hz _ (by simp)) (hz _ (by simp)) (hz _ (by simp)) (h.ar.frm hf (hz _ (by simp)) (hz _ (by simp)))
theorem FlAt.fbox (h : FlAt w fb lb sb ab wb A S K) : ∃ vs, HAt w fb vs 114 := by
  cases h with
  | tas e hb h hA => exact ⟨_, hb⟩
  | ticket e hb h hA => exact ⟨_, hb⟩
  | parted e hb h => exact ⟨_, hb⟩
  | mcs e hb h => exact ⟨_, hb⟩
  | clh X e hb h => exact ⟨_, hb⟩
theorem FlAt.srow (h : FlAt w fb lb sb ab wb A S K) : ∃ vs, HAt w sb vs 138 := by
  cases h with
  | tas e hb h hA => exact ⟨_, h.row⟩
  | ticket e hb h hA => exact ⟨_, h.row⟩
  | parted e hb h => exact ⟨_, h.row⟩
  | mcs e hb h => exact ⟨_, h.row⟩
  | clh X e hb h => exact ⟨_, h.row⟩
theorem FlAt.lbox (h : FlAt w fb lb sb ab wb A S K) : ∃ vs T, HAt w lb vs T ∧ T ≠ 138 ∧ T ≠ 93 ∧ T ≠ 158 ∧ T ≠ 114 ∧ T ≠ 201 ∧ T ≠ 203 ∧ T ≠ 136 ∧ T ≠ 3 := by
  cases h with
  | tas e hb h hA => exact ⟨_, _, h.box, by decide, by decide, by decide, by decide, by decide, by decide, by decide, by decide⟩
  | ticket e hb h hA => exact ⟨_, _, h.box, by decide, by decide, by decide, by decide, by decide, by decide, by decide, by decide⟩
  | parted e hb h => exact ⟨_, _, h.box, by decide, by decide, by decide, by decide, by decide, by decide, by decide, by decide⟩
  | mcs e hb h => exact ⟨_, _, h.box, by decide, by decide, by decide, by decide, by decide, by decide, by decide, by decide⟩
  | clh X e hb h => exact ⟨_, _, h.box, by decide, by decide, by decide, by decide, by decide, by decide, by decide, by decide⟩
/-- lb and sb lie apart from what the arena is in -/
theorem FlAt.apart (h : FlAt w fb lb sb ab wb A S K) : fb ≠ sb ∧ fb ≠ ab ∧ fb ≠ wb ∧ lb ≠ sb ∧ lb ≠ ab ∧ lb ≠ wb ∧ sb ≠ ab ∧ sb ≠ wb := by
  obtain ⟨_, h1⟩ := h.fbox
  obtain ⟨_, h2⟩ := h.srow
  obtain ⟨_, T, h3, t1, t2, t3, _⟩ := h.lbox
  have h4 := h.ar.box
  have h5 := h.ar.row
  exact ⟨h1.apart h2 (by decide), h1.apart h4 (by decide), h1.apart h5 (by decide), h3.apart h2 t1, h3.apart h4 t2, h3.apart h5 t3, h2.apart h4 (by decide), h2.apart h5 (by decide)⟩
theorem made_any {w : World} {fb : Nat} {k : Int} {v : Value} (hb : HAt w fb [.int .i64 k, v] 114) (hk : k ≠ 0) : Calls Tryz.prog 158 #[.pointer (some ⟨fb, 0, none⟩)] w fun e w' => e = .returned (.bool true) ∧ w = w' := by
  have c0 := hb.cell (i := 0) rfl
  have d1 : (k != 0) = true := by simpa using hk
  clear hb hk
  go_enter Tryz.func158, Tryz.ntmps158
  go_wp2
  go_ret
  exact ⟨rfl, rfl⟩
theorem fAsk_any (h : FlAt w fb lb sb ab wb A S K) (i : Int) : Calls Tryz.prog 153 #[.pointer (some ⟨fb, 0, none⟩), .int .i64 i] w fun e w' => e = .returned (.bool (kTurnOk K.n S i 0)) ∧ FlAt w' fb lb sb ab wb (A) (fAsk K S i) K ∧ Frm [sb] w w' := by
  have HN := Lib.hid h.apart
  cases h with
  | tas e hb h hA =>
    have c0 := hb.cell (i := 0) rfl
    have c1 := hb.cell (i := 1) rfl
    have HMD := Lib.hid (made_any hb (by omega))
    have HB := Lib.hid hb
    have HC := Lib.hid (lAsk_any h i)
    have HE := Lib.hid e
    have HA := Lib.hid hA
    unfold fAsk
    simp only [e, if_true]
    clear hb h e hA
    go_enter Tryz.func153, Tryz.ntmps153
    go_wp2_with fail
    refine HMD.out.mono ?_
    rintro e w' ⟨rfl, rfl⟩
    go_wp2_with (go_at_call 159; refine HC.out.mono ?_; rintro e w1 ⟨rfl, hK, hF⟩; have HK := Lib.hid (And.intro hK hF); clear hK hF)
    go_ret
    exact ⟨rfl, .tas HE.out (HB.out.frm HK.out.2 (by simp; have := HN.out; omega)) HK.out.1 (HA.out.frm HK.out.2 (by simp; have := HN.out; omega) (by simp; have := HN.out; omega)), HK.out.2⟩
  | ticket e hb h hA =>
    have c0 := hb.cell (i := 0) rfl
    have c1 := hb.cell (i := 1) rfl
    have HMD := Lib.hid (made_any hb (by omega))
    have HB := Lib.hid hb
    have HC := Lib.hid (kAsk_any h i)
    have HE := Lib.hid e
    have HA := Lib.hid hA
    unfold fAsk
    simp only [e, show ¬ (2 : Nat) = 1 from by decide, if_false]
    clear hb h e hA
    go_enter Tryz.func153, Tryz.ntmps153
    go_wp2_with fail
    refine HMD.out.mono ?_
    rintro e w' ⟨rfl, rfl⟩
    go_wp2_with (go_at_call 170; refine HC.out.mono ?_; rintro e w1 ⟨rfl, hK, hF⟩; have HK := Lib.hid (And.intro hK hF); clear hK hF)
    go_ret
    exact ⟨rfl, .ticket HE.out (HB.out.frm HK.out.2 (by simp; have := HN.out; omega)) HK.out.1 (HA.out.frm HK.out.2 (by simp; have := HN.out; omega) (by simp; have := HN.out; omega)), HK.out.2⟩
  | parted e hb h =>
    have c0 := hb.cell (i := 0) rfl
    have c1 := hb.cell (i := 1) rfl
    have HMD := Lib.hid (made_any hb (by omega))
    have HB := Lib.hid hb
    have HC := Lib.hid (pAsk_any h i)
    have HE := Lib.hid e
    unfold fAsk
    simp only [e, show ¬ (3 : Nat) = 1 from by decide, if_false]
    clear hb h e
    go_enter Tryz.func153, Tryz.ntmps153
    go_wp2_with fail
    refine HMD.out.mono ?_
    rintro e w' ⟨rfl, rfl⟩
    go_wp2_with (go_at_call 185; refine HC.out.mono ?_; rintro e w1 ⟨rfl, hK, hF⟩; have HK := Lib.hid (And.intro hK hF); clear hK hF)
    go_ret
    exact ⟨rfl, .parted HE.out (HB.out.frm HK.out.2 (by simp; have := HN.out; omega)) HK.out.1, HK.out.2⟩
  | mcs e hb h =>
    have c0 := hb.cell (i := 0) rfl
    have c1 := hb.cell (i := 1) rfl
    have HMD := Lib.hid (made_any hb (by omega))
    have HB := Lib.hid hb
    have HC := Lib.hid (cAsk_any h i)
    have HE := Lib.hid e
    unfold fAsk
    simp only [e, show ¬ (4 : Nat) = 1 from by decide, if_false]
    clear hb h e
    go_enter Tryz.func153, Tryz.ntmps153
    go_wp2_with fail
    refine HMD.out.mono ?_
    rintro e w' ⟨rfl, rfl⟩
    go_wp2_with (go_at_call 195; refine HC.out.mono ?_; rintro e w1 ⟨rfl, hK, hF⟩; have HK := Lib.hid (And.intro hK hF); clear hK hF)
    go_ret
    exact ⟨rfl, .mcs HE.out (HB.out.frm HK.out.2 (by simp; have := HN.out; omega)) HK.out.1, HK.out.2⟩
  | clh X e hb h =>
    have c0 := hb.cell (i := 0) rfl
    have c1 := hb.cell (i := 1) rfl
    have HMD := Lib.hid (made_any hb (by omega))
    have HB := Lib.hid hb
    have HC := Lib.hid (hAsk_any h i)
    have HE := Lib.hid e
    unfold fAsk
    simp only [e, show ¬ (5 : Nat) = 1 from by decide, if_false]
    clear hb h e
    go_enter Tryz.func153, Tryz.ntmps153
    go_wp2_with fail
    refine HMD.out.mono ?_
    rintro e w' ⟨rfl, rfl⟩
    go_wp2_with (go_at_call 211; refine HC.out.mono ?_; rintro e w1 ⟨rfl, hK, hF⟩; have HK := Lib.hid (And.intro hK hF); clear hK hF)
    go_ret
    exact ⟨rfl, .clh X HE.out (HB.out.frm HK.out.2 (by simp; have := HN.out; omega)) HK.out.1, HK.out.2⟩
theorem fLeave_any (h : FlAt w fb lb sb ab wb A S K) (i : Int) : Calls Tryz.prog 155 #[.pointer (some ⟨fb, 0, none⟩), .int .i64 i] w fun e w' => e = .returned (.bool (kTurnOk K.n S i 10)) ∧ FlAt w' fb lb sb ab wb (A) (fLeave K S i) K ∧ Frm [sb] w w' := by
  have HN := Lib.hid h.apart
  cases h with
  | tas e hb h hA =>
    have c0 := hb.cell (i := 0) rfl
    have c1 := hb.cell (i := 1) rfl
    have HMD := Lib.hid (made_any hb (by omega))
    have HB := Lib.hid hb
    have HC := Lib.hid (lLeave_any h i)
    have HE := Lib.hid e
    have HA := Lib.hid hA
    unfold fLeave
    clear hb h e hA
    go_enter Tryz.func155, Tryz.ntmps155
    go_wp2_with fail
    refine HMD.out.mono ?_
    rintro e w' ⟨rfl, rfl⟩
    go_wp2_with (go_at_call 160; refine HC.out.mono ?_; rintro e w1 ⟨rfl, hK, hF⟩; have HK := Lib.hid (And.intro hK hF); clear hK hF)
    go_ret
    exact ⟨rfl, .tas HE.out (HB.out.frm HK.out.2 (by simp; have := HN.out; omega)) HK.out.1 (HA.out.frm HK.out.2 (by simp; have := HN.out; omega) (by simp; have := HN.out; omega)), HK.out.2⟩
  | ticket e hb h hA =>
    have c0 := hb.cell (i := 0) rfl
    have c1 := hb.cell (i := 1) rfl
    have HMD := Lib.hid (made_any hb (by omega))
    have HB := Lib.hid hb
    have HC := Lib.hid (kLeave_any h i)
    have HE := Lib.hid e
    have HA := Lib.hid hA
    unfold fLeave
    clear hb h e hA
    go_enter Tryz.func155, Tryz.ntmps155
    go_wp2_with fail
    refine HMD.out.mono ?_
    rintro e w' ⟨rfl, rfl⟩
    go_wp2_with (go_at_call 171; refine HC.out.mono ?_; rintro e w1 ⟨rfl, hK, hF⟩; have HK := Lib.hid (And.intro hK hF); clear hK hF)
    go_ret
    exact ⟨rfl, .ticket HE.out (HB.out.frm HK.out.2 (by simp; have := HN.out; omega)) HK.out.1 (HA.out.frm HK.out.2 (by simp; have := HN.out; omega) (by simp; have := HN.out; omega)), HK.out.2⟩
  | parted e hb h =>
    have c0 := hb.cell (i := 0) rfl
    have c1 := hb.cell (i := 1) rfl
    have HMD := Lib.hid (made_any hb (by omega))
    have HB := Lib.hid hb
    have HC := Lib.hid (pLeave_any h i)
    have HE := Lib.hid e
    unfold fLeave
    clear hb h e
    go_enter Tryz.func155, Tryz.ntmps155
    go_wp2_with fail
    refine HMD.out.mono ?_
    rintro e w' ⟨rfl, rfl⟩
    go_wp2_with (go_at_call 186; refine HC.out.mono ?_; rintro e w1 ⟨rfl, hK, hF⟩; have HK := Lib.hid (And.intro hK hF); clear hK hF)
    go_ret
    exact ⟨rfl, .parted HE.out (HB.out.frm HK.out.2 (by simp; have := HN.out; omega)) HK.out.1, HK.out.2⟩
  | mcs e hb h =>
    have c0 := hb.cell (i := 0) rfl
    have c1 := hb.cell (i := 1) rfl
    have HMD := Lib.hid (made_any hb (by omega))
    have HB := Lib.hid hb
    have HC := Lib.hid (cLeave_any h i)
    have HE := Lib.hid e
    unfold fLeave
    clear hb h e
    go_enter Tryz.func155, Tryz.ntmps155
    go_wp2_with fail
    refine HMD.out.mono ?_
    rintro e w' ⟨rfl, rfl⟩
    go_wp2_with (go_at_call 196; refine HC.out.mono ?_; rintro e w1 ⟨rfl, hK, hF⟩; have HK := Lib.hid (And.intro hK hF); clear hK hF)
    go_ret
    exact ⟨rfl, .mcs HE.out (HB.out.frm HK.out.2 (by simp; have := HN.out; omega)) HK.out.1, HK.out.2⟩
  | clh X e hb h =>
    have c0 := hb.cell (i := 0) rfl
    have c1 := hb.cell (i := 1) rfl
    have HMD := Lib.hid (made_any hb (by omega))
    have HB := Lib.hid hb
    have HC := Lib.hid (hLeave_any h i)
    have HE := Lib.hid e
    unfold fLeave
    clear hb h e
    go_enter Tryz.func155, Tryz.ntmps155
    go_wp2_with fail
    refine HMD.out.mono ?_
    rintro e w' ⟨rfl, rfl⟩
    go_wp2_with (go_at_call 212; refine HC.out.mono ?_; rintro e w1 ⟨rfl, hK, hF⟩; have HK := Lib.hid (And.intro hK hF); clear hK hF)
    go_ret
    exact ⟨rfl, .clh X HE.out (HB.out.frm HK.out.2 (by simp; have := HN.out; omega)) HK.out.1, HK.out.2⟩
theorem fStep_any (h : FlAt w fb lb sb ab wb A S K) (hp : K.k = 4 → CPc K.n S) (i : Int) : Calls Tryz.prog 157 #[.pointer (some ⟨fb, 0, none⟩), .int .i64 i] w fun e w' => e = .returned (.bool (fStepR K S A i)) ∧ FlAt w' fb lb sb ab wb (fStepA K S A i) (fStepS K S A i) K ∧ Frm [sb, ab, wb] w w' := by
  have HN := Lib.hid h.apart
  cases h with
  | tas e hb h hA =>
    have c0 := hb.cell (i := 0) rfl
    have c1 := hb.cell (i := 1) rfl
    have HMD := Lib.hid (made_any hb (by omega))
    have HB := Lib.hid hb
    have HC := Lib.hid (lStep_any h hA (by have := HN.out; omega) i)
    have HE := Lib.hid e
    have HA := Lib.hid hA
    unfold fStepR fStepS fStepA
    simp only [e, if_true]
    clear hb h e hA
    go_enter Tryz.func157, Tryz.ntmps157
    go_wp2_with fail
    refine HMD.out.mono ?_
    rintro e w' ⟨rfl, rfl⟩
    go_wp2_with (go_at_call 163; refine HC.out.mono ?_; rintro e w1 ⟨rfl, hK, hA, hF⟩; have HK := Lib.hid (And.intro hK (And.intro hA hF)); clear hK hA hF)
    go_ret
    exact ⟨rfl, .tas HE.out (HB.out.frm HK.out.2.2 (by simp; have := HN.out; omega)) HK.out.1 HK.out.2.1, HK.out.2.2⟩
  | ticket e hb h hA =>
    have c0 := hb.cell (i := 0) rfl
    have c1 := hb.cell (i := 1) rfl
    have HMD := Lib.hid (made_any hb (by omega))
    have HB := Lib.hid hb
    have HC := Lib.hid (kStep_any h hA (by have := HN.out; omega) i)
    have HE := Lib.hid e
    have HA := Lib.hid hA
    unfold fStepR fStepS fStepA
    simp only [e, if_true, show ¬ (2 : Nat) = 1 from by decide, if_false]
    clear hb h e hA
    go_enter Tryz.func157, Tryz.ntmps157
    go_wp2_with fail
    refine HMD.out.mono ?_
    rintro e w' ⟨rfl, rfl⟩
    go_wp2_with (go_at_call 174; refine HC.out.mono ?_; rintro e w1 ⟨rfl, hK, hA, hF⟩; have HK := Lib.hid (And.intro hK (And.intro hA hF)); clear hK hA hF)
    go_ret
    exact ⟨rfl, .ticket HE.out (HB.out.frm HK.out.2.2 (by simp; have := HN.out; omega)) HK.out.1 HK.out.2.1, HK.out.2.2⟩
  | parted e hb h =>
    have c0 := hb.cell (i := 0) rfl
    have c1 := hb.cell (i := 1) rfl
    have HMD := Lib.hid (made_any hb (by omega))
    have HB := Lib.hid hb
    have HC := Lib.hid (pStep_any h i)
    have HE := Lib.hid e
    unfold fStepR fStepS fStepA
    simp only [e, if_true, show ¬ (3 : Nat) = 1 from by decide, show ¬ (3 : Nat) = 2 from by decide, if_false]
    clear hb h e
    go_enter Tryz.func157, Tryz.ntmps157
    go_wp2_with fail
    refine HMD.out.mono ?_
    rintro e w' ⟨rfl, rfl⟩
    go_wp2_with (go_at_call 189; refine HC.out.mono ?_; rintro e w1 ⟨rfl, hK, hF⟩; have HK := Lib.hid (And.intro hK hF); clear hK hF)
    go_ret
    exact ⟨rfl, .parted HE.out (HB.out.frm HK.out.2 (by simp; have := HN.out; omega)) HK.out.1, HK.out.2⟩
  | mcs e hb h =>
    have c0 := hb.cell (i := 0) rfl
    have c1 := hb.cell (i := 1) rfl
    have HMD := Lib.hid (made_any hb (by omega))
    have HB := Lib.hid hb
    have HC := Lib.hid (cStep_any h (hp e) i)
    clear hp
    have HE := Lib.hid e
    unfold fStepR fStepS fStepA
    simp only [e, if_true, show ¬ (4 : Nat) = 1 from by decide, show ¬ (4 : Nat) = 2 from by decide, show ¬ (4 : Nat) = 3 from by decide, if_false]
    clear hb h e
    go_enter Tryz.func157, Tryz.ntmps157
    go_wp2_with fail
    refine HMD.out.mono ?_
    rintro e w' ⟨rfl, rfl⟩
    go_wp2_with (go_at_call 199; refine HC.out.mono ?_; rintro e w1 ⟨rfl, hK, hF⟩; have HK := Lib.hid (And.intro hK hF); clear hK hF)
    go_ret
    exact ⟨rfl, .mcs HE.out (HB.out.frm HK.out.2 (by simp; have := HN.out; omega)) HK.out.1, HK.out.2⟩
  | clh X e hb h =>
    have c0 := hb.cell (i := 0) rfl
    have c1 := hb.cell (i := 1) rfl
    have HMD := Lib.hid (made_any hb (by omega))
    have HB := Lib.hid hb
    have HC := Lib.hid (hStep_any h i)
    have HE := Lib.hid e
    unfold fStepR fStepS fStepA
    simp only [e, show ¬ (5 : Nat) = 1 from by decide, show ¬ (5 : Nat) = 2 from by decide, show ¬ (5 : Nat) = 3 from by decide, show ¬ (5 : Nat) = 4 from by decide, if_false]
    clear hb h e
    go_enter Tryz.func157, Tryz.ntmps157
    go_wp2_with fail
    refine HMD.out.mono ?_
    rintro e w' ⟨rfl, rfl⟩
    go_wp2_with (go_at_call 215; refine HC.out.mono ?_; rintro e w1 ⟨rfl, hK, hF⟩; have HK := Lib.hid (And.intro hK hF); clear hK hF)
    go_ret
    exact ⟨rfl, .clh X HE.out (HB.out.frm HK.out.2 (by simp; have := HN.out; omega)) HK.out.1, HK.out.2⟩
theorem loneAlone_any {n word : Nat} {most : Int} (h : LkAt w lb ab sb word n most S) (i : Int) : Calls Tryz.prog 168 #[.agg #[.pointer (some ⟨lb, 0, none⟩)], .int .i64 i] w fun e w' => e = .returned (.bool (kTurnOk n S i 10)) ∧ LkAt w' lb ab sb word n most S ∧ Frm [] w w' := by
  have hv : ∃ a b c p : Int, (p == 10) = kTurnOk n S i 10 ∧ spV n S i = .agg #[.int .i64 p, .int .i64 a, .int .i64 b, .int .i64 c] := by
    unfold spV kTurnOk
    by_cases hh : sHas n i = true
    · rw [if_pos hh, hh]; exact ⟨_, _, _, _, by simp [BEq.beq], rfl⟩
    · rw [if_neg hh]; exact ⟨0, 0, 0, 0, by simp at hh; rw [hh]; rfl, rfl⟩
  obtain ⟨a, b, c, p, p1, hr⟩ := hv
  have hS := fun (W : World) (hf : Frm [] w W) => lSpot_any (h.frm hf (by simp) (by simp)) i
  simp only [hr] at hS
  have HS := Lib.hid hS
  have fd := spotPcG
  have H := Lib.hid h
  have hF : Frm [] w (w.alloc (.cells #[.pointer (some ⟨lb, 0, none⟩)] 100)) := (Frm.refl _ _).alloc _
  generalize kTurnOk n S i 10 = q at *
  clear h hS hr
  go_enter Tryz.func168, Tryz.ntmps168
  go_wp2_with fail
  refine (HS.out _ hF).mono ?_
  rintro e w1 ⟨rfl, hF1⟩
  have HF := Lib.hid (hF.trans hF1)
  clear hF hF1
  go_wp2
  go_ret
  exact ⟨rfl, H.out.frm HF.out (by simp) (by simp), HF.out⟩
theorem fAlone_any (h : FlAt w fb lb sb ab wb A S K) (i : Int) : Calls Tryz.prog 230 #[.pointer (some ⟨fb, 0, none⟩), .int .i64 i] w fun e w' => e = .returned (.bool (fAlR K S A i)) ∧ FlAt w' fb lb sb ab wb (fAlA K S A i) (S) K ∧ Frm [sb, ab, wb] w w' := by
  have HN := Lib.hid h.apart
  cases h with
  | tas e hb h hA =>
    have c0 := hb.cell (i := 0) rfl
    have c1 := hb.cell (i := 1) rfl
    have HMD := Lib.hid (made_any hb (by omega))
    have HB := Lib.hid hb
    have HC := Lib.hid (loneAlone_any h i)
    have HE := Lib.hid e
    have HA := Lib.hid hA
    unfold fAlR fAlA
    simp only [e, if_true]
    clear hb h e hA
    go_enter Tryz.func230, Tryz.ntmps230
    go_wp2_with fail
    refine HMD.out.mono ?_
    rintro e w' ⟨rfl, rfl⟩
    go_wp2_with (go_at_call 168; refine HC.out.mono ?_; rintro e w1 ⟨rfl, hK, hF⟩; have HK := Lib.hid (And.intro hK hF); clear hK hF)
    go_ret
    exact ⟨rfl, .tas HE.out (HB.out.frm HK.out.2 (by simp)) HK.out.1 (HA.out.frm HK.out.2 (by simp) (by simp)), HK.out.2.mono (by simp)⟩
  | ticket e hb h hA =>
    have c0 := hb.cell (i := 0) rfl
    have c1 := hb.cell (i := 1) rfl
    have HMD := Lib.hid (made_any hb (by omega))
    have HB := Lib.hid hb
    have HC := Lib.hid (kAlone_any h hA (by have := HN.out; omega) i)
    have HE := Lib.hid e
    have HA := Lib.hid hA
    unfold fAlR fAlA
    simp only [e, show ¬ (2 : Nat) = 1 from by decide, show ¬ (2 : Nat) = 4 from by decide, show ¬ (2 : Nat) = 5 from by decide, if_false]
    clear hb h e hA
    go_enter Tryz.func230, Tryz.ntmps230
    go_wp2_with fail
    refine HMD.out.mono ?_
    rintro e w' ⟨rfl, rfl⟩
    go_wp2_with (go_at_call 169; refine HC.out.mono ?_; rintro e w1 ⟨rfl, hK, hA, hF⟩; have HK := Lib.hid (And.intro hK (And.intro hA hF)); clear hK hA hF)
    go_ret
    exact ⟨rfl, .ticket HE.out (HB.out.frm HK.out.2.2 (by simp; have := HN.out; omega)) HK.out.1 HK.out.2.1, HK.out.2.2⟩
  | parted e hb h =>
    have c0 := hb.cell (i := 0) rfl
    have c1 := hb.cell (i := 1) rfl
    have HMD := Lib.hid (made_any hb (by omega))
    have HB := Lib.hid hb
    have HC := Lib.hid (pAlone_any h i)
    have HE := Lib.hid e
    unfold fAlR fAlA
    simp only [e, show ¬ (3 : Nat) = 1 from by decide, show ¬ (3 : Nat) = 4 from by decide, show ¬ (3 : Nat) = 5 from by decide, if_false]
    clear hb h e
    go_enter Tryz.func230, Tryz.ntmps230
    go_wp2_with fail
    refine HMD.out.mono ?_
    rintro e w' ⟨rfl, rfl⟩
    go_wp2_with (go_at_call 184; refine HC.out.mono ?_; rintro e w1 ⟨rfl, hK, hF⟩; have HK := Lib.hid (And.intro hK hF); clear hK hF)
    go_ret
    exact ⟨rfl, .parted HE.out (HB.out.frm HK.out.2 (by simp; have := HN.out; omega)) HK.out.1, HK.out.2⟩
  | mcs e hb h =>
    have c0 := hb.cell (i := 0) rfl
    have c1 := hb.cell (i := 1) rfl
    have HMD := Lib.hid (made_any hb (by omega))
    have HB := Lib.hid hb
    have HC := Lib.hid (cAlone_any h i)
    have HE := Lib.hid e
    unfold fAlR fAlA
    simp only [e, if_true, show ¬ (4 : Nat) = 1 from by decide, if_false]
    clear hb h e
    go_enter Tryz.func230, Tryz.ntmps230
    go_wp2_with fail
    refine HMD.out.mono ?_
    rintro e w' ⟨rfl, rfl⟩
    go_wp2_with (go_at_call 194; refine HC.out.mono ?_; rintro e w1 ⟨rfl, hK, hF⟩; have HK := Lib.hid (And.intro hK hF); clear hK hF)
    go_ret
    exact ⟨rfl, .mcs HE.out (HB.out.frm HK.out.2 (by simp; have := HN.out; omega)) HK.out.1, HK.out.2⟩
  | clh X e hb h =>
    have c0 := hb.cell (i := 0) rfl
    have c1 := hb.cell (i := 1) rfl
    have HMD := Lib.hid (made_any hb (by omega))
    have HB := Lib.hid hb
    have HC := Lib.hid (hAlone_any h i)
    have HE := Lib.hid e
    unfold fAlR fAlA
    simp only [e, if_true, show ¬ (5 : Nat) = 1 from by decide, show ¬ (5 : Nat) = 4 from by decide, if_false]
    clear hb h e
    go_enter Tryz.func230, Tryz.ntmps230
    go_wp2_with fail
    refine HMD.out.mono ?_
    rintro e w' ⟨rfl, rfl⟩
    go_wp2_with (go_at_call 210; refine HC.out.mono ?_; rintro e w1 ⟨rfl, hK, hF⟩; have HK := Lib.hid (And.intro hK hF); clear hK hF)
    go_ret
    exact ⟨rfl, .clh X HE.out (HB.out.frm HK.out.2 (by simp; have := HN.out; omega)) HK.out.1, HK.out.2⟩
theorem fSpot_any (h : FlAt w fb lb sb ab wb A S K) (i : Int) : Calls Tryz.prog 156 #[.pointer (some ⟨fb, 0, none⟩), .int .i64 i] w fun e w' => e = .returned (spV K.n S i) ∧ Frm [] w w' := by
  obtain ⟨a, b, c, d, hv⟩ := spV_form K.n S i
  have hB : HAt (w.alloc (.cells #[.int .i64 0, .int .i64 0, .int .i64 0, .int .i64 0] 138)) w.heap.size [.int .i64 0, .int .i64 0, .int .i64 0, .int .i64 0] 138 := HAt.new w _ _
  have hF0 : Frm [] w (w.alloc (.cells #[.int .i64 0, .int .i64 0, .int .i64 0, .int .i64 0] 138)) := (Frm.refl _ _).alloc _
  have hfin : ∀ w1 : World, Frm [] (w.alloc (.cells #[.int .i64 0, .int .i64 0, .int .i64 0, .int .i64 0] 138)) w1 → HAt ((((w1.setCell ⟨w.heap.size, 0, none⟩ (.int .i64 a)).setCell ⟨w.heap.size, 1, none⟩ (.int .i64 b)).setCell ⟨w.heap.size, 2, none⟩ (.int .i64 c)).setCell ⟨w.heap.size, 3, none⟩ (.int .i64 d)) w.heap.size [.int .i64 a, .int .i64 b, .int .i64 c, .int .i64 d] 138 ∧ Frm [] w ((((w1.setCell ⟨w.heap.size, 0, none⟩ (.int .i64 a)).setCell ⟨w.heap.size, 1, none⟩ (.int .i64 b)).setCell ⟨w.heap.size, 2, none⟩ (.int .i64 c)).setCell ⟨w.heap.size, 3, none⟩ (.int .i64 d)) := fun w1 hF =>
    ⟨((((hB.frm hF (by simp)).set 0 (.int .i64 a)).set 1 (.int .i64 b)).set 2 (.int .i64 c)).set 3 (.int .i64 d), ((((hF0.trans hF).set ⟨w.heap.size, 0, none⟩ (.int .i64 a) (.inr (Nat.le_refl _))).set ⟨w.heap.size, 1, none⟩ (.int .i64 b) (.inr (Nat.le_refl _))).set ⟨w.heap.size, 2, none⟩ (.int .i64 c) (.inr (Nat.le_refl _))).set ⟨w.heap.size, 3, none⟩ (.int .i64 d) (.inr (Nat.le_refl _))⟩
  have HB0 := Lib.hid hB
  have HFIN := Lib.hid hfin
  clear hfin
  cases h with
  | tas e hb h hA =>
    have c0 := (hb.frm hF0 (by simp)).cell (i := 0) rfl
    have c1 := (hb.frm hF0 (by simp)).cell (i := 1) rfl
    have HMD := Lib.hid (made_any (hb.frm hF0 (by simp)) (by omega))
    have hnot : ∀ (x : Bool) (w : World), (Op.unary .not (.bool x)).run Tryz.prog w = .ok (.bool (!x)) w := fun _ _ => rfl
    have hS := lSpot_any (h.frm hF0 (by simp) (by simp)) i
    rw [hv] at hS ⊢
    have HS := Lib.hid hS
    clear hb h e hS hv hB hF0 hA
    go_enter Tryz.func156, Tryz.ntmps156
    go_wp2_with fail
    refine HMD.out.mono ?_
    rintro e w' ⟨rfl, rfl⟩
    go_wp2_with (go_at_call 162; refine HS.out.mono ?_; rintro e w1 ⟨rfl, hF⟩; have hB1 := HB0.out.frm hF (by simp); have b0 := hB1.cell (i := 0) rfl; have b1 := hB1.cell (i := 1) rfl; have b2 := hB1.cell (i := 2) rfl; have b3 := hB1.cell (i := 3) rfl; have bz := hB1.frozen; have hlt := hB1.lt; have HF := Lib.hid hF; clear hF hB1)
    have HW2 := Lib.hid (HFIN.out w1 HF.out)
    generalize (((w1.setCell ⟨w.heap.size, 0, none⟩ (.int .i64 a)).setCell ⟨w.heap.size, 1, none⟩ (.int .i64 b)).setCell ⟨w.heap.size, 2, none⟩ (.int .i64 c)).setCell ⟨w.heap.size, 3, none⟩ (.int .i64 d) = W2 at *
    have k0 := HW2.out.1.cell (i := 0) rfl
    have k1 := HW2.out.1.cell (i := 1) rfl
    have k2 := HW2.out.1.cell (i := 2) rfl
    have k3 := HW2.out.1.cell (i := 3) rfl
    exact bodyPost_ret (v := .agg #[.int .i64 a, .int .i64 b, .int .i64 c, .int .i64 d]) (by simp [results, Tryz.results156, go_sem, k0, k1, k2, k3]) rfl ⟨rfl, HW2.out.2⟩
  | ticket e hb h hA =>
    have c0 := (hb.frm hF0 (by simp)).cell (i := 0) rfl
    have c1 := (hb.frm hF0 (by simp)).cell (i := 1) rfl
    have HMD := Lib.hid (made_any (hb.frm hF0 (by simp)) (by omega))
    have hnot : ∀ (x : Bool) (w : World), (Op.unary .not (.bool x)).run Tryz.prog w = .ok (.bool (!x)) w := fun _ _ => rfl
    have hS := kSpot_any (h.frm hF0 (by simp) (by simp)) i
    rw [hv] at hS ⊢
    have HS := Lib.hid hS
    clear hb h e hS hv hB hF0 hA
    go_enter Tryz.func156, Tryz.ntmps156
    go_wp2_with fail
    refine HMD.out.mono ?_
    rintro e w' ⟨rfl, rfl⟩
    go_wp2_with (go_at_call 173; refine HS.out.mono ?_; rintro e w1 ⟨rfl, hF⟩; have hB1 := HB0.out.frm hF (by simp); have b0 := hB1.cell (i := 0) rfl; have b1 := hB1.cell (i := 1) rfl; have b2 := hB1.cell (i := 2) rfl; have b3 := hB1.cell (i := 3) rfl; have bz := hB1.frozen; have hlt := hB1.lt; have HF := Lib.hid hF; clear hF hB1)
    have HW2 := Lib.hid (HFIN.out w1 HF.out)
    generalize (((w1.setCell ⟨w.heap.size, 0, none⟩ (.int .i64 a)).setCell ⟨w.heap.size, 1, none⟩ (.int .i64 b)).setCell ⟨w.heap.size, 2, none⟩ (.int .i64 c)).setCell ⟨w.heap.size, 3, none⟩ (.int .i64 d) = W2 at *
    have k0 := HW2.out.1.cell (i := 0) rfl
    have k1 := HW2.out.1.cell (i := 1) rfl
    have k2 := HW2.out.1.cell (i := 2) rfl
    have k3 := HW2.out.1.cell (i := 3) rfl
    exact bodyPost_ret (v := .agg #[.int .i64 a, .int .i64 b, .int .i64 c, .int .i64 d]) (by simp [results, Tryz.results156, go_sem, k0, k1, k2, k3]) rfl ⟨rfl, HW2.out.2⟩
  | parted e hb h =>
    have c0 := (hb.frm hF0 (by simp)).cell (i := 0) rfl
    have c1 := (hb.frm hF0 (by simp)).cell (i := 1) rfl
    have HMD := Lib.hid (made_any (hb.frm hF0 (by simp)) (by omega))
    have hnot : ∀ (x : Bool) (w : World), (Op.unary .not (.bool x)).run Tryz.prog w = .ok (.bool (!x)) w := fun _ _ => rfl
    have hS := pSpot_any (h.frm hF0 (by simp)) i
    rw [hv] at hS ⊢
    have HS := Lib.hid hS
    clear hb h e hS hv hB hF0
    go_enter Tryz.func156, Tryz.ntmps156
    go_wp2_with fail
    refine HMD.out.mono ?_
    rintro e w' ⟨rfl, rfl⟩
    go_wp2_with (go_at_call 188; refine HS.out.mono ?_; rintro e w1 ⟨rfl, hF⟩; have hB1 := HB0.out.frm hF (by simp); have b0 := hB1.cell (i := 0) rfl; have b1 := hB1.cell (i := 1) rfl; have b2 := hB1.cell (i := 2) rfl; have b3 := hB1.cell (i := 3) rfl; have bz := hB1.frozen; have hlt := hB1.lt; have HF := Lib.hid hF; clear hF hB1)
    have HW2 := Lib.hid (HFIN.out w1 HF.out)
    generalize (((w1.setCell ⟨w.heap.size, 0, none⟩ (.int .i64 a)).setCell ⟨w.heap.size, 1, none⟩ (.int .i64 b)).setCell ⟨w.heap.size, 2, none⟩ (.int .i64 c)).setCell ⟨w.heap.size, 3, none⟩ (.int .i64 d) = W2 at *
    have k0 := HW2.out.1.cell (i := 0) rfl
    have k1 := HW2.out.1.cell (i := 1) rfl
    have k2 := HW2.out.1.cell (i := 2) rfl
    have k3 := HW2.out.1.cell (i := 3) rfl
    exact bodyPost_ret (v := .agg #[.int .i64 a, .int .i64 b, .int .i64 c, .int .i64 d]) (by simp [results, Tryz.results156, go_sem, k0, k1, k2, k3]) rfl ⟨rfl, HW2.out.2⟩
  | mcs e hb h =>
    have c0 := (hb.frm hF0 (by simp)).cell (i := 0) rfl
    have c1 := (hb.frm hF0 (by simp)).cell (i := 1) rfl
    have HMD := Lib.hid (made_any (hb.frm hF0 (by simp)) (by omega))
    have hnot : ∀ (x : Bool) (w : World), (Op.unary .not (.bool x)).run Tryz.prog w = .ok (.bool (!x)) w := fun _ _ => rfl
    have hS := cSpot_any (h.frm hF0 (by simp)) i
    rw [hv] at hS ⊢
    have HS := Lib.hid hS
    clear hb h e hS hv hB hF0
    go_enter Tryz.func156, Tryz.ntmps156
    go_wp2_with fail
    refine HMD.out.mono ?_
    rintro e w' ⟨rfl, rfl⟩
    go_wp2_with (go_at_call 198; refine HS.out.mono ?_; rintro e w1 ⟨rfl, hF⟩; have hB1 := HB0.out.frm hF (by simp); have b0 := hB1.cell (i := 0) rfl; have b1 := hB1.cell (i := 1) rfl; have b2 := hB1.cell (i := 2) rfl; have b3 := hB1.cell (i := 3) rfl; have bz := hB1.frozen; have hlt := hB1.lt; have HF := Lib.hid hF; clear hF hB1)
    have HW2 := Lib.hid (HFIN.out w1 HF.out)
    generalize (((w1.setCell ⟨w.heap.size, 0, none⟩ (.int .i64 a)).setCell ⟨w.heap.size, 1, none⟩ (.int .i64 b)).setCell ⟨w.heap.size, 2, none⟩ (.int .i64 c)).setCell ⟨w.heap.size, 3, none⟩ (.int .i64 d) = W2 at *
    have k0 := HW2.out.1.cell (i := 0) rfl
    have k1 := HW2.out.1.cell (i := 1) rfl
    have k2 := HW2.out.1.cell (i := 2) rfl
    have k3 := HW2.out.1.cell (i := 3) rfl
    exact bodyPost_ret (v := .agg #[.int .i64 a, .int .i64 b, .int .i64 c, .int .i64 d]) (by simp [results, Tryz.results156, go_sem, k0, k1, k2, k3]) rfl ⟨rfl, HW2.out.2⟩
  | clh X e hb h =>
    have c0 := (hb.frm hF0 (by simp)).cell (i := 0) rfl
    have c1 := (hb.frm hF0 (by simp)).cell (i := 1) rfl
    have HMD := Lib.hid (made_any (hb.frm hF0 (by simp)) (by omega))
    have hnot : ∀ (x : Bool) (w : World), (Op.unary .not (.bool x)).run Tryz.prog w = .ok (.bool (!x)) w := fun _ _ => rfl
    have hS := hSpot_any (h.frm hF0 (by simp)) i
    rw [hv] at hS ⊢
    have HS := Lib.hid hS
    clear hb h e hS hv hB hF0
    go_enter Tryz.func156, Tryz.ntmps156
    go_wp2_with fail
    refine HMD.out.mono ?_
    rintro e w' ⟨rfl, rfl⟩
    go_wp2_with (go_at_call 214; refine HS.out.mono ?_; rintro e w1 ⟨rfl, hF⟩; have hB1 := HB0.out.frm hF (by simp); have b0 := hB1.cell (i := 0) rfl; have b1 := hB1.cell (i := 1) rfl; have b2 := hB1.cell (i := 2) rfl; have b3 := hB1.cell (i := 3) rfl; have bz := hB1.frozen; have hlt := hB1.lt; have HF := Lib.hid hF; clear hF hB1)
    have HW2 := Lib.hid (HFIN.out w1 HF.out)
    generalize (((w1.setCell ⟨w.heap.size, 0, none⟩ (.int .i64 a)).setCell ⟨w.heap.size, 1, none⟩ (.int .i64 b)).setCell ⟨w.heap.size, 2, none⟩ (.int .i64 c)).setCell ⟨w.heap.size, 3, none⟩ (.int .i64 d) = W2 at *
    have k0 := HW2.out.1.cell (i := 0) rfl
    have k1 := HW2.out.1.cell (i := 1) rfl
    have k2 := HW2.out.1.cell (i := 2) rfl
    have k3 := HW2.out.1.cell (i := 3) rfl
    exact bodyPost_ret (v := .agg #[.int .i64 a, .int .i64 b, .int .i64 c, .int .i64 d]) (by simp [results, Tryz.results156, go_sem, k0, k1, k2, k3]) rfl ⟨rfl, HW2.out.2⟩
end
end Go.Proofs.YteijjhahgabalaaGreat

/- What is kept of a flat lock of any kind, whatever else is done in its arena: plain lemmas. -/
namespace Go.Proofs.YteijjhahgabalaaGreat
open Go.RowKit
/-- a make that may be -/
structure FK.Ok (K : FK) : Prop where
  k1 : 1 ≤ K.k
  k5 : K.k ≤ 5
  b1 : 1 ≤ K.b
  n1 : 1 ≤ K.n
  n32 : K.n ≤ 32
  p1 : 1 ≤ K.p
  p32 : K.p ≤ 32
/-- what is kept -/
def FI (K : FK) (S : Nat → Nat → Int) (A : AR) : Prop :=
  if K.k = 1 then TI K.b K.n S A else if K.k = 2 then KI K.b K.n S A else if K.k = 3 then ∃ V, PI K.b K.p K.n S A V else if K.k = 4 then ∃ Q o, MC K.n (cv K.b K.n A) S Q o else ∃ Q f, HI K.b K.n S A Q f
theorem FK.Ok.five {K : FK} (h : K.Ok) : K.k = 1 ∨ K.k = 2 ∨ K.k = 3 ∨ K.k = 4 ∨ K.k = 5 := by have := h.k1; have := h.k5; omega
section
variable {K : FK} {S : Nat → Nat → Int} {A B : AR}
theorem fi1 (e : K.k = 1) : FI K S A = TI K.b K.n S A := by unfold FI; rw [if_pos e]
theorem fi2 (e : K.k = 2) : FI K S A = KI K.b K.n S A := by unfold FI; rw [if_neg (by omega), if_pos e]
theorem fi3 (e : K.k = 3) : FI K S A = ∃ V, PI K.b K.p K.n S A V := by unfold FI; rw [if_neg (by omega), if_neg (by omega), if_pos e]
theorem fi4 (e : K.k = 4) : FI K S A = ∃ Q o, MC K.n (cv K.b K.n A) S Q o := by unfold FI; rw [if_neg (by omega), if_neg (by omega), if_neg (by omega), if_pos e]
theorem fi5 (e : K.k = 5) : FI K S A = ∃ Q f, HI K.b K.n S A Q f := by unfold FI; rw [if_neg (by omega), if_neg (by omega), if_neg (by omega), if_neg (by omega)]
theorem sz1 (e : K.k = 1) : K.size = 1 := by unfold FK.size; rw [if_pos e]
theorem sz2 (e : K.k = 2) : K.size = 2 := by unfold FK.size; rw [if_neg (by omega), if_pos e]
theorem sz3 (e : K.k = 3) : K.size = 1 + K.p := by unfold FK.size; rw [if_neg (by omega), if_neg (by omega), if_pos e]
theorem sz4 (e : K.k = 4) : K.size = 1 + 2 * K.n := by unfold FK.size; rw [if_neg (by omega), if_neg (by omega), if_neg (by omega), if_pos e]
theorem sz5 (e : K.k = 5) : K.size = K.n + 2 := by unfold FK.size; rw [if_neg (by omega), if_neg (by omega), if_neg (by omega), if_neg (by omega)]
theorem FI.frame (h : FI K S A) (hK : K.Ok) (hg : ∀ i : Int, (K.b : Int) ≤ i → i < (K.b : Int) + (K.size : Int) → B.get i = A.get i) (ho : A.ops ≤ B.ops) : FI K S B := by
  rcases hK.five with e | e | e | e | e
  · rw [fi1 e] at h ⊢; rw [sz1 e] at hg; exact h.frame hg
  · rw [fi2 e] at h ⊢; rw [sz2 e] at hg; exact h.frame hg ho
  · rw [fi3 e] at h ⊢; rw [sz3 e] at hg; obtain ⟨V, h⟩ := h; exact ⟨V, h.frame hK.p1 hg ho⟩
  · rw [fi4 e] at h ⊢; rw [sz4 e] at hg; rw [cv_frame hg]; exact h
  · rw [fi5 e] at h ⊢; rw [sz5 e] at hg; obtain ⟨Q, f, h⟩ := h; exact ⟨Q, f, h.frame hg⟩
theorem FI.cpc (h : FI K S A) (e : K.k = 4) : CPc K.n S := by
  rw [fi4 e] at h; obtain ⟨Q, o, h⟩ := h; exact h.pcs
theorem FI.one (h : FI K S A) (hK : K.Ok) {j k : Nat} (hj : j < K.n) (hk : k < K.n) (h1 : 10 ≤ S j 0) (h2 : 10 ≤ S k 0) : j = k := by
  rcases hK.five with e | e | e | e | e
  · rw [fi1 e] at h; exact h.one hj hk h1 h2
  · rw [fi2 e] at h; exact h.tk.one hj hk h1 h2
  · rw [fi3 e] at h; obtain ⟨V, h⟩ := h; exact h.tk.one hj hk h1 h2
  · rw [fi4 e] at h; obtain ⟨Q, o, h⟩ := h; exact h.one hj hk h1 h2
  · rw [fi5 e] at h; obtain ⟨Q, f, h⟩ := h; exact h.one hj hk h1 h2
theorem FI.step (h : FI K S A) (hK : K.Ok) (hf : A.Fit) (hl : A.ops < 1000000000) (hr : K.b + K.size ≤ A.taken + 1) {j : Nat} (hj : j < K.n) :
    FI K (fStepS K S A j) (fStepA K S A j) ∧ Op1 K.b K.size A (fStepA K S A j) ∧ (S j 0 = 1 → (fStepA K S A j).ops = A.ops + 1) ∧ StepOk S (fStepS K S A j) j (fStepR K S A j) := by
  rcases hK.five with e | e | e | e | e
  · rw [sz1 e] at hr
    unfold fStepS fStepA fStepR
    rw [fi1 e] at h ⊢; rw [sz1 e, if_pos e, if_pos e, if_pos e]
    exact h.step hf hl hK.b1 hr hj
  · rw [sz2 e] at hr
    unfold fStepS fStepA fStepR
    rw [fi2 e] at h ⊢; rw [sz2 e, if_neg (by omega), if_pos e, if_neg (by omega), if_pos e, if_neg (by omega), if_pos e]
    exact h.step hf hl hK.b1 hr hj
  · rw [sz3 e] at hr
    unfold fStepS fStepA fStepR
    rw [fi3 e] at h ⊢; rw [sz3 e, if_neg (by omega), if_neg (by omega), if_pos e, if_neg (by omega), if_neg (by omega), if_pos e, if_neg (by omega), if_neg (by omega), if_pos e]
    obtain ⟨V, h⟩ := h
    exact h.step hf hl hK.b1 ⟨hK.p1, hK.p32⟩ hr hj
  · rw [sz4 e] at hr
    unfold fStepS fStepA fStepR
    rw [fi4 e] at h ⊢; rw [sz4 e, if_neg (by omega), if_neg (by omega), if_neg (by omega), if_pos e, if_neg (by omega), if_neg (by omega), if_neg (by omega), if_pos e, if_neg (by omega), if_neg (by omega), if_neg (by omega), if_pos e]
    obtain ⟨Q, o, h⟩ := h
    exact h.step hf hl hK.b1 hK.n32 hr hj
  · rw [sz5 e] at hr
    unfold fStepS fStepA fStepR
    rw [fi5 e] at h ⊢; rw [sz5 e, if_neg (by omega), if_neg (by omega), if_neg (by omega), if_neg (by omega), if_neg (by omega), if_neg (by omega), if_neg (by omega), if_neg (by omega), if_neg (by omega), if_neg (by omega), if_neg (by omega), if_neg (by omega)]
    obtain ⟨Q, f, h⟩ := h
    exact h.step hf hl hK.b1 hK.n32 hr hj
theorem kTurn_nat {n : Nat} {S : Nat → Nat → Int} {j : Nat} (hj : j < n) {a b : Int} (h0 : S j 0 = a) : kTurn n S j a b = spPut S j 0 b := by
  unfold kTurn kTurnOk; rw [sHas_nat hj, Int.toNat_natCast, h0]; simp
/-- who asks at rest is at step 1 then; the others are where they were -/
theorem FI.ask (h : FI K S A) (hK : K.Ok) {j : Nat} (hj : j < K.n) (h0 : S j 0 = 0) : FI K (fAsk K S j) A ∧ fAsk K S j j 0 = 1 ∧ ∀ k, k ≠ j → fAsk K S j k 0 = S k 0 := by
  have hs : ∀ k, k ≠ j → spPut S j 0 1 k 0 = S k 0 := fun k hk => by rw [spat, if_neg (by simp [hk])]
  have he : spPut S j 0 1 j 0 = 1 := by rw [spat, if_pos (by simp)]
  rcases hK.five with e | e | e | e | e
  · unfold fAsk
    rw [fi1 e] at h ⊢; rw [if_pos e]
    have ok : tAskOk K.n S j = true := by unfold tAskOk; rw [sHas_nat hj, Int.toNat_natCast, h0]; rfl
    unfold tAsk
    rw [ok, if_pos rfl, Int.toNat_natCast]
    have hs : ∀ k, k ≠ j → spPut (spPut S j 0 1) j 1 1 k 0 = S k 0 := fun k hk => by rw [spat, if_neg (by simp [hk]), spat, if_neg (by simp [hk])]
    have he : spPut (spPut S j 0 1) j 1 1 j 0 = 1 := by rw [spat, if_neg (by simp), spat, if_pos (by simp)]
    exact ⟨h.turn j hs (by omega) (fun _ _ _ _ => rfl) (by omega), he, hs⟩
  all_goals
    unfold fAsk
    rw [if_neg (by omega), kTurn_nat hj h0]
    refine ⟨?_, he, hs⟩
  · rw [fi2 e] at h ⊢; exact ⟨h.tk.turn hj (by omega) (by omega) (by omega), h.no⟩
  · rw [fi3 e] at h ⊢; obtain ⟨V, h⟩ := h; exact ⟨V, { h with tk := h.tk.turn hj (by omega) (by omega) (by omega) }⟩
  · rw [fi4 e] at h ⊢; obtain ⟨Q, o, h⟩ := h; exact ⟨Q, o, h.ask hj h0⟩
  · rw [fi5 e] at h ⊢; obtain ⟨Q, f, h⟩ := h; exact ⟨Q, f, h.turn hj (by omega) (by omega) (by omega) rfl h.free (fun k hk _ hc => h.set k hk hc) (by omega)⟩
/-- who leaves is at step 11 then -/
theorem FI.leave (h : FI K S A) (hK : K.Ok) {j : Nat} (hj : j < K.n) (h0 : S j 0 = 10) : FI K (fLeave K S j) A ∧ fLeave K S j j 0 = 11 ∧ ∀ k, k ≠ j → fLeave K S j k 0 = S k 0 := by
  have hs : ∀ k, k ≠ j → spPut S j 0 11 k 0 = S k 0 := fun k hk => by rw [spat, if_neg (by simp [hk])]
  have he : spPut S j 0 11 j 0 = 11 := by rw [spat, if_pos (by simp)]
  unfold fLeave
  rw [kTurn_nat hj h0]
  refine ⟨?_, he, hs⟩
  rcases hK.five with e | e | e | e | e
  · rw [fi1 e] at h ⊢; exact h.turn j hs (by omega) (fun _ _ _ _ => rfl) (fun _ => h.own j hj (by omega))
  · rw [fi2 e] at h ⊢; exact ⟨h.tk.turn hj (by omega) (by omega) (fun _ => h.tk.top j hj (by omega)), h.no⟩
  · rw [fi3 e] at h ⊢; obtain ⟨V, h⟩ := h; exact ⟨V, { h with tk := h.tk.turn hj (by omega) (by omega) (fun _ => h.tk.top j hj (by omega)) }⟩
  · rw [fi4 e] at h ⊢; obtain ⟨Q, o, h⟩ := h; exact ⟨Q, some j, by obtain rfl := h.ownr j hj (by omega); exact h.leave hj h0⟩
  · rw [fi5 e] at h ⊢; obtain ⟨Q, f, h⟩ := h; exact ⟨Q, f, h.turn hj (by omega) (by omega) (fun _ => h.hold j hj (by omega)) rfl h.free (fun k hk _ hc => h.set k hk hc) (fun _ => h.set j hj (by omega))⟩
/-- to look whether one is alone is one op at most, of one's own words, and changes none -/
theorem FI.alone (_ : FI K S A) (hK : K.Ok) (hf : A.Fit) (hr : K.b + K.size ≤ A.taken + 1) {j : Nat} (hj : j < K.n) : Op1 K.b K.size A (fAlA K S A j) ∧ ∀ i, (fAlA K S A j).get i = A.get i := by
  have hl2 := hf.1; have hl3 := hf.2.1
  have key : ∀ x : Int, (K.b : Int) ≤ x → x < (K.b : Int) + (K.size : Int) → Op1 K.b K.size A (if kTurnOk K.n S j 10 then A.load x else A) ∧ ∀ i, (if kTurnOk K.n S j 10 then A.load x else A).get i = A.get i := by
    intro x h1 h2
    have := hK.b1
    split
    · exact ⟨(op_load hf (has_iff.2 (by omega)) h1 h2).1, fun i => get_load⟩
    · exact ⟨Op1.refl _ _ _, fun _ => rfl⟩
  unfold fAlA
  rcases hK.five with e | e | e | e | e
  · rw [if_pos e]; exact ⟨Op1.refl _ _ _, fun _ => rfl⟩
  · rw [if_neg (by omega), if_neg (by omega), if_neg (by omega)]; unfold kAlA; exact key _ (by omega) (by rw [sz2 e]; omega)
  · rw [if_neg (by omega), if_neg (by omega), if_neg (by omega)]; unfold kAlA; exact key _ (by omega) (by rw [sz3 e]; omega)
  · rw [sz4 e] at hr
    rw [if_neg (by omega), if_pos e]; unfold cAlA; rw [Int.toNat_natCast, cnext (by have := hK.b1; omega) hK.n32 hj]; exact key _ (by omega) (by rw [sz4 e]; omega)
  · rw [if_neg (by omega), if_neg (by omega), if_pos e]; unfold hAlA; exact key _ (by omega) (by rw [sz5 e]; omega)
end
end Go.Proofs.YteijjhahgabalaaGreat

/- The contract of flat.New, whatever the kind is. (Printed by gen_flatmk.py.) -/
namespace Go.Proofs.YteijjhahgabalaaGreat
open Go.RowKit
theorem takeE0 {A : AR} {m : Nat} {x : Int} (hm : A.taken + m ≤ A.ws.length) (hx : x = m) : A.takeE x = 0 := by
  subst hx; unfold AR.takeE; rw [if_neg (by omega), if_neg (by omega)]
theorem take_is {A : AR} {m : Nat} {x : Int} (hm : A.taken + m ≤ A.ws.length) (hx : x = m) : A.take x = { A with taken := A.taken + m } := by
  unfold AR.take; rw [if_pos (takeE0 hm hx)]; subst hx; rfl
/-- the spots, and the arena, of a new lock -/
def fS0 (K : FK) : Nat → Nat → Int := if K.k = 5 then hS0 else fun _ _ => 0
def fA0 (K : FK) (A : AR) : AR := if K.k = 3 then AR.store { A with taken := A.taken + K.size } (pPlace K.b K.p 0) 1 else if K.k = 5 then AR.store { A with taken := A.taken + K.size } K.b ((K.n : Int) + 1) else { A with taken := A.taken + K.size }
section
variable {w : World} {ab wb : Nat} {A : AR}
set_option maxHeartbeats 1000000 in
theorem fNew_ok (hA : ArAt w ab wb A) (K : FK) (hK : K.Ok) (hb : K.b = A.taken + 1) (hr : A.taken + K.size ≤ A.ws.length) :
    Calls Tryz.prog 31 #[.pointer (some ⟨ab, 0, none⟩), .int .i64 K.k, .int .i64 K.n, .int .i64 K.p] w fun e w' => ∃ fb lb sb, e = .returned (.tuple #[.pointer (some ⟨fb, 0, none⟩), .int .i64 0]) ∧ w.heap.size ≤ fb ∧ w.heap.size ≤ lb ∧ w.heap.size ≤ sb ∧
      FlAt w' fb lb sb ab wb (fA0 K A) (fS0 K) K ∧ Frm [ab, wb] w w' := by
  have hp1 := hK.p1
  have hp2 := hK.p32
  have hab := hA.box.lt
  have hwb := hA.row.lt
  rcases hK.five with e | e | e | e | e
  · have hS : fS0 K = fun _ _ => 0 := by unfold fS0; rw [if_neg (by omega)]
    have hA0 : fA0 K A = { A with taken := A.taken + 1 } := by unfold fA0; rw [if_neg (by omega), if_neg (by omega), sz1 e]
    rw [hS, hA0]
    have hC := lNew_ok (most := (K.p : Int)) hA K.n hK.n1 hK.n32 (by omega) (by omega) (takeE0 (m := 1) (by rw [sz1 e] at hr; omega) (by omega))
    rw [take_is (m := 1) (by rw [sz1 e] at hr; omega) (by omega)] at hC
    have HC := Lib.hid hC
    have HE := Lib.hid e
    have HBB := Lib.hid hb
    clear hC hS hA0 hA hr hb
    rw [e]
    clear e
    go_enter Tryz.func31, Tryz.ntmps31
    go_wp2_with (go_at_call 49; refine HC.out.mono ?_; rintro e w1 ⟨lb, sb, rfl, h1, h2, hL, hA2, hF⟩; have HL := Lib.hid (And.intro h1 (And.intro h2 (And.intro hL (And.intro hA2 hF)))); clear hL h1 h2 hF hA2)
    go_ret2
    have hx : Frm [] w1 (w1.alloc (.cells #[.int .i64 1, .iface 100 (.agg #[.pointer (some ⟨lb, 0, none⟩)])] 114)) := (Frm.refl _ _).alloc _
    have hn := HAt.new w1 #[.int .i64 1, .iface 100 (.agg #[.pointer (some ⟨lb, 0, none⟩)])] 114
    obtain ⟨h1, h2, hL, hA2, hF⟩ := HL.out
    rw [← HBB.out] at hL
    exact ⟨w1.heap.size, lb, sb, rfl, hF.size, h1, h2, .tas HE.out hn (hL.frm hx (by simp) (by simp)) (hA2.frm hx (by simp) (by simp)), hF.trans (hx.mono (by simp))⟩
  · have hS : fS0 K = fun _ _ => 0 := by unfold fS0; rw [if_neg (by omega)]
    have hA0 : fA0 K A = { A with taken := A.taken + 2 } := by unfold fA0; rw [if_neg (by omega), if_neg (by omega), sz2 e]
    rw [hS, hA0]
    have hC := kNew_ok hA K.n hK.n1 hK.n32 (takeE0 (m := 2) (by rw [sz2 e] at hr; omega) (by omega))
    rw [take_is (m := 2) (by rw [sz2 e] at hr; omega) (by omega)] at hC
    have HC := Lib.hid hC
    have HE := Lib.hid e
    have HBB := Lib.hid hb
    clear hC hS hA0 hA hr hb
    rw [e]
    clear e
    go_enter Tryz.func31, Tryz.ntmps31
    go_wp2_with (go_at_call 50; refine HC.out.mono ?_; rintro e w1 ⟨lb, sb, rfl, h1, h2, hL, hA2, hF⟩; have HL := Lib.hid (And.intro h1 (And.intro h2 (And.intro hL (And.intro hA2 hF)))); clear hL h1 h2 hF hA2)
    go_ret2
    have hx : Frm [] w1 (w1.alloc (.cells #[.int .i64 2, .iface 101 (.pointer (some ⟨lb, 0, none⟩))] 114)) := (Frm.refl _ _).alloc _
    have hn := HAt.new w1 #[.int .i64 2, .iface 101 (.pointer (some ⟨lb, 0, none⟩))] 114
    obtain ⟨h1, h2, hL, hA2, hF⟩ := HL.out
    rw [← HBB.out] at hL
    exact ⟨w1.heap.size, lb, sb, rfl, hF.size, h1, h2, .ticket HE.out hn (hL.frm hx (by simp) (by simp)) (hA2.frm hx (by simp) (by simp)), hF.trans (hx.mono (by simp))⟩
  · have hS : fS0 K = fun _ _ => 0 := by unfold fS0; rw [if_neg (by omega)]
    have hA0 : fA0 K A = AR.store { A with taken := A.taken + (1 + K.p) } (pPlace K.b K.p 0) 1 := by unfold fA0; rw [if_pos e, sz3 e]
    rw [hS, hA0]
    have hC := pNew_ok hA K.n K.p hK.n1 hK.n32 hK.p1 hK.p32 (takeE0 (m := 1 + K.p) (by rw [sz3 e] at hr; omega) (by omega))
    rw [take_is (m := 1 + K.p) (by rw [sz3 e] at hr; omega) (by omega)] at hC
    have HC := Lib.hid hC
    have HE := Lib.hid e
    have HBB := Lib.hid hb
    clear hC hS hA0 hA hr hb
    rw [e]
    clear e
    go_enter Tryz.func31, Tryz.ntmps31
    go_wp2_with (go_at_call 51; refine HC.out.mono ?_; rintro e w1 ⟨lb, sb, rfl, h1, h2, hL, hF⟩; have HL := Lib.hid (And.intro h1 (And.intro h2 (And.intro hL hF))); clear hL h1 h2 hF)
    go_ret2
    have hx : Frm [] w1 (w1.alloc (.cells #[.int .i64 3, .iface 104 (.pointer (some ⟨lb, 0, none⟩))] 114)) := (Frm.refl _ _).alloc _
    have hn := HAt.new w1 #[.int .i64 3, .iface 104 (.pointer (some ⟨lb, 0, none⟩))] 114
    obtain ⟨h1, h2, hL, hF⟩ := HL.out
    rw [← HBB.out] at hL
    exact ⟨w1.heap.size, lb, sb, rfl, hF.size, h1, h2, .parted HE.out hn (hL.frm hx (by simp)), hF.trans (hx.mono (by simp))⟩
  · have hS : fS0 K = fun _ _ => 0 := by unfold fS0; rw [if_neg (by omega)]
    have hA0 : fA0 K A = { A with taken := A.taken + (1 + 2 * K.n) } := by unfold fA0; rw [if_neg (by omega), if_neg (by omega), sz4 e]
    rw [hS, hA0]
    have hC := cNew_ok hA K.n hK.n1 hK.n32 (takeE0 (m := 1 + 2 * K.n) (by rw [sz4 e] at hr; omega) (by omega))
    rw [take_is (m := 1 + 2 * K.n) (by rw [sz4 e] at hr; omega) (by omega)] at hC
    have HC := Lib.hid hC
    have HE := Lib.hid e
    have HBB := Lib.hid hb
    clear hC hS hA0 hA hr hb
    rw [e]
    clear e
    go_enter Tryz.func31, Tryz.ntmps31
    go_wp2_with (go_at_call 52; refine HC.out.mono ?_; rintro e w1 ⟨lb, sb, rfl, h1, h2, hL, hF⟩; have HL := Lib.hid (And.intro h1 (And.intro h2 (And.intro hL hF))); clear hL h1 h2 hF)
    go_ret2
    have hx : Frm [] w1 (w1.alloc (.cells #[.int .i64 4, .iface 107 (.pointer (some ⟨lb, 0, none⟩))] 114)) := (Frm.refl _ _).alloc _
    have hn := HAt.new w1 #[.int .i64 4, .iface 107 (.pointer (some ⟨lb, 0, none⟩))] 114
    obtain ⟨h1, h2, hL, hF⟩ := HL.out
    rw [← HBB.out] at hL
    exact ⟨w1.heap.size, lb, sb, rfl, hF.size, h1, h2, .mcs HE.out hn (hL.frm hx (by simp)), hF.trans (hx.mono (by simp))⟩
  · have hS : fS0 K = hS0 := by unfold fS0; rw [if_pos e]
    have hA0 : fA0 K A = AR.store { A with taken := A.taken + (K.n + 2) } K.b ((K.n : Int) + 1) := by unfold fA0; rw [if_neg (by omega), if_pos e, sz5 e]
    rw [hS, hA0]
    have hC := hNew_ok hA K.n hK.n1 hK.n32 (takeE0 (m := K.n + 2) (by rw [sz5 e] at hr; omega) (by omega))
    rw [take_is (m := K.n + 2) (by rw [sz5 e] at hr; omega) (by omega)] at hC
    have HC := Lib.hid hC
    have HE := Lib.hid e
    have HBB := Lib.hid hb
    clear hC hS hA0 hA hr hb
    rw [e]
    clear e
    go_enter Tryz.func31, Tryz.ntmps31
    go_wp2_with (go_at_call 53; refine HC.out.mono ?_; rintro e w1 ⟨lb, sb, X, rfl, h1, h2, hL, hF⟩; have HL := Lib.hid (And.intro h1 (And.intro h2 (And.intro hL hF))); clear hL h1 h2 hF)
    go_ret2
    have hx : Frm [] w1 (w1.alloc (.cells #[.int .i64 5, .iface 110 (.pointer (some ⟨lb, 0, none⟩))] 114)) := (Frm.refl _ _).alloc _
    have hn := HAt.new w1 #[.int .i64 5, .iface 110 (.pointer (some ⟨lb, 0, none⟩))] 114
    obtain ⟨h1, h2, hL, hF⟩ := HL.out
    have eb : (A.taken : Int) + 1 = (K.b : Int) := by have := HBB.out; omega
    rw [← HBB.out, eb] at hL
    exact ⟨w1.heap.size, lb, sb, rfl, hF.size, h1, h2, .clh X HE.out hn (hL.frm hx (by simp)), hF.trans (hx.mono (by simp))⟩
/-- the words that nobody has taken are 0 -/
def AZ (A : AR) : Prop := ∀ k : Nat, A.taken ≤ k → A.ws[k]?.getD 0 = 0
theorem get_tk {m : Nat} (hz : AZ A) (hm : A.taken + m ≤ A.ws.length) (i : Int) : AR.get { A with taken := A.taken + m } i = A.get i := by
  unfold AR.get
  by_cases h1 : A.has i = true
  · have h2 := has_iff.1 h1
    have h3 : AR.has { A with taken := A.taken + m } i = true := has_iff.2 (by show 1 ≤ i ∧ i ≤ ((A.taken + m : Nat) : Int); omega)
    rw [h1, h3]
  · rw [if_neg h1]
    by_cases h3 : AR.has { A with taken := A.taken + m } i = true
    · have h4 : 1 ≤ i ∧ i ≤ ((A.taken + m : Nat) : Int) := has_iff.1 h3
      rw [if_pos h3]
      exact hz _ (by have : ¬ (1 ≤ i ∧ i ≤ (A.taken : Int)) := fun h => h1 (has_iff.2 h); omega)
    · rw [if_neg h3]
theorem get_out {i : Int} (hi : (A.taken : Int) < i) : A.get i = 0 := by
  unfold AR.get
  rw [if_neg (by rw [has_iff]; omega)]
/-- what is so of the arena of a new lock -/
structure Grew (K : FK) (A B : AR) : Prop where
  taken : B.taken = A.taken + K.size
  len : B.ws.length = A.ws.length
  ops : A.ops ≤ B.ops ∧ B.ops ≤ A.ops + 1
  az : AZ B
  old : ∀ i : Int, i ≤ A.taken → B.get i = A.get i
theorem fA0_grew {K : FK} (hK : K.Ok) (hb : K.b = A.taken + 1) (hr : A.taken + K.size ≤ A.ws.length) (hz : AZ A) (hf : A.Fit) : Grew K A (fA0 K A) ∧ FI K (fS0 K) (fA0 K A) := by
  have hl2 := hf.2.1; have hop := hf.2.2
  have hfit : AR.Fit { A with taken := A.taken + K.size } := ⟨hr, hf.2.1, hf.2.2⟩
  have g0 : ∀ i, AR.get { A with taken := A.taken + K.size } i = A.get i := fun i => get_tk hz hr i
  have gz : ∀ i : Int, (A.taken : Int) < i → AR.get { A with taken := A.taken + K.size } i = 0 := fun i hi => by rw [g0]; exact get_out hi
  have grw : Grew K A { A with taken := A.taken + K.size } := ⟨rfl, rfl, ⟨Int.le_refl _, by show A.ops ≤ A.ops + 1; omega⟩, fun k hk => hz k (by have : A.taken + K.size ≤ k := hk; omega), fun i _ => g0 i⟩
  have gst : ∀ (x v : Int), (K.b : Int) ≤ x → x < (K.b : Int) + (K.size : Int) → Grew K A (AR.store { A with taken := A.taken + K.size } x v) ∧ ∀ i, (AR.store { A with taken := A.taken + K.size } x v).get i = if i = x then v else A.get i := by
    intro x v h1 h2
    have hx : AR.has { A with taken := A.taken + K.size } x = true := has_iff.2 (by show 1 ≤ x ∧ x ≤ ((A.taken + K.size : Nat) : Int); omega)
    obtain ⟨o1, o2⟩ := op_store (b := K.b) (m := K.size) (v := v) hfit hx h1 h2
    have g := fun i => get_store (A := { A with taken := A.taken + K.size }) (i := x) (v := v) (j := i) hr hx
    refine ⟨⟨o1.taken, o1.len, ⟨by rw [o2]; show A.ops ≤ A.ops + 1; omega, by rw [o2]; exact Int.le_refl _⟩, fun k hk => ?_, fun i hi => ?_⟩, fun i => by rw [g, g0]⟩
    · unfold AR.store
      rw [if_pos hx]
      rw [o1.taken] at hk
      have hk' : A.taken + K.size ≤ k := hk
      show (A.ws.set (x.toNat - 1) v)[k]?.getD 0 = 0
      rw [List.getElem?_set, if_neg (by omega)]
      exact hz k (by omega)
    · rw [g, if_neg (by omega), g0]
  have s4 : ∀ i t, t ≠ 1 → hS0 i t = 0 := fun i t h => if_neg h
  rcases hK.five with e | e | e | e | e
  · have hS : fS0 K = fun _ _ => 0 := by unfold fS0; rw [if_neg (by omega)]
    have hA0 : fA0 K A = { A with taken := A.taken + K.size } := by unfold fA0; rw [if_neg (by omega), if_neg (by omega)]
    rw [hS, hA0, fi1 e]
    exact ⟨grw, ⟨fun _ _ => .inl rfl, fun _ _ h => by simp at h⟩⟩
  · have hS : fS0 K = fun _ _ => 0 := by unfold fS0; rw [if_neg (by omega)]
    have hA0 : fA0 K A = { A with taken := A.taken + K.size } := by unfold fA0; rw [if_neg (by omega), if_neg (by omega)]
    rw [hS, hA0, fi2 e]
    refine ⟨grw, ⟨by rw [gz _ (by omega), gz _ (by omega)]; exact TK.zero _, by rw [gz _ (by omega)]; exact hop.1⟩⟩
  · have hS : fS0 K = fun _ _ => 0 := by unfold fS0; rw [if_neg (by omega)]
    have hA0 : fA0 K A = AR.store { A with taken := A.taken + K.size } (pPlace K.b K.p 0) 1 := by unfold fA0; rw [if_pos e]
    rw [hS, hA0, fi3 e]
    have hsz := sz3 e
    have hp : pPlace K.b K.p 0 = (K.b : Int) + 1 := by
      obtain ⟨a1, _⟩ := pplace (b := K.b) (parts := K.p) (t := 0) (by omega) ⟨hK.p1, hK.p32⟩ (by omega)
      rw [a1]; simp
    rw [hp]
    have hp1 := hK.p1
    obtain ⟨g1, g2⟩ := gst ((K.b : Int) + 1) 1 (by omega) (by omega)
    refine ⟨g1, 0, ⟨?_, ?_, fun p h1 h2 => ?_, ?_⟩⟩
    · rw [g2, if_neg (by omega), get_out (by omega)]; exact TK.zero _
    · rw [g2, if_neg (by omega), get_out (by omega)]; have := g1.ops; omega
    · rw [g2]; split
      · omega
      · rw [get_out (by omega)]; omega
    · rw [g2, if_pos (by simp)]; omega
  · have hS : fS0 K = fun _ _ => 0 := by unfold fS0; rw [if_neg (by omega)]
    have hA0 : fA0 K A = { A with taken := A.taken + K.size } := by unfold fA0; rw [if_neg (by omega), if_neg (by omega)]
    rw [hS, hA0, fi4 e]
    exact ⟨grw, [], none, MC.zero (gz _ (by omega))⟩
  · have hS : fS0 K = hS0 := by unfold fS0; rw [if_pos e]
    have hA0 : fA0 K A = AR.store { A with taken := A.taken + K.size } K.b ((K.n : Int) + 1) := by unfold fA0; rw [if_neg (by omega), if_pos e]
    rw [hS, hA0, fi5 e]
    have hsz := sz5 e
    obtain ⟨g1, g2⟩ := gst (K.b : Int) ((K.n : Int) + 1) (by omega) (by omega)
    have h1 : ∀ i, hS0 i 1 = (i : Int) + 1 := fun i => if_pos rfl
    have h0 : ∀ i, hS0 i 0 = 0 := fun i => s4 i 0 (by omega)
    refine ⟨g1, [], (K.n : Int) + 1, { nd := by simp, lt := by simp, mem := fun j _ => by rw [h0]; simp, pcs := fun j _ => .inl (h0 j), box := fun j hj => by rw [h1]; omega, fb := by omega, inj := fun a c _ _ he => by rw [h1, h1] at he; omega, fne := fun j hj => by rw [h1]; omega, chain := ?_, free := ?_, set := fun j _ hc => by rw [h0] at hc; omega, hold := fun j _ hc => by rw [h0] at hc; omega }⟩
    · show AR.get _ _ = _; rw [g2, if_pos rfl]
    · rw [g2, if_neg (by omega), get_out (by omega)]
end
end Go.Proofs.YteijjhahgabalaaGreat

/- flat.Size: how many words a flat lock takes. -/
namespace Go.Proofs.YteijjhahgabalaaGreat
open Go.RowKit
section
variable {w : World} {ab wb : Nat} {A : AR}
theorem arLen (h : ArAt w ab wb A) : Calls Tryz.prog 32 #[.pointer (some ⟨ab, 0, none⟩)] w fun e w' => e = .returned (.int .i64 A.taken) ∧ w = w' := by
  have c1 := h.box.cell (i := 1) rfl
  clear h
  go_enter Tryz.func32, Tryz.ntmps32
  go_wp2
  go_ret
  exact ⟨rfl, rfl⟩
theorem az_fresh (n : Nat) : AZ (AR.fresh n) := by
  intro k _
  show (List.replicate n (0 : Int))[k]?.getD 0 = 0
  rw [List.getElem?_replicate]; split <;> rfl
theorem fk_size_le {K : FK} (h : K.Ok) : 1 ≤ K.size ∧ K.size ≤ 65 := by
  have := h.n1; have := h.n32; have := h.p1; have := h.p32
  rcases h.five with e | e | e | e | e
  · rw [sz1 e]; omega
  · rw [sz2 e]; omega
  · rw [sz3 e]; omega
  · rw [sz4 e]; omega
  · rw [sz5 e]; omega
theorem flSize (w : World) (K : FK) (hK : K.Ok) (hb : K.b = 1) : Calls Tryz.prog 14 #[.int .i64 K.k, .int .i64 K.n, .int .i64 K.p] w fun e w' => e = .returned (.int .i64 K.size) ∧ Frm [] w w' := by
  have hsz := fk_size_le hK
  have hf : AR.Fit (AR.fresh 4096) := ⟨by show 0 ≤ (List.replicate 4096 (0 : Int)).length; omega, by show (List.replicate 4096 (0 : Int)).length ≤ 4096; rw [List.length_replicate]; exact Nat.le_refl _, by show (0 : Int) ≤ 0; omega, by show (0 : Int) ≤ _; omega⟩
  have hr : (AR.fresh 4096).taken + K.size ≤ (AR.fresh 4096).ws.length := by show 0 + K.size ≤ (List.replicate 4096 (0 : Int)).length; rw [List.length_replicate]; omega
  have hg := (fA0_grew hK (A := AR.fresh 4096) hb hr (az_fresh _) hf).1
  have ht : (fA0 K (AR.fresh 4096)).taken = K.size := by rw [hg.taken]; show 0 + K.size = _; omega
  have HN := Lib.hid (fun (W : World) (ab wb : Nat) (hA : ArAt W ab wb (AR.fresh 4096)) => fNew_ok hA K hK hb hr)
  have HT := Lib.hid ht
  clear hf hr hg ht hK hb
  go_enter Tryz.func14, Tryz.ntmps14
  go_wp2_with fail
  refine (New_any 4096 _).mono ?_
  rintro e w1 ⟨rfl, hA, hF1⟩
  have e4 : roomOf 4096 = 4096 := by decide
  rw [e4] at hA
  have HA := Lib.hid hA
  have HF1 := Lib.hid hF1
  have hs1 := hF1.size
  clear hA hF1
  go_wp2_with fail
  refine (HN.out _ _ _ HA.out).mono ?_
  rintro e w2 ⟨fb, lb, sb, rfl, -, -, -, hL, hF⟩
  have HL := Lib.hid (arLen hL.ar)
  have HF := Lib.hid (HF1.out.widen hF (fun z hz => .inr (by simp at hz; omega)))
  clear hL hF
  rw [HT.out] at HL
  go_wp2_with fail
  refine HL.out.mono ?_
  rintro e w3 ⟨rfl, rfl⟩
  go_wp2
  go_ret
  exact ⟨rfl, HF.out⟩
end
end Go.Proofs.YteijjhahgabalaaGreat
