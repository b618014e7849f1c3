/- The walk of the law WholeQuiet: it returns true, and writes nothing that was there. (Printed by gen_quiet.py.) -/
import Derived.Test.YteijjhahgabalaaGreatQ22
import Derived.Test.YteijjhahgabalaaGreatQ20
import Derived.Test.YteijjhahgabalaaGreatQ18
import Derived.Test.YteijjhahgabalaaGreatQ23
import Derived.Test.YteijjhahgabalaaGreatQ14
namespace Go.Proofs.YteijjhahgabalaaGreat
open Go.RowKit
section
variable {w w' : World} {rb : Nat} {vs : List Value}
theorem FlAt.boNot {fb lb sb ab wb : Nat} {A : AR} {F : Nat → Nat → Int} {M : FK} (h : FlAt w fb lb sb ab wb A F M) (hk : HAt w rb vs 4) : fb ≠ rb ∧ lb ≠ rb ∧ sb ≠ rb := by
  obtain ⟨_, h1⟩ := h.fbox
  obtain ⟨_, h2⟩ := h.srow
  refine ⟨h1.differ hk (by decide), ?_, h2.differ hk (by decide)⟩
  cases h with
  | tas e hb h hA => exact h.box.differ hk (by decide)
  | ticket e hb h hA => exact h.box.differ hk (by decide)
  | parted e hb h => exact h.box.differ hk (by decide)
  | mcs e hb h => exact h.box.differ hk (by decide)
  | clh X e hb h => exact h.box.differ hk (by decide)
theorem ArAt.boNot {ab wb : Nat} {A : AR} (h : ArAt w ab wb A) (hk : HAt w rb vs 4) : ab ≠ rb ∧ wb ≠ rb :=
  ⟨h.box.differ hk (by decide), h.row.differ hk (by decide)⟩
theorem IR.boFrm {g : Nat} {v : Value} {zs : List Int} (h : IR w g v zs) (hk : HAt w rb vs 4) (hf : Frm [rb] w w') : IR w' g v zs := by
  have h0 := h
  obtain ⟨_, _, _, hh, _⟩ := h
  exact h0.frm hf (by simp; exact hh.differ hk (by decide))
theorem TbF.boFrm {tb : Nat} {P T : List Int} (h : TbF w tb P T) (hk : HAt w rb vs 4) (hf : Frm [rb] w w') : TbF w' tb P T := by
  obtain ⟨vp, vt, vup, vnode, vslot, vm, gt, gn, gs, gm, h1, h2, h3, h4, h5⟩ := h
  exact ⟨vp, vt, vup, vnode, vslot, vm, gt, gn, gs, gm, h1.frm hf (by simp; exact h1.differ hk (by decide)), h2.boFrm hk hf, h3.boFrm hk hf, h4.boFrm hk hf, h5.boFrm hk hf⟩
theorem FlAt.boFrm {fb lb sb ab wb : Nat} {A : AR} {F : Nat → Nat → Int} {M : FK} (h : FlAt w fb lb sb ab wb A F M) (hk : HAt w rb vs 4) (hf : Frm [rb] w w') : FlAt w' fb lb sb ab wb A F M := by
  have n1 := h.boNot hk
  have n2 := h.ar.boNot hk
  exact h.frm hf (by simp; omega)
theorem CoAt.boFrm {B : CB} {K : CK} {S : CS} (h : CoAt w B K S) (hk : HAt w rb vs 4) (hf : Frm [rb] w w') : CoAt w' B K S := by
  obtain ⟨cells, hn, hc⟩ := h.nod
  exact { box := h.box.frm hf (by simp; exact h.box.differ hk (by decide)), tab := h.tab.boFrm hk hf, glo := h.glo.boFrm hk hf, nod := ⟨cells, hn.frm hf (by simp; exact hn.differ hk (by decide)), hc⟩, loc := fun v hv => (h.loc v hv).boFrm hk hf, row := h.row.frm hf (by simp; exact h.row.differ hk (by decide)), dif := h.dif, ok := h.ok }
theorem WoAt.bos {wo tb lk : Nat} {B : CB} {K : CK} {S : CS} (h : WoAt w wo tb lk B K S) (hk : HAt w rb vs 4) (hf : Frm [rb] w w') : WoAt w' wo tb lk B K S :=
  ⟨h.box.frm hf (by simp; exact h.box.differ hk (by decide)), h.lo.box.frm hf (by simp; exact h.lo.box.differ hk (by decide)), h.lo.co.boFrm hk hf⟩
end
theorem RowAt.old {w w' : World} {base : Nat} {v : Value} {zs : List Int} (h : RowAt w base v zs) {S : List Nat} (hf : Frm S w w') (hs : ∀ z ∈ S, w.heap.size ≤ z) : RowAt w' base v zs := by
  obtain ⟨a, cap, h1, h2, h3⟩ := h
  refine ⟨a, cap, h1, h2, fun h0 => ?_⟩
  obtain ⟨b, off, hb, ha, hc⟩ := h3 h0
  exact ⟨b, off, hb, ha, fun i hi => hf.cell (hc i hi) (fun hm => by have := hs b hm; have := cell_lt (hc i hi); simp only at this; omega)⟩
section
variable {w : World} {a b l : Value} {P T : List Int} {x0 x1 x2 x3 : Int} {acts : List (Int × Int)}
set_option maxRecDepth 100000 in
set_option maxHeartbeats 4000000 in
theorem quiet_many (hx : RowAt w 0 a P) (hy : RowAt w 0 b T) (h0 : 0 ≤ x0 ∧ x0 < 256) (h1 : 0 ≤ x1 ∧ x1 < 256) (h2 : 0 ≤ x2 ∧ x2 < 256) (hl : ActsAt w l acts) (hn : 150 < acts.length) :
    Calls Tryz.prog 4 #[.agg #[a, b], .agg #[.int .u8 x0, .int .u8 x1, .int .u8 x2, .int .u8 x3], l] w fun e w' => e = .returned (.bool true) ∧ Below w.heap.size w w' := by
  have HMD := Lib.hid (fun (W : World) (hf : Frm [] w W) => made_co W (hx.frm hf (by simp)) (hy.frm hf (by simp)) h0 h1 h2 8)
  have HSM := Lib.hid (fun (W : World) (hf : Frm [] w W) => Small_any W (hx.frm hf (by simp)) (hy.frm hf (by simp)) 8)
  obtain ⟨la, lc, rfl, -, -, -⟩ := hl
  have d1 : decide ((150 : Int) < acts.length) = true := decide_eq_true (by omega)
  have d2 : decide (150 < acts.length) = true := decide_eq_true (by omega)
  obtain ⟨a1, cap1, rfl, -, -⟩ := hx
  obtain ⟨a2, cap2, rfl, -, -⟩ := hy
  have hB0 := (HAt.new w #[.slice a1 P.length cap1, .slice a2 T.length cap2] 24).alloc (.cells #[.int .u8 x0, .int .u8 x1, .int .u8 x2, .int .u8 5] 25)
  have hB1 := HAt.new (w.alloc (.cells #[.slice a1 P.length cap1, .slice a2 T.length cap2] 24)) #[.int .u8 x0, .int .u8 x1, .int .u8 x2, .int .u8 5] 25
  rw [World.size_alloc] at hB1
  have HB0 := Lib.hid hB0
  have HB1 := Lib.hid hB1
  have HF0 := Lib.hid (((Frm.refl [] w).alloc (.cells #[.slice a1 P.length cap1, .slice a2 T.length cap2] 24)).alloc (.cells #[.int .u8 x0, .int .u8 x1, .int .u8 x2, .int .u8 5] 25))
  clear hB0 hB1
  clear h0 h1 h2
  go_enter Tryz.func4, Tryz.ntmps4
  go_wp2_with fail
  refine (HMD.out _ HF0.out).mono ?_
  rintro e w1 ⟨hF, h⟩
  have HF1 := Lib.hid (HF0.out.trans hF)
  clear hF
  rcases h with ⟨-, rfl⟩ | ⟨-, wo, tb, lk, B, rfl, -, -⟩
  all_goals
    go_wp2_with fail
    refine (awake_ok _).mono ?_
    rintro e w2 ⟨rfl, hF2⟩
    have HF2 := Lib.hid (HF1.out.trans hF2)
    clear hF2
    go_wp2
    go_ret
    exact ⟨rfl, HF2.out.below (Nat.le_refl _) (by simp)⟩
set_option maxRecDepth 100000 in
set_option maxHeartbeats 4000000 in
theorem quiet_not (hx : RowAt w 0 a P) (hy : RowAt w 0 b T) (h0 : 0 ≤ x0 ∧ x0 < 256) (h1 : 0 ≤ x1 ∧ x1 < 256) (h2 : 0 ≤ x2 ∧ x2 < 256) (hl : ActsAt w l acts) (hn : acts.length ≤ 150) (hs : ¬ tSmall P T 8) :
    Calls Tryz.prog 4 #[.agg #[a, b], .agg #[.int .u8 x0, .int .u8 x1, .int .u8 x2, .int .u8 x3], l] w fun e w' => e = .returned (.bool true) ∧ Below w.heap.size w w' := by
  have HMD := Lib.hid (fun (W : World) (hf : Frm [] w W) => made_co W (hx.frm hf (by simp)) (hy.frm hf (by simp)) h0 h1 h2 8)
  have HSM := Lib.hid (fun (W : World) (hf : Frm [] w W) => Small_any W (hx.frm hf (by simp)) (hy.frm hf (by simp)) 8)
  obtain ⟨la, lc, rfl, -, -, -⟩ := hl
  have d1 : decide ((150 : Int) < acts.length) = false := decide_eq_false (by omega)
  have d2 : decide (150 < acts.length) = false := decide_eq_false (by omega)
  obtain ⟨a1, cap1, rfl, -, -⟩ := hx
  obtain ⟨a2, cap2, rfl, -, -⟩ := hy
  have hnot : ∀ (x : Bool) (w : World), (Op.unary .not (.bool x)).run Tryz.prog w = .ok (.bool (!x)) w := fun _ _ => rfl
  have hB0 := (HAt.new w #[.slice a1 P.length cap1, .slice a2 T.length cap2] 24).alloc (.cells #[.int .u8 x0, .int .u8 x1, .int .u8 x2, .int .u8 5] 25)
  have hB1 := HAt.new (w.alloc (.cells #[.slice a1 P.length cap1, .slice a2 T.length cap2] 24)) #[.int .u8 x0, .int .u8 x1, .int .u8 x2, .int .u8 5] 25
  rw [World.size_alloc] at hB1
  have HB0 := Lib.hid hB0
  have HB1 := Lib.hid hB1
  have HF0 := Lib.hid (((Frm.refl [] w).alloc (.cells #[.slice a1 P.length cap1, .slice a2 T.length cap2] 24)).alloc (.cells #[.int .u8 x0, .int .u8 x1, .int .u8 x2, .int .u8 5] 25))
  clear hB0 hB1
  have HS := Lib.hid hs
  clear h0 h1 h2 hs
  go_enter Tryz.func4, Tryz.ntmps4
  go_wp2_with fail
  refine (HMD.out _ HF0.out).mono ?_
  rintro e w1 ⟨hF, h⟩
  have HF1 := Lib.hid (HF0.out.trans hF)
  have HB := Lib.hid (HB0.out.frm hF (by simp))
  rcases h with ⟨-, rfl⟩ | ⟨hs, -⟩
  · have t0 := HB.out.cell (i := 0) rfl
    have t1 := HB.out.cell (i := 1) rfl
    clear hF
    go_wp2_with fail
    refine (HSM.out _ HF1.out).mono ?_
    rintro e w2 ⟨r, rfl, hr, hF⟩
    obtain rfl : r = false := by cases r; rfl; exact absurd (hr.1 rfl) HS.out
    have HF2 := Lib.hid (HF1.out.trans hF)
    clear hF hr
    go_wp2_with fail
    refine (awake_ok _).mono ?_
    rintro e w3 ⟨rfl, hF⟩
    have HF3 := Lib.hid (HF2.out.trans hF)
    clear hF
    go_wp2
    go_ret
    exact ⟨rfl, HF3.out.below (Nat.le_refl _) (by simp)⟩
  · exact absurd hs HS.out
set_option maxRecDepth 100000 in
set_option maxHeartbeats 4000000 in
theorem quiet_main (hx : RowAt w 0 a P) (hy : RowAt w 0 b T) (h0 : 0 ≤ x0 ∧ x0 < 256) (h1 : 0 ≤ x1 ∧ x1 < 256) (h2 : 0 ≤ x2 ∧ x2 < 256) (hl : ActsAt w l acts) (hn : acts.length ≤ 150) (hs : tSmall P T 8) :
    Calls Tryz.prog 4 #[.agg #[a, b], .agg #[.int .u8 x0, .int .u8 x1, .int .u8 x2, .int .u8 x3], l] w fun e w' => e = .returned (.bool true) ∧ Below w.heap.size w w' := by
  have HMD := Lib.hid (fun (W : World) (hf : Frm [] w W) => made_co W (hx.frm hf (by simp)) (hy.frm hf (by simp)) h0 h1 h2 8)
  have HSM := Lib.hid (fun (W : World) (hf : Frm [] w W) => Small_any W (hx.frm hf (by simp)) (hy.frm hf (by simp)) 8)
  have HX := Lib.hid hx
  have HY := Lib.hid hy
  have HS := Lib.hid hs
  have hsp : ∀ W : World, Calls Tryz.prog 12 #[.agg #[.int .u8 x0, .int .u8 x1, .int .u8 x2, .int .u8 5]] W fun e w' => e = .returned (.agg #[.int .i64 6, .int .i64 (1 + x0 % 5), .int .i64 (1 + x1 % 5), .int .i64 (1 + x2 / 4 % 4), .int .i64 (x2 % 4)]) ∧ Frm [] W w' := fun W => spec_any W x0 x1 x2 5 h0 h1 h2 (by omega)
  have HSP := Lib.hid hsp
  have HAR := Lib.hid (quArg hs.1 h0 h1 h2)
  obtain ⟨la, lc, rfl, -, hacts, hi64⟩ := hl
  have HACT := Lib.hid hacts
  have d1 : decide ((150 : Int) < acts.length) = false := decide_eq_false (by omega)
  have d2 : decide (150 < acts.length) = false := decide_eq_false (by omega)
  obtain ⟨a1, cap1, rfl, -, -⟩ := hx
  obtain ⟨a2, cap2, rfl, -, -⟩ := hy
  have hnot : ∀ (x : Bool) (w : World), (Op.unary .not (.bool x)).run Tryz.prog w = .ok (.bool (!x)) w := fun _ _ => rfl
  have hE32 := HAR.out.ne
  have mk := mkBosR (tE P).length (by omega)
  have hB0 := (HAt.new w #[.slice a1 P.length cap1, .slice a2 T.length cap2] 24).alloc (.cells #[.int .u8 x0, .int .u8 x1, .int .u8 x2, .int .u8 5] 25)
  have hB1 := HAt.new (w.alloc (.cells #[.slice a1 P.length cap1, .slice a2 T.length cap2] 24)) #[.int .u8 x0, .int .u8 x1, .int .u8 x2, .int .u8 5] 25
  rw [World.size_alloc] at hB1
  have HB0 := Lib.hid hB0
  have HB1 := Lib.hid hB1
  have HF0 := Lib.hid (((Frm.refl [] w).alloc (.cells #[.slice a1 P.length cap1, .slice a2 T.length cap2] 24)).alloc (.cells #[.int .u8 x0, .int .u8 x1, .int .u8 x2, .int .u8 5] 25))
  clear hB0 hB1
  obtain ⟨K, hK⟩ : ∃ K, K = quK P T x0 x1 x2 := ⟨_, rfl⟩
  obtain ⟨gs, hgs⟩ : ∃ gs : Int, gs = (K.G.size : Int) := ⟨_, rfl⟩
  have HGS := Lib.hid hgs
  have hsz : ∀ (W : World), Calls Tryz.prog 14 #[.int .i64 (1 + x0 % 5), .int .i64 (tE P).length, .int .i64 (1 + x2 / 4 % 4)] W fun e w' => e = .returned (.int .i64 gs) ∧ Frm [] W w' := by
    intro W
    rw [hgs]
    have h := flSize W (quK P T x0 x1 x2).G HAR.out.gOk rfl
    have e1 : (((quK P T x0 x1 x2).G.k : Nat) : Int) = 1 + x0 % 5 := by show ((1 + x0 % 5).toNat : Int) = _; omega
    have e2 : (((quK P T x0 x1 x2).G.p : Nat) : Int) = 1 + x2 / 4 % 4 := by show ((1 + x2 / 4 % 4).toNat : Int) = _; omega
    have e3 : (quK P T x0 x1 x2).G.n = (tE P).length := rfl
    rw [e1, e2, e3] at h
    rw [hK]; exact h
  have HSZ := Lib.hid hsz
  clear h0 h1 h2 hs hacts hi64 hsz hsp hgs
  go_enter Tryz.func4, Tryz.ntmps4
  go_wp2_with fail
  refine (HMD.out _ HF0.out).mono ?_
  rintro e w1 ⟨hF, h⟩
  have HF1 := Lib.hid (HF0.out.trans hF)
  have HB := Lib.hid (HB0.out.frm hF (by simp))
  have HN := Lib.hid (HB1.out.frm hF (by simp))
  rcases h with ⟨hs, -⟩ | ⟨-, wo, tb, lk, B, rfl, hW, hz⟩
  · exact absurd HS.out hs
  have HW1 := Lib.hid hW
  have HZ := Lib.hid (fun z h => Nat.le_trans HF0.out.size (hz z h))
  have t0 := HB.out.cell (i := 0) rfl
  have t1 := HB.out.cell (i := 1) rfl
  clear hF hW hz
  go_wp2_with fail
  refine (HSM.out _ HF1.out).mono ?_
  rintro e w2 ⟨r, rfl, hr, hF⟩
  obtain rfl : r = true := hr.2 HS.out
  have HF2 := Lib.hid (HF1.out.trans hF)
  have HW2 := Lib.hid (HW1.out.same hF)
  have HB2 := Lib.hid (HB.out.frm hF (by simp))
  have n2 := HN.out.frm hF (by simp)
  have q0 := n2.cell (i := 0) rfl
  have q1 := n2.cell (i := 1) rfl
  have q2 := n2.cell (i := 2) rfl
  have q3 := n2.cell (i := 3) rfl
  clear hF hr t0 t1 n2
  go_wp2_with fail
  refine (HSP.out _).mono ?_
  rintro e w3 ⟨rfl, hF⟩
  have HF3 := Lib.hid (HF2.out.trans hF)
  have HW3 := Lib.hid (HW2.out.same hF)
  have HB3 := Lib.hid (HB2.out.frm hF (by simp))
  have HSB := Lib.hid (HAt.new w3 #[.int .i64 6, .int .i64 (1 + x0 % 5), .int .i64 (1 + x1 % 5), .int .i64 (1 + x2 / 4 % 4), .int .i64 (x2 % 4)] 44)
  have hF4 : Frm [] w3 (w3.alloc (.cells #[.int .i64 6, .int .i64 (1 + x0 % 5), .int .i64 (1 + x1 % 5), .int .i64 (1 + x2 / 4 % 4), .int .i64 (x2 % 4)] 44)) := (Frm.refl _ _).alloc _
  have HF4 := Lib.hid (HF3.out.trans hF4)
  have HW4 := Lib.hid (HW3.out.same hF4)
  have hB4 := HB3.out.frm hF4 (by simp)
  have HB4 := Lib.hid hB4
  have t0 := hB4.cell (i := 0) rfl
  have t1 := hB4.cell (i := 1) rfl
  clear hF hF4 hB4 q0 q1 q2 q3
  go_wp2_with fail
  refine (rLeaves_ok _ (HX.out.frm HF4.out (by simp)) (HY.out.frm HF4.out (by simp)) HS.out.1).mono ?_
  rintro e w5 ⟨lv, rfl, hO, hF⟩
  obtain ⟨av, cv, rfl, -, -⟩ := hO.row
  have HF5 := Lib.hid (HF4.out.trans hF)
  have HW5 := Lib.hid (HW4.out.same hF)
  have HB5 := Lib.hid (HB4.out.frm hF (by simp))
  have hs5 := HSB.out.frm hF (by simp)
  have q1 := hs5.cell (i := 1) rfl
  have q3 := hs5.cell (i := 3) rfl
  clear hF t0 t1 hs5 hO
  go_wp2_with fail
  refine (HSZ.out _).mono ?_
  rintro e w6 ⟨rfl, hF⟩
  have HF6 := Lib.hid (HF5.out.trans hF)
  have HW6 := Lib.hid (HW5.out.same hF)
  have HB6 := Lib.hid (HB5.out.frm hF (by simp))
  clear hF q1 q3
  go_wp2_with fail
  have hF7 : Frm [] w6 (w6.alloc (.cells (bosR (tE P).length (fun _ => false)).toArray 4)) := (Frm.refl _ _).alloc _
  have HT7 := Lib.hid (HAt.new w6 (bosR (tE P).length (fun _ => false)).toArray 4)
  have HF7 := Lib.hid (HF6.out.trans hF7)
  have HW7 := Lib.hid (HW6.out.same hF7)
  have HB7 := Lib.hid (HB6.out.frm hF7 (by simp))
  have hqb : w.heap.size ≤ w6.heap.size := HF6.out.size
  generalize w6.alloc (.cells (bosR (tE P).length (fun _ => false)).toArray 4) = W7 at *
  generalize w6.heap.size = qb at *
  obtain ⟨E, hE⟩ : ∃ E, E = (tE P).length := ⟨_, rfl⟩
  have hE32' : E ≤ 32 := by omega
  rw [← hE] at HT7
  rw [← hE]
  have hS0 : ∃ S0, WoAt W7 wo tb lk B K S0 ∧ CI K S0 (fun _ => false) (fun _ => none) ∧ CoL K S0.A.taken ∧ S0.A.ops ≤ 1000 := by
    rw [hK]
    refine ⟨_, HW7.out, HAR.out.first rfl, HAR.out.coL rfl, ?_⟩
    have := (HAR.out.ars _ (Nat.le_refl _)).o2
    have hle := HAR.out.ne
    have e : (firstS (quK P T x0 x1 x2) (quA P T x0 x1 x2)).A.ops ≤ (AR.fresh 4096).ops + 1 + ((tE P).length : Nat) := this
    have e2 : (AR.fresh 4096).ops = 0 := rfl
    omega
  obtain ⟨S0, hW8, hC0, hL0, ho0⟩ := hS0
  rw [← hK] at HZ
  have HKP := Lib.hid (show K.P = P ∧ K.T = T ∧ K.n = T.length ∧ K.E = E from by rw [hK, hE]; exact ⟨rfl, rfl, rfl, rfl⟩)
  have HZQ := Lib.hid (show ∀ z ∈ qb :: CZ B K, w.heap.size ≤ z from fun z hz => by
    rcases List.mem_cons.1 hz with e | e
    · rw [e]; exact hqb
    · exact HZ.out z e)
  have HI0 := Lib.hid (And.intro hW8 (And.intro hC0 (And.intro hL0 ho0)))
  have HTD := Lib.hid (HT7.out.differ HB7.out (by decide))
  have hszT := HS.out.1.size.2.2.2
  clear hE hW8 hC0 hL0 ho0 hK HW7 HW6 HW5 HW4 HW3 HW2 HW1 hF7 mk
  go_loopw [12] (fun iv wr => ∃ (k : Nat) (S : CS) (tc : Nat → Bool) (O : Nat → Option Nat), iv = .int .i64 k ∧ k ≤ acts.length ∧ WoAt wr wo tb lk B K S ∧ CI K S tc O ∧ CoL K S.A.taken ∧ S.A.ops ≤ 1000 + (k : Int) ∧ HAt wr qb (bosR E tc) 4 ∧ Frm (qb :: CZ B K) W7 wr) (fun iv _ => acts.length - (intOf iv).toNat)
  case atStart => exact ⟨0, S0, _, _, rfl, Nat.zero_le _, HI0.out.1, HI0.out.2.1, HI0.out.2.2.1, by have := HI0.out.2.2.2; omega, HT7.out, Frm.refl _ _⟩
  case round =>
    obtain ⟨k, S, tc, O, rfl, hk, hW, hC, hL, ho, hT, hF⟩ := hrel
    have HF := Lib.hid hF
    have HWK := Lib.hid hW
    have HCK := Lib.hid hC
    have HLK := Lib.hid hL
    have HT := Lib.hid hT
    have HO := Lib.hid ho
    have hmut := hW.lo.co.mut
    have hFw := (HF7.out.mono (S' := qb :: CZ B K) (by simp)).trans hF
    have HFW := Lib.hid hFw
    have HB := Lib.hid (HB7.out.frm hF (by
      intro hm
      rcases List.mem_cons.1 hm with e | e
      · exact HTD.out e.symm
      · exact (HI0.out.1.lo.co.mut.not HB7.out) e))
    have HMU := Lib.hid hmut
    have HNB := Lib.hid (show w.heap.size ∉ qb :: CZ B K from fun hm => by
      rcases List.mem_cons.1 hm with e | e
      · exact HTD.out e.symm
      · exact (HI0.out.1.lo.co.mut.not HB7.out) e)
    clear hW hC hL ho hT hF hmut
    by_cases hlt : k < acts.length
    · have e0 : decide ((k : Int) < acts.length) = true := decide_eq_true (by omega)
      have e0' : decide (k < acts.length) = true := decide_eq_true hlt
      have l1 : (k : Int) < acts.length := by omega
      obtain ⟨bl, off, rfl, hbl, hc⟩ := HACT.out (by omega)
      obtain ⟨⟨i, x⟩, hix⟩ : ∃ p, acts[k]? = some p := ⟨_, List.getElem?_eq_getElem hlt⟩
      have hbz : bl ∉ qb :: CZ B K := fun hm => by have := HZQ.out bl hm; omega
      obtain ⟨hc0, hc1⟩ := hc k (i, x) hix
      have HC0 := Lib.hid (fun (W : World) (hf : Frm (qb :: CZ B K) w W) => hf.cell hc0 hbz)
      have HC1 := Lib.hid (fun (W : World) (hf : Frm (qb :: CZ B K) w W) => hf.cell hc1 hbz)
      have a0 := HC0.out _ hFw
      have a1' := HC1.out _ hFw
      simp only at a0 a1'
      clear hc hix hc0 hc1 hbz hFw hbl
      have HPN := Lib.hid (fun (W : World) (hf : Frm (qb :: CZ B K) w W) => pNode_any W (HX.out.old hf HZQ.out) (HY.out.old hf HZQ.out) HS.out.1 i)
      have fd := spotPcG
      cases hsh : sHas K.n i with
      | false =>
        have hdo := woDo HWK.out HCK.out.toCoPc i x
        rw [show doE K S i x = (0, 0, 0) from by unfold doE; rw [if_pos hsh], show doS K S i x = S from by unfold doS; rw [if_pos hsh]] at hdo
        have HDO := Lib.hid hdo
        have hpn : pNd P T i = -1 := by unfold pNd; rw [← HKP.out.2.2.1, hsh]; rfl
        rw [hpn] at HPN
        clear hsh hdo hpn
        go_wp2_with fail
        refine (woOps HWK.out).mono ?_
        rintro e w8 ⟨rfl, rfl⟩
        go_wp2_with fail
        refine HDO.out.mono ?_
        rintro e w9 ⟨rfl, hW9, hF9⟩
        have HW9 := Lib.hid hW9
        have HF9 := Lib.hid (hF9.mono (S' := qb :: CZ B K) (fun z hz => List.mem_cons_of_mem _ hz))
        have hF9z := hF9
        have hnq : qb ∉ CZ B K := HMU.out.not HT.out
        clear hF9 hW9
        have HF9Z := Lib.hid hF9z
        have HNQ := Lib.hid hnq
        clear hF9z hnq
        unfold evV
        go_wp2_with fail
        have HEV := Lib.hid (HAt.new w9 #[.int .i64 0, .int .i64 0, .bool false, .int .i64 0] 35)
        have hFa : Frm [] w9 (w9.alloc (.cells #[.int .i64 0, .int .i64 0, .bool false, .int .i64 0] 35)) := (Frm.refl _ _).alloc _
        have HFA := Lib.hid (HF9.out.trans (hFa.mono (by simp)))
        have HWA := Lib.hid (HW9.out.same hFa)
        have HEL := Lib.hid (show qb ≠ w9.heap.size from by have := (HT.out.frm HF9Z.out HNQ.out).lt; omega)
        have HTA := Lib.hid ((HT.out.frm HF9Z.out HNQ.out).frm hFa (by simp))
        clear hFa
        generalize w9.alloc (.cells #[.int .i64 0, .int .i64 0, .bool false, .int .i64 0] 35) = WA at *
        generalize w9.heap.size = eb at *
        have hne : Nonempty (HW (fun wx => Frm [] WA wx)) := ⟨⟨WA, Frm.refl _ _⟩⟩
        have hz0 : ∀ q : HW (fun wx => Frm [] WA wx), q.w.cell? ⟨w.heap.size, 0, none⟩ = some (.slice a1 P.length cap1) := fun q => ((HB.out.frm HFA.out HNB.out).frm q.h (by simp)).cell (i := 0) rfl
        have hz1 : ∀ q : HW (fun wx => Frm [] WA wx), q.w.cell? ⟨w.heap.size, 1, none⟩ = some (.slice a2 T.length cap2) := fun q => ((HB.out.frm HFA.out HNB.out).frm q.h (by simp)).cell (i := 1) rfl
        have hy0 : ∀ q : HW (fun wx => Frm [] WA wx), q.w.cell? ⟨bl, off + k * 2, none⟩ = some (.int .i64 i) := fun q => HC0.out _ ((HFW.out.trans HFA.out).trans (q.h.mono (by simp)))
        refine held_begin (S := fun wx => Frm [] WA wx) (by kernel_rfl) ?_
        refine held_row_at (fuel := 2) (is := [0, 1, 2, 3, 4, 5]) (.cons rfl (.cons rfl (.cons rfl (.cons rfl (.cons rfl (.cons rfl .nil)))))) (by kernel_rfl) (fun _ _ _ _ _ h => h) rfl (by kernel_rfl) (Frm.refl _ _).drew1 ?_
        intro Kq hKq
        repeat (go_big_quiet_step (fail))
        refine wpQuiet_nil (hKq _ ?_)
        clear hKq Kq
        refine held_call (fuel := 1) (i := 6) rfl (by kernel_rfl) ?_
        go_wp2_with fail
        refine (HPN.out _ ((HFW.out.trans HFA.out).trans (((Frm.refl [] WA).drew1).mono (by simp)))).mono ?_
        rintro e w10 ⟨rfl, hF⟩
        have HFB := Lib.hid (((Frm.refl [] WA).drew1).trans hF)
        clear hF
        go_wp2_with fail
        refine onNormal_mk ⟨HFB.out, ?_⟩
        refine held_row_at (fuel := 0) (is := [7]) (.cons rfl .nil) (by kernel_rfl) (fun _ _ _ _ _ h => h) rfl (by kernel_rfl) HFB.out ?_
        intro Kq hKq
        repeat (go_big_quiet_step (fail))
        refine wpQuiet_nil (hKq _ ?_)
        clear hKq Kq
        refine held_end (by kernel_rfl) ?_
        clear hne hz0 hz1 hy0
        go_wp2_with fail
        go_roundw
        case rel => exact ⟨k + 1, S, tc, O, by go_num, by omega, HWA.out.same HFB.out, HCK.out, HLK.out, by have := HO.out; omega, HTA.out.frm HFB.out (by simp), (HF.out.trans HFA.out).trans (HFB.out.mono (by simp))⟩
        case measure => simp [intOf]; omega
      | true =>
        have hi' : 0 ≤ i ∧ i < (K.n : Int) := by unfold sHas at hsh; simpa using hsh
        obtain ⟨t, rfl⟩ := Int.eq_ofNat_of_zero_le hi'.1
        have ht : t < K.n := by omega
        obtain ⟨b', o, hb, hCI, hev, htk, hop1, hop2⟩ := HCK.out.mv HLK.out ht (by have := HO.out; omega) x
        have hdo := woDo HWK.out HCK.out.toCoPc t x
        have hpn : pNd P T t = (K.nd t : Nat) := by unfold pNd CK.nd; rw [← HKP.out.2.2.1, hsh, if_pos rfl, Int.toNat_natCast, HKP.out.1, HKP.out.2.1]
        have hv : K.nd t < E := by have := (HLK.out.nd t ht).1; rw [HKP.out.2.2.2] at this; exact this
        rw [hpn] at HPN
        unfold touch at hb
        rw [← HGS.out] at hb
        have HNI := Lib.hid (show 0 ≤ S.A.ops from HCK.out.fit.2.2.1)
        generalize doS K S (t : Nat) x = S' at *
        generalize doE K S (t : Nat) x = E3 at *
        generalize K.nd t = v at *
        obtain ⟨ek, et, ec⟩ := E3
        have HDO := Lib.hid hdo
        have HB' := Lib.hid hb
        have HCI := Lib.hid hCI
        have HEVL := Lib.hid (show ek = 2 → (1 < ec → b' = false) ∧ (ec = 1 → b' = true) from hev)
        have HTK := Lib.hid (show S'.A.taken = S.A.taken ∧ S.A.ops ≤ S'.A.ops ∧ S'.A.ops ≤ S.A.ops + 1 from ⟨htk, hop1, hop2⟩)
        have lv : (v : Int) < E := by omega
        have nv : ¬ ((v : Int) < 0) := by omega
        have nv' : decide ((v : Int) < 0) = false := decide_eq_false nv
        clear hsh hdo hpn hb hCI hev htk hop1 hop2 hi' ht nv
        go_wp2_with fail
        refine (woOps HWK.out).mono ?_
        rintro e w8 ⟨rfl, rfl⟩
        go_wp2_with fail
        refine HDO.out.mono ?_
        rintro e w9 ⟨rfl, hW9, hF9⟩
        have HW9 := Lib.hid hW9
        have HF9 := Lib.hid (hF9.mono (S' := qb :: CZ B K) (fun z hz => List.mem_cons_of_mem _ hz))
        have HF9Z := Lib.hid hF9
        have HNQ := Lib.hid (show qb ∉ CZ B K from HMU.out.not HT.out)
        clear hF9 hW9
        unfold evV
        go_wp2_with fail
        have HEV := Lib.hid (HAt.new w9 #[.int .i64 ek, .int .i64 et, .bool false, .int .i64 ec] 35)
        have hFa : Frm [] w9 (w9.alloc (.cells #[.int .i64 ek, .int .i64 et, .bool false, .int .i64 ec] 35)) := (Frm.refl _ _).alloc _
        have HFA := Lib.hid (HF9.out.trans (hFa.mono (by simp)))
        have HWA := Lib.hid (HW9.out.same hFa)
        have HEL := Lib.hid (show qb ≠ w9.heap.size from by have := (HT.out.frm HF9Z.out HNQ.out).lt; omega)
        have HTA := Lib.hid ((HT.out.frm HF9Z.out HNQ.out).frm hFa (by simp))
        clear hFa
        generalize w9.alloc (.cells #[.int .i64 ek, .int .i64 et, .bool false, .int .i64 ec] 35) = WA at *
        generalize w9.heap.size = eb at *
        have hne : Nonempty (HW (fun wx => Frm [] WA wx)) := ⟨⟨WA, Frm.refl _ _⟩⟩
        have hz0 : ∀ q : HW (fun wx => Frm [] WA wx), q.w.cell? ⟨w.heap.size, 0, none⟩ = some (.slice a1 P.length cap1) := fun q => ((HB.out.frm HFA.out HNB.out).frm q.h (by simp)).cell (i := 0) rfl
        have hz1 : ∀ q : HW (fun wx => Frm [] WA wx), q.w.cell? ⟨w.heap.size, 1, none⟩ = some (.slice a2 T.length cap2) := fun q => ((HB.out.frm HFA.out HNB.out).frm q.h (by simp)).cell (i := 1) rfl
        have hy0 : ∀ q : HW (fun wx => Frm [] WA wx), q.w.cell? ⟨bl, off + k * 2, none⟩ = some (.int .i64 t) := fun q => HC0.out _ ((HFW.out.trans HFA.out).trans (q.h.mono (by simp)))
        refine held_begin (S := fun wx => Frm [] WA wx) (by kernel_rfl) ?_
        refine held_row_at (fuel := 2) (is := [0, 1, 2, 3, 4, 5]) (.cons rfl (.cons rfl (.cons rfl (.cons rfl (.cons rfl (.cons rfl .nil)))))) (by kernel_rfl) (fun _ _ _ _ _ h => h) rfl (by kernel_rfl) (Frm.refl _ _).drew1 ?_
        intro Kq hKq
        repeat (go_big_quiet_step (fail))
        refine wpQuiet_nil (hKq _ ?_)
        clear hKq Kq
        refine held_call (fuel := 1) (i := 6) rfl (by kernel_rfl) ?_
        go_wp2_with fail
        refine (HPN.out _ ((HFW.out.trans HFA.out).trans (((Frm.refl [] WA).drew1).mono (by simp)))).mono ?_
        rintro e w10 ⟨rfl, hF⟩
        have HFB := Lib.hid (((Frm.refl [] WA).drew1).trans hF)
        clear hF
        go_wp2_with fail
        refine onNormal_mk ⟨HFB.out, ?_⟩
        refine held_row_at (fuel := 0) (is := [7]) (.cons rfl .nil) (by kernel_rfl) (fun _ _ _ _ _ h => h) rfl (by kernel_rfl) HFB.out ?_
        intro Kq hKq
        repeat (go_big_quiet_step (fail))
        refine wpQuiet_nil (hKq _ ?_)
        clear hKq Kq
        refine held_end (by kernel_rfl) ?_
        clear hne hz0 hz1 hy0
        have hEV := HEV.out.frm HFB.out (by simp)
        have HEVB := Lib.hid hEV
        have HTB := Lib.hid (HTA.out.frm HFB.out (by simp))
        have HWB := Lib.hid (HWA.out.same HFB.out)
        have HFC := Lib.hid ((HF.out.trans HFA.out).trans (HFB.out.mono (by simp)))
        clear HFB HTA HWA HEV HPN hEV HDO a0 a1'
        have fl : ∀ (a b : Int) (c : Bool) (W : World), (Instr.field 53 (.agg #[.int .i64 a, .int .i64 b, .bool c]) 1).run Tryz.prog W = .ok (.int .i64 b) W := fun _ _ _ _ => by kernel_rfl
        have hor : b' = tc v ∧ (decide (S.A.ops < S'.A.ops) && decide (S'.A.at_ ≤ gs)) = false ∨ b' = true ∧ (decide (S.A.ops < S'.A.ops) && decide (S'.A.at_ ≤ gs)) = true := by
          rw [HB'.out]
          cases decide (S.A.ops < S'.A.ops) && decide (S'.A.at_ ≤ gs)
          · left; simp
          · right; simp
        have hk2c : ek = 2 ∨ ek ≠ 2 := by omega
        have g0 := HEVB.out.cell (i := 0) rfl
        have g3 := HEVB.out.cell (i := 3) rfl
        have hset : ∀ (x y : Bool), (bosR E (upO tc v x)).set v (.bool y) = bosR E (upO tc v y) := fun x y => bosR_set (by unfold upO; rw [if_pos rfl]) (fun u hu hne => by unfold upO; rw [if_neg hne, if_neg hne])
        have HSET := Lib.hid hset
        have HCIn := Lib.hid (fun (h : ek ≠ 2) => show CI K S' (upO tc v b') (upO O v o) from by have := HCI.out; rw [if_neg h] at this; exact this)
        have HCIy := Lib.hid (fun (h : ek = 2) => show CI K S' (upO tc v false) (upO O v o) from by have := HCI.out; rw [if_pos h] at this; exact this)
        have HQL := Lib.hid (show CoL K S'.A.taken from by rw [HTK.out.1]; exact HLK.out)
        have HQO := Lib.hid (show S'.A.ops ≤ 1000 + ((k : Int) + 1) from by have := HTK.out.2.2; have := HO.out; omega)
        have tv0 := HTB.out.cell (i := v) (bosR_get _ hv)
        have tz0 := HTB.out.frozen
        have tl0 := HTB.out.lt
        have hpp : ek = 2 → (decide (1 < ec) = true ∧ (ec == 1) = false ∧ b' = false) ∨ (decide (1 < ec) = false ∧ (ec == 1) = true ∧ b' = true) ∨ (decide (1 < ec) = false ∧ (ec == 1) = false) := by
          intro h
          obtain ⟨h1, h2⟩ := HEVL.out h
          by_cases p1 : 1 < ec
          · left; exact ⟨by simpa using p1, by simp; omega, h1 p1⟩
          · right
            by_cases p2 : ec = 1
            · left; exact ⟨by simpa using p1, by simpa using p2, h2 p2⟩
            · right; exact ⟨by simpa using p1, by simpa using p2⟩
        clear hset
        have HREL := Lib.hid (fun (W : World) (y : Bool) (h1 : WoAt W wo tb lk B K S') (h2 : HAt W qb (bosR E (upO tc v y)) 4) (h3 : Frm (qb :: CZ B K) W7 W) (h4 : CI K S' (upO tc v y) (upO O v o)) => (show ∃ (k' : Nat) (S : CS) (tc : Nat → Bool) (O : Nat → Option Nat), Value.int .i64 ((k : Int) + 1) = .int .i64 k' ∧ k' ≤ acts.length ∧ WoAt W wo tb lk B K S ∧ CI K S tc O ∧ CoL K S.A.taken ∧ S.A.ops ≤ 1000 + (k' : Int) ∧ HAt W qb (bosR E tc) 4 ∧ Frm (qb :: CZ B K) W7 W from ⟨k + 1, S', _, _, by go_num, by omega, h1, h4, HQL.out, by have := HQO.out; omega, h2, h3⟩))
        have hst1 : ∀ y : Bool, (bosR E tc).set v (.bool y) = bosR E (upO tc v y) := fun y => bosR_set (by unfold upO; rw [if_pos rfl]) (fun u hu hne => by unfold upO; rw [if_neg hne])
        have HST1 := Lib.hid hst1
        have HS1 := Lib.hid (fun (W : World) (y : Bool) (h1 : WoAt W wo tb lk B K S') (h2 : HAt W qb (bosR E tc) 4) (h3 : Frm (qb :: CZ B K) W7 W) => (show WoAt (W.setCell ⟨qb, v, none⟩ (.bool y)) wo tb lk B K S' ∧ HAt (W.setCell ⟨qb, v, none⟩ (.bool y)) qb (bosR E (upO tc v y)) 4 ∧ Frm (qb :: CZ B K) W7 (W.setCell ⟨qb, v, none⟩ (.bool y)) from ⟨h1.bos h2 ((Frm.refl _ _).set _ _ (.inl (by simp))), by have := h2.set v (.bool y); rwa [hst1] at this, h3.set _ _ (.inl (by simp))⟩))
        have HS2 := Lib.hid (fun (W : World) (x y : Bool) (h1 : WoAt W wo tb lk B K S') (h2 : HAt W qb (bosR E (upO tc v x)) 4) (h3 : Frm (qb :: CZ B K) W7 W) => (show WoAt (W.setCell ⟨qb, v, none⟩ (.bool y)) wo tb lk B K S' ∧ HAt (W.setCell ⟨qb, v, none⟩ (.bool y)) qb (bosR E (upO tc v y)) 4 ∧ Frm (qb :: CZ B K) W7 (W.setCell ⟨qb, v, none⟩ (.bool y)) from ⟨h1.bos h2 ((Frm.refl _ _).set _ _ (.inl (by simp))), by have := h2.set v (.bool y); rwa [HSET.out] at this, h3.set _ _ (.inl (by simp))⟩))
        clear hst1
        go_wp2_with fail
        refine (woOps HWB.out).mono ?_
        rintro e w11 ⟨rfl, rfl⟩
        rcases hk2c with hk2 | hk2
        · have HK2 := Lib.hid hk2
          subst hk2
          have hp3 := hpp rfl
          clear hpp
          cases d1 : decide (S.A.ops < S'.A.ops) with
          | false =>
            rw [d1] at hor
            have hbb : b' = tc v := by rcases hor with h | h; exact h.1; simp at h
            rw [← hbb] at tv0
            have HBB := Lib.hid hbb
            clear hor hbb
            rcases hp3 with ⟨p1, p2, p3⟩ | ⟨p1, p2, p3⟩ | ⟨p1, p2⟩
            · rw [p3] at tv0
              clear p3
              go_wp2
              obtain ⟨z1, z2, z3⟩ := HS1.out _ false HWB.out HTB.out HFC.out
              exact ⟨HREL.out _ false z1 z2 z3 (HCIy.out HK2.out), by simp [intOf]; omega⟩
            · rw [p3] at tv0
              clear p3
              go_wp2
              obtain ⟨z1, z2, z3⟩ := HS1.out _ false HWB.out HTB.out HFC.out
              exact ⟨HREL.out _ false z1 z2 z3 (HCIy.out HK2.out), by simp [intOf]; omega⟩
            · go_wp2
              obtain ⟨z1, z2, z3⟩ := HS1.out _ false HWB.out HTB.out HFC.out
              exact ⟨HREL.out _ false z1 z2 z3 (HCIy.out HK2.out), by simp [intOf]; omega⟩
          | true =>
            rw [d1] at hor
            go_wp2_with fail
            refine (woLast HWB.out).mono ?_
            rintro e w12 ⟨rfl, hF12⟩
            have HWC := Lib.hid (HWB.out.same hF12)
            have HTC := Lib.hid (HTB.out.frm hF12 (by simp))
            have HFD := Lib.hid (HFC.out.trans (hF12.mono (by simp)))
            have hev12 := HEVB.out.frm hF12 (by simp)
            have g0 := hev12.cell (i := 0) rfl
            have g3 := hev12.cell (i := 3) rfl
            have tv0 := HTC.out.cell (i := v) (bosR_get _ hv)
            have tz0 := HTC.out.frozen
            have tl0 := HTC.out.lt
            clear hF12 hev12
            unfold lastV
            cases d2 : decide (S'.A.at_ ≤ gs) with
            | false =>
              rw [d2] at hor
              have hbb : b' = tc v := by rcases hor with h | h; exact h.1; simp at h
              rw [← hbb] at tv0
              have HBB := Lib.hid hbb
              clear hor hbb
              rcases hp3 with ⟨p1, p2, p3⟩ | ⟨p1, p2, p3⟩ | ⟨p1, p2⟩
              · rw [p3] at tv0
                clear p3
                go_wp2
                obtain ⟨z1, z2, z3⟩ := HS1.out _ false HWC.out HTC.out HFD.out
                exact ⟨HREL.out _ false z1 z2 z3 (HCIy.out HK2.out), by simp [intOf]; omega⟩
              · rw [p3] at tv0
                clear p3
                go_wp2
                obtain ⟨z1, z2, z3⟩ := HS1.out _ false HWC.out HTC.out HFD.out
                exact ⟨HREL.out _ false z1 z2 z3 (HCIy.out HK2.out), by simp [intOf]; omega⟩
              · go_wp2
                obtain ⟨z1, z2, z3⟩ := HS1.out _ false HWC.out HTC.out HFD.out
                exact ⟨HREL.out _ false z1 z2 z3 (HCIy.out HK2.out), by simp [intOf]; omega⟩
            | true =>
              rw [d2] at hor
              have hbb : b' = true := by rcases hor with h | h; simp at h; exact h.1
              have nq1 : qb ≠ eb := HEL.out
              have nq2 : eb ≠ qb := Ne.symm nq1
              have HBB := Lib.hid hbb
              clear hor
              rcases hp3 with ⟨p1, p2, p3⟩ | ⟨p1, p2, p3⟩ | ⟨p1, p2⟩
              · rw [hbb] at p3; simp at p3
              · clear p3 hbb
                go_wp2
                obtain ⟨y1, y2, y3⟩ := HS1.out _ true HWC.out HTC.out HFD.out
                obtain ⟨z1, z2, z3⟩ := HS2.out _ true false y1 y2 y3
                exact ⟨HREL.out _ false z1 z2 z3 (HCIy.out HK2.out), by simp [intOf]; omega⟩
              · clear hbb
                go_wp2
                obtain ⟨y1, y2, y3⟩ := HS1.out _ true HWC.out HTC.out HFD.out
                obtain ⟨z1, z2, z3⟩ := HS2.out _ true false y1 y2 y3
                exact ⟨HREL.out _ false z1 z2 z3 (HCIy.out HK2.out), by simp [intOf]; omega⟩
        · have HK2 := Lib.hid hk2
          have f1 : (ek != 2) = true := by simpa using hk2
          clear hpp hk2
          cases d1 : decide (S.A.ops < S'.A.ops) with
          | false =>
            rw [d1] at hor
            have hbb : b' = tc v := by rcases hor with h | h; exact h.1; simp at h
            rw [← hbb] at tv0
            have HBB := Lib.hid hbb
            clear hor hbb
            go_wp2
            exact ⟨HREL.out _ b' HWB.out (by rw [HBB.out, upO_self]; exact HTB.out) HFC.out (HCIn.out HK2.out), by simp [intOf]; omega⟩
          | true =>
            rw [d1] at hor
            go_wp2_with fail
            refine (woLast HWB.out).mono ?_
            rintro e w12 ⟨rfl, hF12⟩
            have HWC := Lib.hid (HWB.out.same hF12)
            have HTC := Lib.hid (HTB.out.frm hF12 (by simp))
            have HFD := Lib.hid (HFC.out.trans (hF12.mono (by simp)))
            have hev12 := HEVB.out.frm hF12 (by simp)
            have g0 := hev12.cell (i := 0) rfl
            have g3 := hev12.cell (i := 3) rfl
            have tv0 := HTC.out.cell (i := v) (bosR_get _ hv)
            have tz0 := HTC.out.frozen
            have tl0 := HTC.out.lt
            clear hF12 hev12
            unfold lastV
            cases d2 : decide (S'.A.at_ ≤ gs) with
            | false =>
              rw [d2] at hor
              have hbb : b' = tc v := by rcases hor with h | h; exact h.1; simp at h
              rw [← hbb] at tv0
              have HBB := Lib.hid hbb
              clear hor hbb
              go_wp2
              exact ⟨HREL.out _ b' HWC.out (by rw [HBB.out, upO_self]; exact HTC.out) HFD.out (HCIn.out HK2.out), by simp [intOf]; omega⟩
            | true =>
              rw [d2] at hor
              have hbb : b' = true := by rcases hor with h | h; simp at h; exact h.1
              have nq1 : qb ≠ eb := HEL.out
              have nq2 : eb ≠ qb := Ne.symm nq1
              have HBB := Lib.hid hbb
              clear hor
              clear hbb
              go_wp2
              obtain ⟨y1, y2, y3⟩ := HS1.out _ true HWC.out HTC.out HFD.out
              exact ⟨HREL.out _ true y1 y2 y3 (by have := HCIn.out HK2.out; rwa [HBB.out] at this), by simp [intOf]; omega⟩
    · have e0 : decide ((k : Int) < acts.length) = false := decide_eq_false (by omega)
      have e0' : decide (k < acts.length) = false := decide_eq_false hlt
      go_wp2_with fail
      refine (awake_ok _).mono ?_
      rintro e w8 ⟨rfl, hF8⟩
      have HF8 := Lib.hid (HFW.out.trans (hF8.mono (by simp)))
      clear hF8
      go_wp2
      go_ret
      exact ⟨rfl, HF8.out.below (Nat.le_refl _) HZQ.out⟩
theorem wholeQuiet_walk (v : Value) (PT : List Int × List Int) (x0 x1 x2 x3 : Int) (l : Value) (acts : List (Int × Int)) (w : World) (ht : TopoAt w v PT) (h0 : U8 x0) (h1 : U8 x1) (h2 : U8 x2) (_ : U8 x3) (hl : ActsAt w l acts) :
    Calls Tryz.prog 4 #[v, .agg #[.int .u8 x0, .int .u8 x1, .int .u8 x2, .int .u8 x3], l] w fun e w' => e = .returned (.bool true) ∧ Below w.heap.size w w' := by
  obtain ⟨a, b, rfl, hx, hy⟩ := ht
  have h0 : 0 ≤ x0 ∧ x0 < 256 := by unfold U8 at h0; omega
  have h1 : 0 ≤ x1 ∧ x1 < 256 := by unfold U8 at h1; omega
  have h2 : 0 ≤ x2 ∧ x2 < 256 := by unfold U8 at h2; omega
  by_cases hn : acts.length ≤ 150
  · by_cases hs : tSmall PT.1 PT.2 8
    · exact quiet_main hx hy h0 h1 h2 hl hn hs
    · exact quiet_not hx hy h0 h1 h2 hl hn hs
  · exact quiet_many hx hy h0 h1 h2 hl (by omega)
end
end Go.Proofs.YteijjhahgabalaaGreat
