/- The walk of the law MalthusOne. -/
import Derived.Test.YtacogelejffbhaaMalMade
import Derived.Deep.DeepCutAuto
import Derived.Deep.CutBlock
namespace Go.Proofs.Ytacogelejffbhaa
open Go.RowKit

/-- the law's lock, as it stands, and the law's own topology -/
structure MWI (w0 w : World) (tb : Nat) (TV : List Value) (lb sb bb ab wb n : Nat) (bud : Int) (m : MS) : Prop where
  lk : MLk w lb sb bb ab wb 1 (3 + 2 * n) n bud m
  inv : MInv 1 (3 + 2 * n) n m
  frm : Frm [] w0 w
  old : ∀ k ∈ [lb, sb, bb, ab, wb], w0.heap.size ≤ k
  top : HAt w tb TV 58
  nt : tb ∉ [lb, sb, bb, ab, wb]
section
variable {w0 w w1 : World} {tb : Nat} {TV : List Value} {lb sb bb ab wb n : Nat} {bud : Int} {m m' : MS}
theorem MWI.kept (h : MWI w0 w tb TV lb sb bb ab wb n bud m) (hf : Frm [] w w1) : MWI w0 w1 tb TV lb sb bb ab wb n bud m := { h with lk := h.lk.frm hf (by simp), frm := h.frm.trans hf, top := h.top.frm hf (by simp) }
theorem MWI.move (h : MWI w0 w tb TV lb sb bb ab wb n bud m) {Z : List Nat} (hZ : ∀ k ∈ Z, k ∈ [lb, sb, bb, ab, wb]) (hf : Frm Z w w1) (hl : MLk w1 lb sb bb ab wb 1 (3 + 2 * n) n bud m') (hi : MInv 1 (3 + 2 * n) n m') : MWI w0 w1 tb TV lb sb bb ab wb n bud m' :=
  { h with lk := hl, inv := hi, frm := h.frm.widen hf (fun x hx => .inr (h.old x (hZ x hx))), top := h.top.frm hf (fun hm => h.nt (hZ _ hm)) }
theorem MWI.do_ (h : MWI w0 w tb TV lb sb bb ab wb n bud m) (kind i : Int) : Calls Try.prog 31 #[.pointer (some ⟨lb, 0, none⟩), .agg #[.int .i64 kind, .int .i64 i]] w fun e w' => (∃ b, e = .returned (.bool b)) ∧ MWI w0 w' tb TV lb sb bb ab wb n bud (mAct 1 (3 + 2 * n) n bud m kind i) :=
  (mDo_any h.lk kind i (fun j hj => h.inv.pc j hj)).mono fun _ _ ⟨h1, h2, h3⟩ => ⟨h1, h.move (fun _ hk => hk) h3 h2 (h.inv.act kind i)⟩
end
theorem act_ops {tail first n : Nat} {bud : Int} {m : MS} {k : Nat} (kind i : Int) (h0 : 0 ≤ m.A.ops) (h1 : m.A.ops ≤ k) (hk : k ≤ 1000) :
    0 ≤ (mAct tail first n bud m kind i).A.ops ∧ (mAct tail first n bud m kind i).A.ops ≤ (k : Int) + 1 ∧ (mAct tail first n bud m kind i).A.ops ≤ m.A.ops + 1 ∧ (kind ≠ 0 → (mAct tail first n bud m kind i).A.ops = m.A.ops) := by
  obtain ⟨h2, h3⟩ := act_op (tail := tail) (first := first) (n := n) (bud := bud) (m := m) kind i
  have h4 := h2.op
  have e : wrap64 (m.A.ops + 1) = m.A.ops + 1 := by unfold wrap64; omega
  rw [e] at h4
  exact ⟨by omega, by omega, by omega, fun hne => by rw [h3 hne]⟩

theorem malthusOne_long (v u : Value) (n : Int) (lv : Value) (P T : List Int) (acts : List (Int × Int)) (w : World) (hx : RowAt w 0 v P) (hy : RowAt w 0 u T) (h : ActsAt w lv acts) (hl : 150 < acts.length) :
    Calls Try.prog 8 #[.agg #[v, u], .int .u8 n, lv] w fun e w' => e = .returned (.bool true) ∧ Below w.heap.size w w' := by
  obtain ⟨a, cap, rfl, -, -, -⟩ := h
  obtain ⟨a1, cap1, rfl, -, -⟩ := hx
  obtain ⟨a2, cap2, rfl, -, -⟩ := hy
  have d1 : decide ((150 : Int) < acts.length) = true := by simp; omega
  have d3 : decide (150 < acts.length) = true := by simp; omega
  go_enter Try.func8, Try.ntmps8
  go_wp2_with fail
  refine (mawake _).mono ?_
  rintro e w1 ⟨rfl, hF⟩
  have HF := Lib.hid (((Frm.refl [] w).alloc _).trans hF)
  clear hF
  go_wp2
  go_ret
  exact ⟨rfl, HF.out.below (Nat.le_refl _) (by simp)⟩
theorem malthusOne_none (v u : Value) (n : Int) (lv : Value) (P T : List Int) (acts : List (Int × Int)) (w : World) (hx : RowAt w 0 v P) (hy : RowAt w 0 u T) (h : ActsAt w lv acts) (hl : acts.length ≤ 150) (hs : ¬ tSmall P T 8) :
    Calls Try.prog 8 #[.agg #[v, u], .int .u8 n, lv] w fun e w' => e = .returned (.bool true) ∧ Below w.heap.size w w' := by
  have HM := Lib.hid (fun (W : World) (hf : Frm [] w W) => made_no (hx.frm hf (by simp)) (hy.frm hf (by simp)) hs n)
  have HS := Lib.hid (fun (W : World) (hf : Frm [] w W) => Small_any W (hx.frm hf (by simp)) (hy.frm hf (by simp)) 8)
  have HN := Lib.hid hs
  obtain ⟨a, cap, rfl, -, -, -⟩ := h
  obtain ⟨a1, cap1, rfl, -, -⟩ := hx
  obtain ⟨a2, cap2, rfl, -, -⟩ := hy
  have d1 : decide ((150 : Int) < acts.length) = false := by simp; omega
  have d3 : decide (150 < acts.length) = false := by simp; omega
  clear hs
  go_enter Try.func8, Try.ntmps8
  go_wp2_with fail
  refine (HM.out _ ((Frm.refl _ _).alloc _)).mono ?_
  rintro e w1 ⟨rfl, hF⟩
  have HF := Lib.hid (((Frm.refl [] w).alloc (.cells #[.slice a1 P.length cap1, .slice a2 T.length cap2] 58)).trans hF)
  have g := (HAt.new w #[.slice a1 P.length cap1, .slice a2 T.length cap2] 58).frm hF (by simp)
  have k0 := g.cell (i := 0) rfl
  have k1 := g.cell (i := 1) rfl
  clear hF g
  go_wp2_with fail
  refine (HS.out _ HF.out).mono ?_
  rintro e w2 ⟨r, rfl, hr, hF⟩
  obtain rfl : r = false := by cases r with | false => rfl | true => exact absurd (hr.1 rfl) HN.out
  have HF2 := Lib.hid (HF.out.trans hF)
  clear hF hr k0 k1
  go_wp2_with fail
  refine (mawake _).mono ?_
  rintro e w3 ⟨rfl, hF⟩
  have HF3 := Lib.hid (HF2.out.trans hF)
  clear hF
  go_wp2
  go_ret
  exact ⟨rfl, HF3.out.below (Nat.le_refl _) (by simp)⟩
set_option maxRecDepth 100000 in
set_option maxHeartbeats 8000000 in
theorem malthusOne_some (v u : Value) (n : Int) (lv : Value) (P T : List Int) (acts : List (Int × Int)) (w : World) (hn : U8 n) (hx : RowAt w 0 v P) (hy : RowAt w 0 u T) (h : ActsAt w lv acts) (hl : acts.length ≤ 150) (hs : tSmall P T 8) :
    Calls Try.prog 8 #[.agg #[v, u], .int .u8 n, lv] w fun e w' => e = .returned (.bool true) ∧ Below w.heap.size w w' := by
  have HM := Lib.hid (fun (W : World) (hf : Frm [] w W) => made_ok (hx.frm hf (by simp)) (hy.frm hf (by simp)) hs n hn)
  have hT8 := hs.2
  obtain ⟨a, cap, rfl, -, hc, -⟩ := h
  have HC := Lib.hid hc
  obtain ⟨a1, cap1, rfl, -, -⟩ := hx
  obtain ⟨a2, cap2, rfl, -, -⟩ := hy
  have d1 : decide ((150 : Int) < acts.length) = false := by simp; omega
  have d3 : decide (150 < acts.length) = false := by simp; omega
  clear hs hn hc
  go_enter Try.func8, Try.ntmps8
  go_wp2_with fail
  refine (HM.out _ ((Frm.refl _ _).alloc _)).mono ?_
  rintro e w1 ⟨lb, sb, bb, ab, wb, rfl, hlb, hsb, hbb, hab, hwb, hL, hI, hF⟩
  have g := (HAt.new w #[.slice a1 P.length cap1, .slice a2 T.length cap2] 58).frm hF (by simp)
  have hf := ((Frm.refl [] w).alloc (.cells #[.slice a1 P.length cap1, .slice a2 T.length cap2] 58)).trans hF
  simp at hlb hsb hbb hab hwb
  have HI := Lib.hid (show MWI w w1 w.heap.size [.slice a1 P.length cap1, .slice a2 T.length cap2] lb sb bb ab wb T.length (n % 4) ⟨{ AR.fresh 4096 with taken := 4 + 3 * T.length }, ⟨0, 0, 0, 0⟩, 0, fun _ _ => 0⟩ from ⟨hL, hI, hf, fun k hk => by simp at hk; omega, g, fun hk => by simp at hk; omega⟩)
  clear hF hL hI hf g hlb hsb hbb hab hwb
  generalize n % 4 = bud at *
  have m0 : 0 ≤ (⟨{ AR.fresh 4096 with taken := 4 + 3 * T.length }, ⟨0, 0, 0, 0⟩, 0, fun _ _ => 0⟩ : MS).A.ops ∧ (⟨{ AR.fresh 4096 with taken := 4 + 3 * T.length }, ⟨0, 0, 0, 0⟩, 0, fun _ _ => 0⟩ : MS).A.ops ≤ ((0 : Nat) : Int) := by show (0 : Int) ≤ 0 ∧ (0 : Int) ≤ 0; omega
  generalize (⟨{ AR.fresh 4096 with taken := 4 + 3 * T.length }, ⟨0, 0, 0, 0⟩, 0, fun _ _ => 0⟩ : MS) = ms0 at *
  have M0 := Lib.hid m0
  clear m0 HM
  generalize hq : T.length = q at *
  clear hq
  go_wp2_with fail
  go_loopw [10] (fun iv wx => ∃ (k : Nat) (m : MS), iv = .int .i64 k ∧ k ≤ acts.length ∧ MWI w wx w.heap.size [.slice a1 P.length cap1, .slice a2 q cap2] lb sb bb ab wb q bud m ∧ 0 ≤ m.A.ops ∧ m.A.ops ≤ k) (fun iv _ => acts.length - (intOf iv).toNat)
  case atStart => exact ⟨0, ms0, rfl, Nat.zero_le _, HI.out, M0.out.1, M0.out.2⟩
  case round =>
    obtain ⟨k, m, rfl, hk, hI, ho0, ho1⟩ := hrel
    have HI1 := Lib.hid hI
    have HOO := Lib.hid (And.intro ho0 ho1)
    clear hI HI ho0 ho1
    by_cases hlt : k < acts.length
    · obtain ⟨b, off, rfl, hb, hcell⟩ := HC.out (by omega)
      have ex : acts[k]? = some acts[k] := by simp
      have l1 : (k : Int) < acts.length := by omega
      have e0 : decide ((k : Int) < acts.length) = true := by simpa using hlt
      have e0' : decide (k < acts.length) = true := by simpa using hlt
      have hcx : ∀ wx, Frm [] w wx → wx.cell? ⟨b, off + k * 2, none⟩ = some (.int .i64 acts[k].1) ∧ wx.cell? ⟨b, off + k * 2 + 1, none⟩ = some (.int .i64 acts[k].2) := fun wx hf => ⟨hf.cell (hcell k _ ex).1 (by simp), hf.cell (hcell k _ ex).2 (by simp)⟩
      have HCX := Lib.hid hcx
      clear hcell ex hcx
      generalize acts[k] = x at *
      obtain ⟨kind, i⟩ := x
      simp only at HCX
      obtain ⟨v0, v1⟩ := HCX.out _ HI1.out.frm
      have HO := Lib.hid (act_ops (tail := 1) (first := 3 + 2 * q) (n := q) (bud := bud) (m := m) (k := k) kind i HOO.out.1 HOO.out.2 (by omega))
      go_wp2_with fail
      refine (Ops_any HI1.out.lk.ar).mono ?_
      rintro e w' ⟨rfl, rfl⟩
      go_wp2_with fail
      refine (HI1.out.do_ kind i).mono ?_
      rintro e w2 ⟨⟨bx, rfl⟩, hI⟩
      have HI2 := Lib.hid hI
      clear hI v0 v1
      generalize mAct 1 (3 + 2 * q) q bud m kind i = m2 at *
      generalize hops : m.A.ops = ops0 at *
      clear hops
      go_wp2_with fail
      go_loopw [13, 12] (fun kv hv wx => ∃ (j h : Nat), kv = .int .i64 j ∧ hv = .int .i64 h ∧ j ≤ q ∧ h ≤ 1 ∧ (h = 0 ∨ ∃ z, z < j ∧ m2.S z 0 = 10) ∧ MWI w wx w.heap.size [.slice a1 P.length cap1, .slice a2 q cap2] lb sb bb ab wb q bud m2) (fun kv _ _ => q - (intOf kv).toNat)
      case atStart => exact ⟨0, 0, rfl, rfl, Nat.zero_le _, by omega, .inl rfl, HI2.out⟩
      case round =>
        obtain ⟨j, h, rfl, rfl, hj, hh, hz, hI⟩ := hrel
        have HI3 := Lib.hid hI
        have HZ := Lib.hid hz
        have k0 := hI.top.cell (i := 0) rfl
        have k1 := hI.top.cell (i := 1) rfl
        clear hI HI2 hz
        by_cases hjl : j < q
        · have f0 : decide ((j : Int) < q) = true := by simpa using hjl
          have f0' : decide (j < q) = true := by simpa using hjl
          have fd := spotPc
          have HSP := Lib.hid (mSpot_any HI3.out.lk j)
          have hsv : spV q m2.S j = .agg #[.int .i64 (m2.S j 0), .int .i64 (m2.S j 1), .int .i64 (m2.S j 2), .int .i64 (m2.S j 3)] := by unfold spV sHas; rw [if_pos (by simpa using hjl)]; rfl
          rw [hsv] at HSP
          clear hsv
          by_cases hp : m2.S j 0 = 10
          · have hh0 : h = 0 := by
              rcases HZ.out with h0 | ⟨z, hz, hz10⟩
              · exact h0
              · have := HI3.out.inv.one (show z < q by omega) hjl hz10 hp; omega
            subst hh0
            have HP := Lib.hid hp
            rw [hp] at HSP
            clear hp HZ
            go_wp2_with fail
            refine HSP.out.mono ?_
            rintro e w3 ⟨rfl, hF⟩
            have HI4 := Lib.hid (HI3.out.kept hF)
            clear hF
            go_wp2_with fail
            go_roundw
            case rel => exact ⟨j + 1, 1, by go_num, rfl, by omega, by omega, .inr ⟨j, by omega, HP.out⟩, HI4.out⟩
            case measure => simp [intOf]; omega
          · have g0 : (m2.S j 0 == 10) = false := by simpa using hp
            generalize m2.S j 0 = pj at *
            go_wp2_with fail
            refine HSP.out.mono ?_
            rintro e w3 ⟨rfl, hF⟩
            have HI4 := Lib.hid (HI3.out.kept hF)
            clear hF
            go_wp2_with fail
            go_roundw
            case rel => exact ⟨j + 1, h, by go_num, rfl, by omega, hh, HZ.out.imp id (fun ⟨z, h1, h2⟩ => ⟨z, by omega, h2⟩), HI4.out⟩
            case measure => simp [intOf]; omega
        · have f0 : decide ((j : Int) < q) = false := by simpa using hjl
          have f0' : decide (j < q) = false := by simpa using hjl
          have g1 : decide ((1 : Int) < h) = false := by simp; omega
          have g1' : decide (1 < h) = false := by simp; omega
          obtain ⟨v0, v1⟩ := HCX.out _ HI3.out.frm
          have HOP := Lib.hid (Ops_any HI3.out.lk.ar)
          obtain ⟨o1, o2, o3, o4⟩ := HO.out
          have hoo := HOO.out
          have HO2 := Lib.hid (And.intro o1 o2)
          by_cases k0' : kind = 0
          · subst k0'
            have g2 : decide (ops0 + 1 < m2.A.ops) = false := by simp; omega
            have hr0 : 0 ≤ ops0 := hoo.1
            have hr1 : ops0 ≤ 1000 := by omega
            generalize hop : m2.A.ops = ops2 at *
            clear o1 o2 o3 o4 hoo HZ HO HOO
            go_wp2_with fail
            refine HOP.out.mono ?_
            rintro e w' ⟨rfl, rfl⟩
            go_wp2_with fail
            go_roundw
            case rel => exact ⟨k + 1, m2, by go_num, by omega, HI3.out, by rw [hop]; exact HO2.out.1, by rw [hop]; have := HO2.out.2; omega⟩
            case measure => simp [intOf]; omega
          · have ee := o4 k0'
            rw [ee] at HOP
            have g3 : (kind != 0) = true := by simpa using k0'
            have g2 : decide (ops0 + 1 < ops0) = false := by simp; omega
            have g4 : (ops0 != ops0) = false := by simp
            have hr0 : 0 ≤ ops0 := hoo.1
            have hr1 : ops0 ≤ 1000 := by omega
            have HEE := Lib.hid ee
            clear o1 o2 o3 o4 hoo HZ HO HOO ee k0'
            go_wp2_with fail
            refine HOP.out.mono ?_
            rintro e w' ⟨rfl, rfl⟩
            go_wp2_with fail
            refine HOP.out.mono ?_
            rintro e w' ⟨rfl, rfl⟩
            go_wp2_with fail
            go_roundw
            case rel => exact ⟨k + 1, m2, by go_num, by omega, HI3.out, HO2.out.1, by have := HO2.out.2; omega⟩
            case measure => simp [intOf]; omega
    · have e0 : decide ((k : Int) < acts.length) = false := by simpa using hlt
      have e0' : decide (k < acts.length) = false := by simpa using hlt
      go_wp2_with fail
      refine (mawake _).mono ?_
      rintro e w5 ⟨rfl, hF5⟩
      have HF5 := Lib.hid (HI1.out.frm.trans hF5)
      clear hF5
      go_wp2
      go_ret
      exact ⟨rfl, HF5.out.below (Nat.le_refl _) (by simp)⟩
theorem malthusOne_walk (v : Value) (PT : List Int × List Int) (n : Int) (lv : Value) (acts : List (Int × Int)) (w : World) (hT : TopoAt w v PT) (hn : U8 n) (h : ActsAt w lv acts) :
    Calls Try.prog 8 #[v, .int .u8 n, lv] w fun e w' => e = .returned (.bool true) ∧ Below w.heap.size w w' := by
  obtain ⟨v, u, rfl, hx, hy⟩ := hT
  by_cases hl : acts.length ≤ 150
  · by_cases hs : tSmall PT.1 PT.2 8
    · exact malthusOne_some v u n lv _ _ acts w hn hx hy h hl hs
    · exact malthusOne_none v u n lv _ _ acts w hx hy h hl hs
  · exact malthusOne_long v u n lv _ _ acts w hx hy h (by omega)
end Go.Proofs.Ytacogelejffbhaa
