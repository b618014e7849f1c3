/- The walk of the law MalthusPassed. (Printed by gen_malpassed.py.) -/
import Derived.Test.YtacogelejffbhaaMalOne
import Derived.Test.YtacogelejffbhaaMalPassed
namespace Go.Proofs.Ytacogelejffbhaa
open Go.RowKit

/-- the law's lock, its topology, and its row of counts -/
structure MPI (w0 w : World) (tb : Nat) (TV : List Value) (lb sb bb ab wb g n : Nat) (bud : Int) (m : MS) (p : Nat → Int) : Prop where
  mw : MWI w0 w tb TV lb sb bb ab wb n bud m
  row : HAt w g (insR n p) 3
  ng : g ∉ tb :: [lb, sb, bb, ab, wb]
  og : w0.heap.size ≤ g
section
variable {w0 w w1 : World} {tb : Nat} {TV : List Value} {lb sb bb ab wb g n : Nat} {bud : Int} {m m' : MS} {p p' : Nat → Int}
theorem MPI.kept (h : MPI w0 w tb TV lb sb bb ab wb g n bud m p) (hf : Frm [] w w1) : MPI w0 w1 tb TV lb sb bb ab wb g n bud m p := { h with mw := h.mw.kept hf, row := h.row.frm hf (by simp) }
theorem MPI.same (h : MPI w0 w tb TV lb sb bb ab wb g n bud m p) (e : ∀ k, k < n → p' k = p k) : MPI w0 w tb TV lb sb bb ab wb g n bud m p' := by
  have : insR n p' = insR n p := by
    unfold insR
    exact List.map_congr_left fun i hi => by rw [e i (List.mem_range.1 hi)]
  exact { h with row := by rw [this]; exact h.row }
theorem MPI.put (h : MPI w0 w tb TV lb sb bb ab wb g n bud m p) (k : Nat) (v : Int) (h1 : p' k = v) (h2 : ∀ i, i < n → i ≠ k → p' i = p i) : MPI w0 (w.setCell ⟨g, k, none⟩ (.int .i64 v)) tb TV lb sb bb ab wb g n bud m p' := by
  have hf : Frm [g] w (w.setCell ⟨g, k, none⟩ (.int .i64 v)) := (Frm.refl _ _).set ⟨g, k, none⟩ _ (.inl (by simp))
  have hr := h.row.set k (.int .i64 v)
  rw [insR_set h1 h2] at hr
  have hn := h.ng
  have hg : ∀ x ∈ tb :: [lb, sb, bb, ab, wb], x ∉ [g] := fun x hx hm => by simp at hm; subst hm; exact hn hx
  exact { h with row := hr, mw := { h.mw with lk := h.mw.lk.frm hf (fun x hx => hg x (List.mem_cons_of_mem _ hx)), frm := h.mw.frm.widen hf (fun x hx => .inr (by simp at hx; subst hx; exact h.og)), top := h.mw.top.frm hf (hg _ (by simp)) } }
theorem MPI.do_ (h : MPI w0 w tb TV lb sb bb ab wb g n bud m p) (kind i : Int) : Calls Try.prog 31 #[.pointer (some ⟨lb, 0, none⟩), .agg #[.int .i64 kind, .int .i64 i]] w fun e w' => (∃ b, e = .returned (.bool b)) ∧ MPI w0 w' tb TV lb sb bb ab wb g n bud (mAct 1 (3 + 2 * n) n bud m kind i) p :=
  (mDo_any h.mw.lk kind i (fun j hj => h.mw.inv.pc j hj)).mono fun _ _ ⟨h1, h2, h3⟩ => ⟨⟨_, h1.choose_spec⟩, { h with mw := h.mw.move (fun _ hk => hk) h3 h2 (h.mw.inv.act kind i), row := h.row.frm h3 (fun hm => h.ng (List.mem_cons_of_mem _ hm)) }⟩
theorem spV_ex (n : Nat) (m : MS) (i : Int) : ∃ a b c : Int, spV n m.S i = .agg #[.int .i64 (pcOf n m i), .int .i64 a, .int .i64 b, .int .i64 c] := by
  unfold spV pcOf
  split
  · exact ⟨_, _, _, rfl⟩
  · exact ⟨0, 0, 0, rfl⟩
theorem pcOf_has {i : Int} (h : pcOf n m i ≠ 0) : ∃ j : Nat, j < n ∧ i = j := by
  unfold pcOf at h
  by_cases hs : sHas n i
  · have : 0 ≤ i ∧ i < (n : Int) := by unfold sHas at hs; simpa using hs
    exact ⟨i.toNat, by omega, by omega⟩
  · rw [if_neg hs] at h; exact absurd rfl h
end
theorem malthusPassed_long (v u : Value) (n : Int) (lv : Value) (P T : List Int) (acts : List (Int × Int)) (w : World) (hx : RowAt w 0 v P) (hy : RowAt w 0 u T) (h : ActsAt w lv acts) (hl : 150 < acts.length) :
    Calls Try.prog 6 #[.agg #[v, u], .int .u8 n, lv] w fun e w' => e = .returned (.bool true) ∧ Below w.heap.size w w' := by
  obtain ⟨a, cap, rfl, -, -, -⟩ := h
  obtain ⟨a1, cap1, rfl, -, -⟩ := hx
  obtain ⟨a2, cap2, rfl, -, -⟩ := hy
  have d1 : decide ((150 : Int) < acts.length) = true := by simp; omega
  have d3 : decide (150 < acts.length) = true := by simp; omega
  go_enter Try.func6, Try.ntmps6
  go_wp2_with fail
  refine (mawake _).mono ?_
  rintro e w1 ⟨rfl, hF⟩
  have HF := Lib.hid (((Frm.refl [] w).alloc _).trans hF)
  clear hF
  go_wp2
  go_ret
  exact ⟨rfl, HF.out.below (Nat.le_refl _) (by simp)⟩
theorem malthusPassed_none (v u : Value) (n : Int) (lv : Value) (P T : List Int) (acts : List (Int × Int)) (w : World) (hx : RowAt w 0 v P) (hy : RowAt w 0 u T) (h : ActsAt w lv acts) (hl : acts.length ≤ 150) (hs : ¬ tSmall P T 8) :
    Calls Try.prog 6 #[.agg #[v, u], .int .u8 n, lv] w fun e w' => e = .returned (.bool true) ∧ Below w.heap.size w w' := by
  have HM := Lib.hid (fun (W : World) (hf : Frm [] w W) => made_no (hx.frm hf (by simp)) (hy.frm hf (by simp)) hs n)
  have HS := Lib.hid (fun (W : World) (hf : Frm [] w W) => Small_any W (hx.frm hf (by simp)) (hy.frm hf (by simp)) 8)
  have HN := Lib.hid hs
  obtain ⟨a, cap, rfl, -, -, -⟩ := h
  obtain ⟨a1, cap1, rfl, -, -⟩ := hx
  obtain ⟨a2, cap2, rfl, -, -⟩ := hy
  have d1 : decide ((150 : Int) < acts.length) = false := by simp; omega
  have d3 : decide (150 < acts.length) = false := by simp; omega
  clear hs
  go_enter Try.func6, Try.ntmps6
  go_wp2_with fail
  refine (HM.out _ ((Frm.refl _ _).alloc _)).mono ?_
  rintro e w1 ⟨rfl, hF⟩
  have HF := Lib.hid (((Frm.refl [] w).alloc (.cells #[.slice a1 P.length cap1, .slice a2 T.length cap2] 58)).trans hF)
  have g := (HAt.new w #[.slice a1 P.length cap1, .slice a2 T.length cap2] 58).frm hF (by simp)
  have k0 := g.cell (i := 0) rfl
  have k1 := g.cell (i := 1) rfl
  clear hF g
  go_wp2_with fail
  refine (HS.out _ HF.out).mono ?_
  rintro e w2 ⟨r, rfl, hr, hF⟩
  obtain rfl : r = false := by cases r with | false => rfl | true => exact absurd (hr.1 rfl) HN.out
  have HF2 := Lib.hid (HF.out.trans hF)
  clear hF hr k0 k1
  go_wp2_with fail
  refine (mawake _).mono ?_
  rintro e w3 ⟨rfl, hF⟩
  have HF3 := Lib.hid (HF2.out.trans hF)
  clear hF
  go_wp2
  go_ret
  exact ⟨rfl, HF3.out.below (Nat.le_refl _) (by simp)⟩
set_option maxRecDepth 100000 in
set_option maxHeartbeats 8000000 in
theorem malthusPassed_some (v u : Value) (n : Int) (lv : Value) (P T : List Int) (acts : List (Int × Int)) (w : World) (hn : U8 n) (hx : RowAt w 0 v P) (hy : RowAt w 0 u T) (h : ActsAt w lv acts) (hl : acts.length ≤ 150) (hs : tSmall P T 8) :
    Calls Try.prog 6 #[.agg #[v, u], .int .u8 n, lv] w fun e w' => e = .returned (.bool true) ∧ Below w.heap.size w w' := by
  have HM := Lib.hid (fun (W : World) (hf : Frm [] w W) => made_ok (hx.frm hf (by simp)) (hy.frm hf (by simp)) hs n hn)
  have hT8 := hs.2
  have hT1 : 1 ≤ T.length := hs.1.size.2.2.1
  have n0 : 0 ≤ n := hn.1
  have n1 : n ≤ 255 := hn.2
  obtain ⟨a, cap, rfl, -, hc, -⟩ := h
  have HC := Lib.hid hc
  obtain ⟨a1, cap1, rfl, -, -⟩ := hx
  obtain ⟨a2, cap2, rfl, -, -⟩ := hy
  have d1 : decide ((150 : Int) < acts.length) = false := by simp; omega
  have d3 : decide (150 < acts.length) = false := by simp; omega
  clear hs hn hc
  go_enter Try.func6, Try.ntmps6
  go_wp2_with fail
  refine (HM.out _ ((Frm.refl _ _).alloc _)).mono ?_
  rintro e w1 ⟨lb, sb, bb, ab, wb, rfl, hlb, hsb, hbb, hab, hwb, hL, hI, hF⟩
  have g := (HAt.new w #[.slice a1 P.length cap1, .slice a2 T.length cap2] 58).frm hF (by simp)
  have hf := ((Frm.refl [] w).alloc (.cells #[.slice a1 P.length cap1, .slice a2 T.length cap2] 58)).trans hF
  simp at hlb hsb hbb hab hwb
  have HI := Lib.hid (show MWI w w1 w.heap.size [.slice a1 P.length cap1, .slice a2 T.length cap2] lb sb bb ab wb T.length (n % 4) ⟨{ AR.fresh 4096 with taken := 4 + 3 * T.length }, ⟨0, 0, 0, 0⟩, 0, fun _ _ => 0⟩ from ⟨hL, hI, hf, fun k hk => by simp at hk; omega, g, fun hk => by simp at hk; omega⟩)
  clear hF hL hI hf g hlb hsb hbb hab hwb
  generalize hms : (⟨{ AR.fresh 4096 with taken := 4 + 3 * T.length }, ⟨0, 0, 0, 0⟩, 0, fun _ _ => 0⟩ : MS) = ms0 at *
  have HP0 := Lib.hid (show PInv 1 (3 + 2 * T.length) T.length ms0 (fun _ => 0) 0 from PInv.new (fun j => by rw [← hms]))
  clear hms HM
  generalize hq : T.length = q at *
  clear hq
  have mk := mkInsR q (by omega)
  have k0 := HI.out.top.cell (i := 0) rfl
  have k1 := HI.out.top.cell (i := 1) rfl
  go_upto_region 7 with fail
  generalize hW : World.alloc _ _ = W
  have hB : HAt W w1.heap.size (insR q (fun _ => 0)) 3 := by subst hW; exact HAt.new w1 _ _
  have hFW : Frm [] w1 W := by subst hW; exact (Frm.refl _ _).alloc _
  have hlk := HI.out.lk
  have HPI := Lib.hid (show MPI w W w.heap.size [.slice a1 P.length cap1, .slice a2 q cap2] lb sb bb ab wb w1.heap.size q (n % 4) ms0 (fun _ => 0) from ⟨HI.out.kept hFW, hB, fun hm => by
    have h1 : lb < w1.heap.size := MAt.box hlk |>.lt
    have h2 : sb < w1.heap.size := MAt.row hlk |>.lt
    have h3 : bb < w1.heap.size := (MAt.bn hlk).box.lt
    have h4 : ab < w1.heap.size := (MAt.ar hlk).box.lt
    have h5 : wb < w1.heap.size := (MAt.ar hlk).row.lt
    have h6 := HI.out.top.lt
    simp at hm; omega, HI.out.frm.size⟩)
  clear hW hB hFW mk k0 k1 hlk
  generalize w1.heap.size = g at *
  clear HI
  go_wp2_with fail
  go_loopw [11] (fun iv wx => ∃ (k : Nat) (m : MS) (p : Nat → Int), iv = .int .i64 k ∧ k ≤ acts.length ∧ MPI w wx w.heap.size [.slice a1 P.length cap1, .slice a2 q cap2] lb sb bb ab wb g q (n % 4) m p ∧ PInv 1 (3 + 2 * q) q m p k) (fun iv _ => acts.length - (intOf iv).toNat)
  case atStart => exact ⟨0, ms0, _, rfl, Nat.zero_le _, HPI.out, HP0.out⟩
  case round =>
    obtain ⟨k, m, p, rfl, hk, hI, hP⟩ := hrel
    have HI1 := Lib.hid hI
    have HP := Lib.hid hP
    clear hI hP HPI HP0
    by_cases hlt : k < acts.length
    · obtain ⟨b, off, rfl, hb, hcell⟩ := HC.out (by omega)
      have ex : acts[k]? = some acts[k] := by simp
      have l1 : (k : Int) < acts.length := by omega
      have e0 : decide ((k : Int) < acts.length) = true := by simpa using hlt
      have e0' : decide (k < acts.length) = true := by simpa using hlt
      have hcx : ∀ wx, Frm [] w wx → wx.cell? ⟨b, off + k * 2, none⟩ = some (.int .i64 acts[k].1) ∧ wx.cell? ⟨b, off + k * 2 + 1, none⟩ = some (.int .i64 acts[k].2) := fun wx hf => ⟨hf.cell (hcell k _ ex).1 (by simp), hf.cell (hcell k _ ex).2 (by simp)⟩
      have HCX := Lib.hid hcx
      clear hcell ex hcx
      generalize acts[k] = x at *
      obtain ⟨kind, i⟩ := x
      simp only at HCX
      obtain ⟨v0, v1⟩ := HCX.out _ HI1.out.mw.frm
      have HP2 := Lib.hid (HP.out.act (bud := n % 4) HI1.out.mw.inv kind i)
      have HHas := Lib.hid (fun h => pcOf_has (n := q) (m := m) (i := i) h)
      have HNN := Lib.hid HP.out.nn
      obtain ⟨x1, x2, x3, hsv⟩ := spV_ex q m i
      have HSP := Lib.hid (mSpot_any HI1.out.mw.lk i)
      rw [hsv] at HSP
      have fd := spotPc
      clear hsv HP
      generalize pcOf q m i = was at *
      go_wp2_with fail
      refine HSP.out.mono ?_
      rintro e w2 ⟨rfl, hF⟩
      have HI2 := Lib.hid (HI1.out.kept hF)
      obtain ⟨v2, v3⟩ := HCX.out _ HI2.out.mw.frm
      clear hF HSP v0 v1
      go_wp2_with fail
      refine (HI2.out.do_ kind i).mono ?_
      rintro e w3 ⟨⟨bx, rfl⟩, hI⟩
      have HI3 := Lib.hid hI
      clear hI v2 v3
      generalize mAct 1 (3 + 2 * q) q (n % 4) m kind i = m2 at *
      obtain ⟨y1, y2, y3, hsv⟩ := spV_ex q m2 i
      have HSP := Lib.hid (mSpot_any HI3.out.mw.lk i)
      rw [hsv] at HSP
      have HHas2 := Lib.hid (fun h => pcOf_has (n := q) (m := m2) (i := i) h)
      clear hsv
      generalize pcOf q m2 i = now at *
      go_wp2_with fail
      refine HSP.out.mono ?_
      rintro e w4 ⟨rfl, hF⟩
      have HI4 := Lib.hid (HI3.out.kept hF)
      clear hF HSP HI3 HI2 HI1
      by_cases c3 : was = 3 ∧ now ≠ 3
      · obtain ⟨j, hj, rfl⟩ := HHas.out (by omega)
        obtain ⟨rfl, hn3⟩ := c3
        have t1 : (now != 3) = true := by simpa using hn3
        have l2 : (j : Int) < q := by omega
        have HJ := Lib.hid hj
        have ej : ((j : Int)).toNat = j := by omega
        rw [ej] at HP2
        have hpr := fun (k : Nat) (hk : k < q) => pReset_le (j := j) HNN.out 3 now hk
        have HQ1 := Lib.hid (fun (k : Nat) (hk : k < q) => (hpr k hk).1)
        generalize hp1 : pReset p 3 now j = p1 at *
        have HP1 := Lib.hid (HI4.out.put j 0 (p' := p1) ((hpr j hj).2.2.2 rfl rfl hn3) (fun i hi hne => (hpr i hi).2.2.1 hne))
        have cz := HI4.out.row.cell (i := j) (insR_get _ hj)
        have hfz := HI4.out.row.frozen
        have HP1E := Lib.hid hp1
        clear hpr hp1 hj ej
        by_cases n10 : now = 10
        · subst n10
          have HP2' := Lib.hid (show PInv 1 (3 + 2 * q) q m2 (pPass m2.S p1 j) (k + 1) by have := HP2.out; unfold pAct at this; rw [if_pos (by omega), HP1E.out] at this; exact this)
          clear HP2 hn3 t1
          obtain ⟨HP2, rfl⟩ : ∃ H, H = HP2' := ⟨_, rfl⟩
          go_upto_region 16 with fail
          generalize w4.setCell ⟨g, j, none⟩ (.int .i64 0) = W4 at *
          clear cz hfz HI4
          have HPP := Lib.hid HP1.out
          go_wp2_with fail
          go_loopw [15] (fun zv wx => ∃ z : Nat, zv = .int .i64 z ∧ z ≤ q ∧ MPI w wx w.heap.size [.slice a1 P.length cap1, .slice a2 q cap2] lb sb bb ab wb g q (n % 4) m2 (fun k => if k < z then pPass m2.S p1 j k else p1 k)) (fun zv _ => q - (intOf zv).toNat)
          case atStart => exact ⟨0, rfl, Nat.zero_le _, by simpa using HPP.out⟩
          case round =>
            obtain ⟨z, rfl, hz, hI⟩ := hrel
            have HI5 := Lib.hid hI
            have k0 := hI.mw.top.cell (i := 0) rfl
            have k1 := hI.mw.top.cell (i := 1) rfl
            clear hI HPP HP1
            by_cases hzl : z < q
            · have f0 : decide ((z : Int) < q) = true := by simpa using hzl
              have f0' : decide (z < q) = true := by simpa using hzl
              have l1 : (z : Int) < q := by omega
              have fd := spotPc
              have HSP := Lib.hid (mSpot_any HI5.out.mw.lk z)
              have hsv : spV q m2.S z = .agg #[.int .i64 (m2.S z 0), .int .i64 (m2.S z 1), .int .i64 (m2.S z 2), .int .i64 (m2.S z 3)] := by unfold spV sHas; rw [if_pos (by simpa using hzl)]; rfl
              rw [hsv] at HSP
              clear hsv
              by_cases hc : z ≠ j ∧ 3 < m2.S z 0 ∧ m2.S z 0 < 10
              · have c1 : ((z : Int) != (j : Int)) = true := by have := hc.1; simp; omega
                have c1' : (z != j) = true := by have := hc.1; simpa using this
                have c2 : decide (3 < m2.S z 0) = true := by simpa using hc.2.1
                have c3 : decide (m2.S z 0 < 10) = true := by simpa using hc.2.2
                have e2 : pPass m2.S p1 j z = p1 z + 1 := by unfold pPass; rw [if_pos hc]
                have hw : m2.S z 0 = 4 ∨ m2.S z 0 = 5 := (HI5.out.mw.inv.pc z hzl).mid hc.2.1 hc.2.2
                have hm := HP2.out.most (bud := n % 4) (by omega) (by omega) (by omega) (by omega) hzl HJ.out hc.1 hw
                have ha := HP2.out.acts z hzl
                have hs := (sumP_ge m2.S z q).1
                have h0 := HP2.out.nn z hzl
                rw [e2] at hm ha h0
                have hge : 0 ≤ p1 z := HQ1.out z hzl
                have hle : p1 z ≤ 100 := by push_cast at ha; omega
                generalize hmo : mMost (q : Int) (n % 4) = most at *
                have HMO := Lib.hid hmo
                have g9 : decide (most < p1 z + 1) = false := by simp; omega
                have cz := HI5.out.row.cell (i := z) (insR_get _ hzl)
                rw [if_neg (Nat.lt_irrefl z)] at cz
                have hfz := HI5.out.row.frozen
                have E2 := Lib.hid e2
                clear hc hm ha hs h0 e2 hmo hw
                generalize m2.S z 0 = pz at *
                go_wp2_with fail
                refine HSP.out.mono ?_
                rintro e w3 ⟨rfl, hF⟩
                have HI6 := Lib.hid (HI5.out.kept hF)
                have cz2 := hF.cell cz (by simp)
                have hfz2 := HI6.out.row.frozen
                have k1' := HI6.out.mw.top.cell (i := 1) rfl
                have HI7 := Lib.hid (HI6.out.put z (p1 z + 1) (p' := fun k => if k < z + 1 then pPass m2.S p1 j k else p1 k) (by show (if z < z + 1 then _ else _) = _; rw [if_pos (by omega)]; exact E2.out) (fun k hk hne => by
                  show (if k < z + 1 then _ else _) = (if k < z then _ else _)
                  by_cases h : k < z
                  · rw [if_pos h, if_pos (by omega)]
                  · rw [if_neg h, if_neg (by omega)]))
                clear hF cz hfz k0 k1
                go_upto_region 23 with fail
                generalize w3.setCell ⟨g, z, none⟩ (.int .i64 (p1 z + 1)) = W4 at *
                clear cz2 hfz2 k1' HI6
                have hne : Nonempty (HW (fun wx => Frm [] W4 wx)) := ⟨⟨W4, Frm.refl _ _⟩⟩
                have hz0 : ∀ y : HW (fun wx => Frm [] W4 wx), y.w.cell? ⟨g, z, none⟩ = some (.int .i64 (p1 z + 1)) := fun y => by
                  have := (HI7.out.row.frm y.h (by simp)).cell (i := z) (insR_get _ hzl)
                  rwa [if_pos (by omega), E2.out] at this
                have hz1 : ∀ y : HW (fun wx => Frm [] W4 wx), y.w.cell? ⟨w.heap.size, 1, none⟩ = some (.slice a2 q cap2) := fun y => (HI7.out.mw.top.frm y.h (by simp)).cell (i := 1) rfl
                refine held_begin (S := fun wx => Frm [] W4 wx) (by kernel_rfl) ?_
                refine held_row_at (fuel := 2) (is := [0, 1, 2, 3, 4, 5, 6, 7, 8, 9]) (.cons rfl (.cons rfl (.cons rfl (.cons rfl (.cons rfl (.cons rfl (.cons rfl (.cons rfl (.cons rfl (.cons rfl .nil)))))))))) (by kernel_rfl) (fun _ _ _ _ _ h => h) rfl (by kernel_rfl) (Frm.refl _ _).drew1 ?_
                intro K hK
                repeat (go_big_quiet_step (fail))
                refine wpQuiet_nil (hK _ ?_)
                clear hK K
                refine held_call (fuel := 1) (i := 10) rfl (by kernel_rfl) ?_
                go_wp2_with fail
                refine (most_any _ (q : Int) (n % 4)).mono ?_; rw [HMO.out]; rintro e w9 ⟨rfl, rfl⟩
                go_wp2_with fail
                refine onNormal_mk ⟨(Frm.refl _ _).drew1, ?_⟩
                refine held_row_at (fuel := 0) (is := [11]) (.cons rfl .nil) (by kernel_rfl) (fun _ _ _ _ _ h => h) rfl (by kernel_rfl) (Frm.refl _ _).drew1 ?_
                intro K hK
                repeat (go_big_quiet_step (fail))
                refine wpQuiet_nil (hK _ ?_)
                clear hK K
                refine held_end (by kernel_rfl) ?_
                have HI8 := Lib.hid (HI7.out.kept (Frm.refl [] W4).drew1)
                clear hne hz0 hz1 HI7
                go_wp2_with fail
                go_roundw
                case rel => exact ⟨z + 1, by go_num, by omega, HI8.out⟩
                case measure => simp [intOf]; omega
              · have e2 : pPass m2.S p1 j z = p1 z := by unfold pPass; rw [if_neg hc]
                have HI6 : Hid (∀ W, Frm [] wr W → MPI w W w.heap.size [.slice a1 P.length cap1, .slice a2 q cap2] lb sb bb ab wb g q (n % 4) m2 (fun k => if k < z + 1 then pPass m2.S p1 j k else p1 k)) := Lib.hid (fun W hf => (HI5.out.kept hf).same (fun k hk => by
                  show (if k < z + 1 then _ else _) = (if k < z then _ else _)
                  by_cases h : k < z
                  · rw [if_pos h, if_pos (by omega)]
                  · rw [if_neg h]
                    by_cases e : k = z
                    · subst e; rw [if_pos (by omega)]; exact e2
                    · rw [if_neg (by omega)]))
                clear e2
                by_cases hzj : z = j
                · have c1 : ((z : Int) != (j : Int)) = false := by simp; omega
                  have c1' : (z != j) = false := by simpa using hzj
                  clear hc hzj
                  go_wp2_with fail
                  refine HSP.out.mono ?_
                  rintro e w3 ⟨rfl, hF⟩
                  have HI7 := Lib.hid (HI6.out _ hF)
                  clear hF
                  go_wp2_with fail
                  go_roundw
                  case rel => exact ⟨z + 1, by go_num, by omega, HI7.out⟩
                  case measure => simp [intOf]; omega
                · have c1 : ((z : Int) != (j : Int)) = true := by simp; omega
                  have c1' : (z != j) = true := by simpa using hzj
                  by_cases h3 : 3 < m2.S z 0
                  · have c2 : decide (3 < m2.S z 0) = true := by simpa using h3
                    have c3 : decide (m2.S z 0 < 10) = false := by simp; have := fun h => hc ⟨hzj, h3, h⟩; omega
                    clear hc h3
                    generalize m2.S z 0 = pz at *
                    go_wp2_with fail
                    refine HSP.out.mono ?_
                    rintro e w3 ⟨rfl, hF⟩
                    have HI7 := Lib.hid (HI6.out _ hF)
                    clear hF
                    go_wp2_with fail
                    go_roundw
                    case rel => exact ⟨z + 1, by go_num, by omega, HI7.out⟩
                    case measure => simp [intOf]; omega
                  · have c2 : decide (3 < m2.S z 0) = false := by simpa using h3
                    clear hc h3
                    generalize m2.S z 0 = pz at *
                    go_wp2_with fail
                    refine HSP.out.mono ?_
                    rintro e w3 ⟨rfl, hF⟩
                    have HI7 := Lib.hid (HI6.out _ hF)
                    clear hF
                    go_wp2_with fail
                    go_roundw
                    case rel => exact ⟨z + 1, by go_num, by omega, HI7.out⟩
                    case measure => simp [intOf]; omega
            · have f0 : decide ((z : Int) < q) = false := by simpa using hzl
              have f0' : decide (z < q) = false := by simpa using hzl
              have HI6 := Lib.hid (HI5.out.same (p' := pPass m2.S p1 j) (fun k hk => by rw [if_pos (by omega)]))
              go_wp2_with fail
              go_roundw
              case rel => exact ⟨k + 1, m2, _, by go_num, by omega, HI6.out, HP2.out⟩
              case measure => simp [intOf]; omega
        · have t2 : (now != 10) = true := by simpa using n10
          have HP2' := Lib.hid (show PInv 1 (3 + 2 * q) q m2 p1 (k + 1) by have := HP2.out; unfold pAct at this; rw [if_neg (by omega), HP1E.out] at this; exact this)
          clear HP2 hn3 n10
          go_wp2_with fail
          go_roundw
          case rel => exact ⟨k + 1, m2, _, by go_num, by omega, HP1.out, HP2'.out⟩
          case measure => simp [intOf]; omega
      · have ep : ∀ j, pReset p was now j = p := fun j => by unfold pReset; rw [if_neg c3]
        have HEP := Lib.hid ep
        have guard : (was == 3 && now != 3) = false := by
          cases h1 : (was == 3) <;> cases h2 : (now != 3) <;> simp_all
        clear ep
        by_cases b10 : 10 ≤ was
        · have t2 : decide (10 ≤ was) = true := by simpa using b10
          have t1 : (was == 3) = false := by simp; omega
          have HP2' := Lib.hid (show PInv 1 (3 + 2 * q) q m2 p (k + 1) by have := HP2.out; unfold pAct at this; rw [if_neg (by omega), HEP.out] at this; exact this)
          clear HP2 c3 guard
          go_wp2_with fail
          go_roundw
          case rel => exact ⟨k + 1, m2, _, by go_num, by omega, HI4.out, HP2'.out⟩
          case measure => simp [intOf]; omega
        · have t2 : decide (10 ≤ was) = false := by simpa using b10
          by_cases n10 : now = 10
          · subst n10
            have w3 : was ≠ 3 := fun e => c3 ⟨e, by omega⟩
            have t1 : (was == 3) = false := by simpa using w3
            obtain ⟨j, hj, rfl⟩ := HHas2.out (by omega)
            have ej : ((j : Int)).toNat = j := by omega
            rw [ej] at HP2
            have HJ := Lib.hid hj
            have HP2' := Lib.hid (show PInv 1 (3 + 2 * q) q m2 (pPass m2.S p j) (k + 1) by have := HP2.out; unfold pAct at this; rw [if_pos (by omega), HEP.out] at this; exact this)
            obtain ⟨p1, rfl⟩ : ∃ p1, p1 = p := ⟨_, rfl⟩
            have HP1 := Lib.hid HI4.out
            have HQ1 := Lib.hid HNN.out
            clear HP2 HI4 w3 ej hj c3 guard b10
            obtain ⟨HP2, rfl⟩ : ∃ H, H = HP2' := ⟨_, rfl⟩
            have HPP := Lib.hid HP1.out
            go_wp2_with fail
            go_loopw [15] (fun zv wx => ∃ z : Nat, zv = .int .i64 z ∧ z ≤ q ∧ MPI w wx w.heap.size [.slice a1 P.length cap1, .slice a2 q cap2] lb sb bb ab wb g q (n % 4) m2 (fun k => if k < z then pPass m2.S p1 j k else p1 k)) (fun zv _ => q - (intOf zv).toNat)
            case atStart => exact ⟨0, rfl, Nat.zero_le _, by simpa using HPP.out⟩
            case round =>
              obtain ⟨z, rfl, hz, hI⟩ := hrel
              have HI5 := Lib.hid hI
              have k0 := hI.mw.top.cell (i := 0) rfl
              have k1 := hI.mw.top.cell (i := 1) rfl
              clear hI HPP HP1
              by_cases hzl : z < q
              · have f0 : decide ((z : Int) < q) = true := by simpa using hzl
                have f0' : decide (z < q) = true := by simpa using hzl
                have l1 : (z : Int) < q := by omega
                have fd := spotPc
                have HSP := Lib.hid (mSpot_any HI5.out.mw.lk z)
                have hsv : spV q m2.S z = .agg #[.int .i64 (m2.S z 0), .int .i64 (m2.S z 1), .int .i64 (m2.S z 2), .int .i64 (m2.S z 3)] := by unfold spV sHas; rw [if_pos (by simpa using hzl)]; rfl
                rw [hsv] at HSP
                clear hsv
                by_cases hc : z ≠ j ∧ 3 < m2.S z 0 ∧ m2.S z 0 < 10
                · have c1 : ((z : Int) != (j : Int)) = true := by have := hc.1; simp; omega
                  have c1' : (z != j) = true := by have := hc.1; simpa using this
                  have c2 : decide (3 < m2.S z 0) = true := by simpa using hc.2.1
                  have c3 : decide (m2.S z 0 < 10) = true := by simpa using hc.2.2
                  have e2 : pPass m2.S p1 j z = p1 z + 1 := by unfold pPass; rw [if_pos hc]
                  have hw : m2.S z 0 = 4 ∨ m2.S z 0 = 5 := (HI5.out.mw.inv.pc z hzl).mid hc.2.1 hc.2.2
                  have hm := HP2.out.most (bud := n % 4) (by omega) (by omega) (by omega) (by omega) hzl HJ.out hc.1 hw
                  have ha := HP2.out.acts z hzl
                  have hs := (sumP_ge m2.S z q).1
                  have h0 := HP2.out.nn z hzl
                  rw [e2] at hm ha h0
                  have hge : 0 ≤ p1 z := HQ1.out z hzl
                  have hle : p1 z ≤ 100 := by push_cast at ha; omega
                  generalize hmo : mMost (q : Int) (n % 4) = most at *
                  have HMO := Lib.hid hmo
                  have g9 : decide (most < p1 z + 1) = false := by simp; omega
                  have cz := HI5.out.row.cell (i := z) (insR_get _ hzl)
                  rw [if_neg (Nat.lt_irrefl z)] at cz
                  have hfz := HI5.out.row.frozen
                  have E2 := Lib.hid e2
                  clear hc hm ha hs h0 e2 hmo hw
                  generalize m2.S z 0 = pz at *
                  go_wp2_with fail
                  refine HSP.out.mono ?_
                  rintro e w3 ⟨rfl, hF⟩
                  have HI6 := Lib.hid (HI5.out.kept hF)
                  have cz2 := hF.cell cz (by simp)
                  have hfz2 := HI6.out.row.frozen
                  have k1' := HI6.out.mw.top.cell (i := 1) rfl
                  have HI7 := Lib.hid (HI6.out.put z (p1 z + 1) (p' := fun k => if k < z + 1 then pPass m2.S p1 j k else p1 k) (by show (if z < z + 1 then _ else _) = _; rw [if_pos (by omega)]; exact E2.out) (fun k hk hne => by
                    show (if k < z + 1 then _ else _) = (if k < z then _ else _)
                    by_cases h : k < z
                    · rw [if_pos h, if_pos (by omega)]
                    · rw [if_neg h, if_neg (by omega)]))
                  clear hF cz hfz k0 k1
                  go_upto_region 23 with fail
                  generalize w3.setCell ⟨g, z, none⟩ (.int .i64 (p1 z + 1)) = W4 at *
                  clear cz2 hfz2 k1' HI6
                  have hne : Nonempty (HW (fun wx => Frm [] W4 wx)) := ⟨⟨W4, Frm.refl _ _⟩⟩
                  have hz0 : ∀ y : HW (fun wx => Frm [] W4 wx), y.w.cell? ⟨g, z, none⟩ = some (.int .i64 (p1 z + 1)) := fun y => by
                    have := (HI7.out.row.frm y.h (by simp)).cell (i := z) (insR_get _ hzl)
                    rwa [if_pos (by omega), E2.out] at this
                  have hz1 : ∀ y : HW (fun wx => Frm [] W4 wx), y.w.cell? ⟨w.heap.size, 1, none⟩ = some (.slice a2 q cap2) := fun y => (HI7.out.mw.top.frm y.h (by simp)).cell (i := 1) rfl
                  refine held_begin (S := fun wx => Frm [] W4 wx) (by kernel_rfl) ?_
                  refine held_row_at (fuel := 2) (is := [0, 1, 2, 3, 4, 5, 6, 7, 8, 9]) (.cons rfl (.cons rfl (.cons rfl (.cons rfl (.cons rfl (.cons rfl (.cons rfl (.cons rfl (.cons rfl (.cons rfl .nil)))))))))) (by kernel_rfl) (fun _ _ _ _ _ h => h) rfl (by kernel_rfl) (Frm.refl _ _).drew1 ?_
                  intro K hK
                  repeat (go_big_quiet_step (fail))
                  refine wpQuiet_nil (hK _ ?_)
                  clear hK K
                  refine held_call (fuel := 1) (i := 10) rfl (by kernel_rfl) ?_
                  go_wp2_with fail
                  refine (most_any _ (q : Int) (n % 4)).mono ?_; rw [HMO.out]; rintro e w9 ⟨rfl, rfl⟩
                  go_wp2_with fail
                  refine onNormal_mk ⟨(Frm.refl _ _).drew1, ?_⟩
                  refine held_row_at (fuel := 0) (is := [11]) (.cons rfl .nil) (by kernel_rfl) (fun _ _ _ _ _ h => h) rfl (by kernel_rfl) (Frm.refl _ _).drew1 ?_
                  intro K hK
                  repeat (go_big_quiet_step (fail))
                  refine wpQuiet_nil (hK _ ?_)
                  clear hK K
                  refine held_end (by kernel_rfl) ?_
                  have HI8 := Lib.hid (HI7.out.kept (Frm.refl [] W4).drew1)
                  clear hne hz0 hz1 HI7
                  go_wp2_with fail
                  go_roundw
                  case rel => exact ⟨z + 1, by go_num, by omega, HI8.out⟩
                  case measure => simp [intOf]; omega
                · have e2 : pPass m2.S p1 j z = p1 z := by unfold pPass; rw [if_neg hc]
                  have HI6 : Hid (∀ W, Frm [] wr W → MPI w W w.heap.size [.slice a1 P.length cap1, .slice a2 q cap2] lb sb bb ab wb g q (n % 4) m2 (fun k => if k < z + 1 then pPass m2.S p1 j k else p1 k)) := Lib.hid (fun W hf => (HI5.out.kept hf).same (fun k hk => by
                    show (if k < z + 1 then _ else _) = (if k < z then _ else _)
                    by_cases h : k < z
                    · rw [if_pos h, if_pos (by omega)]
                    · rw [if_neg h]
                      by_cases e : k = z
                      · subst e; rw [if_pos (by omega)]; exact e2
                      · rw [if_neg (by omega)]))
                  clear e2
                  by_cases hzj : z = j
                  · have c1 : ((z : Int) != (j : Int)) = false := by simp; omega
                    have c1' : (z != j) = false := by simpa using hzj
                    clear hc hzj
                    go_wp2_with fail
                    refine HSP.out.mono ?_
                    rintro e w3 ⟨rfl, hF⟩
                    have HI7 := Lib.hid (HI6.out _ hF)
                    clear hF
                    go_wp2_with fail
                    go_roundw
                    case rel => exact ⟨z + 1, by go_num, by omega, HI7.out⟩
                    case measure => simp [intOf]; omega
                  · have c1 : ((z : Int) != (j : Int)) = true := by simp; omega
                    have c1' : (z != j) = true := by simpa using hzj
                    by_cases h3 : 3 < m2.S z 0
                    · have c2 : decide (3 < m2.S z 0) = true := by simpa using h3
                      have c3 : decide (m2.S z 0 < 10) = false := by simp; have := fun h => hc ⟨hzj, h3, h⟩; omega
                      clear hc h3
                      generalize m2.S z 0 = pz at *
                      go_wp2_with fail
                      refine HSP.out.mono ?_
                      rintro e w3 ⟨rfl, hF⟩
                      have HI7 := Lib.hid (HI6.out _ hF)
                      clear hF
                      go_wp2_with fail
                      go_roundw
                      case rel => exact ⟨z + 1, by go_num, by omega, HI7.out⟩
                      case measure => simp [intOf]; omega
                    · have c2 : decide (3 < m2.S z 0) = false := by simpa using h3
                      clear hc h3
                      generalize m2.S z 0 = pz at *
                      go_wp2_with fail
                      refine HSP.out.mono ?_
                      rintro e w3 ⟨rfl, hF⟩
                      have HI7 := Lib.hid (HI6.out _ hF)
                      clear hF
                      go_wp2_with fail
                      go_roundw
                      case rel => exact ⟨z + 1, by go_num, by omega, HI7.out⟩
                      case measure => simp [intOf]; omega
              · have f0 : decide ((z : Int) < q) = false := by simpa using hzl
                have f0' : decide (z < q) = false := by simpa using hzl
                have HI6 := Lib.hid (HI5.out.same (p' := pPass m2.S p1 j) (fun k hk => by rw [if_pos (by omega)]))
                go_wp2_with fail
                go_roundw
                case rel => exact ⟨k + 1, m2, _, by go_num, by omega, HI6.out, HP2.out⟩
                case measure => simp [intOf]; omega
          · have t3 : (now != 10) = true := by simpa using n10
            have HP2' := Lib.hid (show PInv 1 (3 + 2 * q) q m2 p (k + 1) by have := HP2.out; unfold pAct at this; rw [if_neg (by omega), HEP.out] at this; exact this)
            clear HP2 n10
            by_cases w3 : was = 3
            · have n3 : now = 3 := Classical.byContradiction fun e => c3 ⟨w3, e⟩
              subst w3 n3
              clear c3 guard
              go_wp2_with fail
              go_roundw
              case rel => exact ⟨k + 1, m2, _, by go_num, by omega, HI4.out, HP2'.out⟩
              case measure => simp [intOf]; omega
            · have t1 : (was == 3) = false := by simpa using w3
              clear c3 guard w3
              go_wp2_with fail
              go_roundw
              case rel => exact ⟨k + 1, m2, _, by go_num, by omega, HI4.out, HP2'.out⟩
              case measure => simp [intOf]; omega
    · have e0 : decide ((k : Int) < acts.length) = false := by simpa using hlt
      have e0' : decide (k < acts.length) = false := by simpa using hlt
      go_wp2_with fail
      refine (mawake _).mono ?_
      rintro e w5 ⟨rfl, hF5⟩
      have HF5 := Lib.hid (HI1.out.mw.frm.trans hF5)
      clear hF5
      go_wp2
      go_ret
      exact ⟨rfl, HF5.out.below (Nat.le_refl _) (by simp)⟩
theorem malthusPassed_walk (v : Value) (PT : List Int × List Int) (n : Int) (lv : Value) (acts : List (Int × Int)) (w : World) (hT : TopoAt w v PT) (hn : U8 n) (h : ActsAt w lv acts) :
    Calls Try.prog 6 #[v, .int .u8 n, lv] w fun e w' => e = .returned (.bool true) ∧ Below w.heap.size w w' := by
  obtain ⟨v, u, rfl, hx, hy⟩ := hT
  by_cases hl : acts.length ≤ 150
  · by_cases hs : tSmall PT.1 PT.2 8
    · exact malthusPassed_some v u n lv _ _ acts w hn hx hy h hl hs
    · exact malthusPassed_none v u n lv _ _ acts w hx hy h hl hs
  · exact malthusPassed_long v u n lv _ _ acts w hx hy h (by omega)
end Go.Proofs.Ytacogelejffbhaa
