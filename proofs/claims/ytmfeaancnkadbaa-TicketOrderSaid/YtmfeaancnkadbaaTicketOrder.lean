/- The walk of the law TicketOrder. -/
import Derived.Test.YtmfeaancnkadbaaActRow
namespace Go.Proofs.Ytmfeaancnkadbaa
open Go.RowKit

theorem own_lt' {W : World} {base : Nat} {out : Value} {zs : List Int} (h : Own W base out zs) {g : Nat} (hg : out.ownBlock = some g) : base ≤ g ∧ g < W.heap.size := by
  rcases h.2 with ⟨rfl, _⟩ | ⟨g', cap, cur, rfl, hb, hh, _⟩
  · simp [Value.ownBlock] at hg
  · obtain rfl : g' = g := by simpa [Value.ownBlock] using hg
    exact ⟨hb, (Array.getElem?_eq_some_iff.1 hh).1⟩
theorem own_keep' {W W' : World} {base : Nat} {out : Value} {zs : List Int} (h : Own W base out zs) (hk : ∀ g, out.ownBlock = some g → W'.heap[g]? = W.heap[g]?) : Own W' base out zs := by
  obtain ⟨h1, h2⟩ := h
  refine ⟨h1, ?_⟩
  rcases h2 with h2 | ⟨g, cap, cur, rfl, hb, hh, r⟩
  · exact .inl h2
  · exact .inr ⟨g, cap, cur, rfl, hb, (hk g (by simp [Value.ownBlock])).trans hh, r⟩
theorem own_form' {w : World} {base : Nat} {out : Value} {zs : List Int} (h : Own w base out zs) : ∃ a cap, out = .slice a zs.length cap := by
  rcases h.2 with ⟨rfl, h0⟩ | ⟨g, cap, cur, rfl, -⟩
  · exact ⟨none, 0, by rw [h0]⟩
  · exact ⟨_, _, rfl⟩

/-- two rows of one's own beside the lock: the doors, and who held -/
structure KLI (w0 w3 w : World) (wb ab lb sb n : Nat) (σ : KS) (k : Nat) (dv hv : Value) (D0 H0 : List Int) : Prop where
  koi : KOI w0 w wb ab lb sb n σ.S σ.A σ.D σ.V k
  frm : Frm [sb, ab, wb] w3 w
  own1 : Own w w3.heap.size dv D0
  own2 : Own w w3.heap.size hv H0
  dis : ∀ g, dv.ownBlock = some g → hv.ownBlock ≠ some g
  b0 : w0.heap.size ≤ w3.heap.size
  b1 : wb < w3.heap.size
  b2 : ab < w3.heap.size
  b3 : lb < w3.heap.size
  b4 : sb < w3.heap.size

section
variable {w0 w3 w w1 : World} {wb ab lb sb n k : Nat} {σ : KS} {dv hv : Value} {D0 H0 : List Int}
theorem KLI.kept (h : KLI w0 w3 w wb ab lb sb n σ k dv hv D0 H0) (hf : Frm [] w w1) : KLI w0 w3 w1 wb ab lb sb n σ k dv hv D0 H0 :=
  { h with koi := h.koi.kept hf, frm := h.frm.trans (hf.mono (by simp)), own1 := h.own1.frm hf (by simp), own2 := h.own2.frm hf (by simp) }
theorem KLI.do_ (h : KLI w0 w3 w wb ab lb sb n σ k dv hv D0 H0) (hk : k ≤ 3000) (kind i : Int) : Calls Try.prog 26 #[.pointer (some ⟨lb, 0, none⟩), .agg #[.int .i64 kind, .int .i64 i]] w fun e w' => e = .returned (.bool (kDoR n 1 σ.S σ.A kind i)) ∧
    KLI w0 w3 w' wb ab lb sb n (σ.act n (kind, i)) (k + 1) dv hv D0 H0 := by
  have h1 := h.b1; have h2 := h.b2; have h4 := h.b4
  exact (h.koi.do_ hk kind i).mono fun e w' ⟨e1, e2, e3⟩ => ⟨e1, { h with koi := e2, frm := h.frm.trans e3, own1 := h.own1.frm e3 (by simp; omega), own2 := h.own2.frm e3 (by simp; omega) }⟩
/-- what an append of one number to the doors leaves -/
theorem KLI.app1 (h : KLI w0 w3 w wb ab lb sb n σ k dv hv D0 H0) {o : Obj} {dv' : Value} {x : Int} (hown : w1.ownsRow w3.heap.size 3 1 dv' (D0.length + 1) (D0.map (Value.int .i64) ++ [.int .i64 x])) (hg : (w.alloc o).grownBy w1 dv.ownBlock)
    (hb : dv'.ownBlock = dv.ownBlock ∨ dv'.ownBlock = some (w.alloc o).heap.size) : KLI w0 w3 w1 wb ab lb sb n σ k dv' hv (D0 ++ [x]) H0 := by
  have b0 := h.b0; have b1 := h.b1; have b2 := h.b2; have b3 := h.b3; have b4 := h.b4
  have hsz := h.frm.size
  have hF : Frm dv.ownBlock.toList w w1 := ((Frm.refl _ w).alloc o).trans (Frm.of_grown hg (fun k hk => .inl (by simp [hk])))
  have hge : ∀ g ∈ dv.ownBlock.toList, w3.heap.size ≤ g := fun g hg' => (own_lt' h.own1 (by simpa using hg')).1
  have hB : ∀ k, k < w.heap.size → dv.ownBlock ≠ some k → w1.heap[k]? = w.heap[k]? := fun k hk hne => (hg.block k (by simp; omega) (fun e => hne e.symm)).trans (Below.heap_alloc _ _ _ hk)
  have k1 : ArAt w1 ab wb σ.A := h.koi.ar.frm hF (fun hm => by have := hge _ hm; omega) (fun hm => by have := hge _ hm; omega)
  have k2 : KkAt w1 lb ab sb 1 n σ.S := h.koi.lk.frm hF (fun hm => by have := hge _ hm; omega) (fun hm => by have := hge _ hm; omega)
  have k3 : Frm [] w0 w1 := h.koi.frm.widen hF fun k hk => .inr (by have := hge _ hk; omega)
  have k4 : Frm [sb, ab, wb] w3 w1 := h.frm.widen hF fun k hk => .inr (hge _ hk)
  have k5 : Own w1 w3.heap.size dv' (D0 ++ [x]) := by unfold Own; simpa using hown
  have k6 : Own w1 w3.heap.size hv H0 := own_keep' h.own2 fun g hg' => hB g (own_lt' h.own2 hg').2 (fun e => h.dis g e hg')
  refine { h with koi := { h.koi with ar := k1, lk := k2, frm := k3 }, frm := k4, own1 := k5, own2 := k6, dis := fun g hg' => ?_ }
  rcases hb with hb | hb
  · exact h.dis g (hb ▸ hg')
  · rw [hb] at hg'
    intro e
    have := (own_lt' h.own2 e).2
    simp at hg'; omega
theorem KLI.swap (h : KLI w0 w3 w wb ab lb sb n σ k dv hv D0 H0) : KLI w0 w3 w wb ab lb sb n σ k hv dv H0 D0 := { h with own1 := h.own2, own2 := h.own1, dis := fun g h1 h2 => h.dis g h2 h1 }
theorem KLI.app2 (h : KLI w0 w3 w wb ab lb sb n σ k dv hv D0 H0) {o : Obj} {hv' : Value} {x : Int} (hown : w1.ownsRow w3.heap.size 3 1 hv' (H0.length + 1) (H0.map (Value.int .i64) ++ [.int .i64 x])) (hg : (w.alloc o).grownBy w1 hv.ownBlock)
    (hb : hv'.ownBlock = hv.ownBlock ∨ hv'.ownBlock = some (w.alloc o).heap.size) : KLI w0 w3 w1 wb ab lb sb n σ k dv hv' D0 (H0 ++ [x]) := (h.swap.app1 hown hg hb).swap
theorem drawn {S : Nat → Nat → Int} {A : AR} {i : Int} (h : pcOf n S i = 1) : pcOf n (kDoS n 1 S A 0 i) i = 2 := by
  unfold pcOf at *
  cases hi : sHas n i with
  | false => rw [hi] at h; simp at h
  | true =>
    rw [hi, if_pos rfl] at h
    rw [if_pos rfl]
    unfold kDoS kStepS
    rw [if_pos rfl, hi, if_pos rfl, if_pos h, put_self]
end

set_option maxRecDepth 100000 in
set_option maxHeartbeats 1000000 in
theorem ticketOrder_long (n : Int) (v : Value) (acts : List (Int × Int)) (w : World) (h : ActsAtN w v acts) (hl : 100 < acts.length) :
    Calls Try.prog 7 #[.int .u8 n, v] w fun e w' => e = .returned (.bool true) ∧ Below w.heap.size w w' := by
  obtain ⟨⟨a, cap, rfl, -, -, -⟩, -⟩ := h
  have d1 : decide ((100 : Int) < acts.length) = true := by simp; omega
  go_enter Try.func7, Try.ntmps7
  go_wp2_with fail
  refine (kawake _).mono ?_
  rintro e w1 ⟨rfl, hF⟩
  have HF := Lib.hid hF
  clear hF
  go_wp2
  go_ret
  exact ⟨rfl, HF.out.below (Nat.le_refl _) (by simp)⟩

def KS.start : KS := ⟨fun _ _ => 0, ⟨List.replicate 100 0, 2, 0, 0, 0, false⟩, [], 0⟩

set_option maxRecDepth 100000 in
set_option maxHeartbeats 16000000 in
theorem ticketOrder_short (n : Int) (v : Value) (acts : List (Int × Int)) (w : World) (hn : U8 n) (h : ActsAtN w v acts) (hl : acts.length ≤ 100) :
    Calls Try.prog 7 #[.int .u8 n, v] w fun e w' => e = .returned (.bool true) ∧ Below w.heap.size w w' := by
  obtain ⟨⟨a, cap, rfl, -, hc, hwf⟩, hnil⟩ := h
  have d1 : decide ((100 : Int) < acts.length) = false := by simp; omega
  have HC := Lib.hid hc
  have HNIL := Lib.hid hnil
  have fd := spotPc
  have fo := opKind
  unfold U8 at hn
  obtain ⟨hn0, hn1⟩ := hn
  obtain ⟨q, hq, hq8⟩ : ∃ q : Nat, n % 8 = q ∧ q < 8 := ⟨(n % 8).toNat, by omega, by omega⟩
  obtain ⟨s, hs⟩ : ∃ s : Nat, 1 + (q : Int) = (s : Int) := ⟨1 + q, by omega⟩
  have s1 : 1 ≤ s := by omega
  have s8 : s ≤ 8 := by omega
  obtain ⟨j0, ji, jz0, jz1, jz2⟩ := info_parts intInfo
  have HIN := Lib.hid (And.intro ji (And.intro jz0 (And.intro jz1 jz2)))
  obtain ⟨i0, hi, hz0, hz1, hz2⟩ := info_parts actInfo
  have HIA := Lib.hid (And.intro hi (And.intro hz0 (And.intro hz1 hz2)))
  clear hc hwf hnil hi hz0 hz1 hz2 ji jz0 jz1 jz2
  go_enter Try.func7, Try.ntmps7
  go_wp2_with fail
  refine (New_any 100 _).mono ?_
  rintro e w1 ⟨rfl, hA, hF⟩
  have hab := hA.box.lt
  have HA : Hid (ArAt w1 (w.heap.size + 1) w.heap.size ⟨List.replicate 100 0, 0, 0, 0, 0, false⟩) := Lib.hid (hA.to (by kernel_rfl))
  have HF1 := Lib.hid hF
  clear hA hF
  go_wp2_with fail
  refine (kNew_ok HA.out s s1 (by omega) (by kernel_rfl)).mono ?_
  rintro e w2 ⟨lb, sb, rfl, hlb, hsb, hL, hA, hF⟩
  have hA' : ArAt w2 (w.heap.size + 1) w.heap.size ⟨List.replicate 100 0, 2, 0, 0, 0, false⟩ := hA.to (by kernel_rfl)
  have hI : KOI w w2 w.heap.size (w.heap.size + 1) lb sb s KS.start.S KS.start.A KS.start.D KS.start.V 0 :=
    { ar := hA', lk := hL, frm := HF1.out.widen hF (by simp), o0 := Nat.le_refl _, o1 := by omega, o2 := by omega, o3 := by omega, ne := by omega, inv := KInv.start }
  have HI := Lib.hid hI
  have hw1 := hF.size
  have hw2 := hL.box.lt
  have hw3 := hL.row.lt
  have hw4 := HF1.out.size
  clear hA hA' hL hF hI HA HF1
  go_upto_region 9 with fail
  go_cut [9] (fun v9 wx => OwnA wx w2.heap.size v9 acts ∧ Frm [] w2 wx)
  case first =>
    cases a with
    | none =>
      have h0 : acts.length = 0 := by
        by_cases e : 0 < acts.length
        · obtain ⟨_, _, h, _⟩ := HC.out e; cases h
        · omega
      have hc0 := HNIL.out _ _ rfl
      have hnil : acts = [] := List.length_eq_zero_iff.1 h0
      subst hnil hc0
      go_wp2_with (at_builtin; go_must (refine wpList_append_own_none rfl _ _ 38 rfl w2.heap.size 46 i0 2 Try.underlying38 HIA.out.1 _ 0 [] rfl (World.ownsRow_nil _ _ _ _) rfl ?_))
      go_meet
      exact ⟨OwnA.nil _ _, Frm.refl _ _⟩
    | some ad =>
      have hnews : ∀ j u, (actsC acts)[j]? = some u → w2.cell? (ad.add j) = some u := by
        intro j u hj
        obtain ⟨i, x, hx, hj⟩ := actsC_inv hj
        obtain ⟨b, off, e, hb, hcell⟩ := HC.out (by have := (List.getElem?_eq_some_iff.1 hx).1; omega)
        have e2 : ad = ⟨b, off, none⟩ := Option.some.inj e
        subst e2
        have ea : (⟨b, off, none⟩ : Addr).add j = ⟨b, off + j, none⟩ := by
          unfold Addr.add
          split
          · rename_i h0; subst h0; rfl
          · simp
        rw [ea]
        obtain ⟨h1, h2⟩ := hcell i x hx
        rcases hj with ⟨rfl, rfl⟩ | ⟨rfl, rfl⟩
        · exact HI.out.frm.cell h1 (by simp)
        · exact HI.out.frm.cell h2 (by simp)
      have HNEWS := Lib.hid hnews
      clear hnews
      go_wp2_with (at_builtin; go_must (refine wpList_append_own _ rfl _ _ 38 rfl w2.heap.size 46 i0 (.agg #[.int .i64 0, .int .i64 0]) 2 16 Try.underlying38 HIA.out.1 HIA.out.2.1 HIA.out.2.2.1 HIA.out.2.2.2 rfl (by decide) _ 0 [] rfl (World.ownsRow_nil _ _ _ _) ad acts.length cap (actsC acts) rfl (actsC_len _) HNEWS.out (actsC_one _) (by unfold maxLen; omega) (by omega) (Nat.le_refl _) ?_; intro out' x1 hown' hgrow _))
      go_meet
      have := (OwnA.nil w2 w2.heap.size).step (w0 := w2) (S := []) (l := []) (m := acts) (n := acts.length) (by simp) rfl (by simpa [actsC] using hown') hgrow (Frm.refl _ _) (Nat.le_refl _)
      simpa using this
  case rest =>
    obtain ⟨hO, hF⟩ := hcut
    have HO := Lib.hid hO
    have HF := Lib.hid hF
    clear hO hF HC HNIL
    obtain ⟨R, hR, hR2⟩ : ∃ R : Nat, (12 * (s : Int) + 12) = R ∧ R ≤ 108 := ⟨12 * s + 12, by push_cast; rfl, by omega⟩
    have hsR : s * R ≤ 864 := Nat.mul_le_mul s8 hR2
    go_wp2_with fail
    go_loopw [9, 10] (fun v9 rv wx => ∃ r : Nat, rv = .int .i64 r ∧ r ≤ R ∧ OwnA wx w2.heap.size v9 (acts ++ rnds s r) ∧ Frm [] w2 wx) (fun _ rv _ => R - (intOf rv).toNat)
    case atStart => exact ⟨0, rfl, Nat.zero_le _, by simpa [rnds] using HO.out, HF.out⟩
    case round =>
      obtain ⟨r, rfl, hr, hO1, hF1⟩ := hrel
      have HO1 := Lib.hid hO1
      have HF1 := Lib.hid hF1
      clear hO1 hF1 HO HF
      by_cases hrR : r < R
      · have l1 : (r : Int) < R := by omega
        go_wp2_with fail
        go_loopw [9, 11] (fun v9 iv wx => ∃ i : Nat, iv = .int .i64 i ∧ i ≤ s ∧ OwnA wx w2.heap.size v9 (acts ++ rnds s r ++ rndTo i) ∧ Frm [] w2 wx) (fun _ iv _ => s - (intOf iv).toNat)
        case atStart => exact ⟨0, rfl, Nat.zero_le _, by simpa [rndTo] using HO1.out, HF1.out⟩
        case round =>
          obtain ⟨i, rfl, hi, hO1, hF1⟩ := hrel
          have HO2 := Lib.hid (And.intro hO1 hF1)
          clear hO1 hF1 HO1 HF1
          by_cases his : i < s
          · have l2 : (i : Int) < s := by omega
            have hLL : (acts ++ rnds s r ++ rndTo i).length ≤ 2000 := by
              rw [List.length_append, List.length_append, rnds_len, rndTo_len]
              have : s * r ≤ s * R := Nat.mul_le_mul_left _ (by omega)
              omega
            have HL2 : Hid ((acts ++ rnds s r ++ rndTo i ++ [(0, (i : Int))] ++ [(2, (i : Int))]) = acts ++ rnds s r ++ rndTo (i + 1)) := Lib.hid (by simp [rndTo])
            generalize acts ++ rnds s r ++ rndTo i = L at *
            go_upto_region 17 with (at_builtin; go_must (refine wpList_append_own _ rfl _ _ 38 rfl w2.heap.size 46 i0 (.agg #[.int .i64 0, .int .i64 0]) 2 16 Try.underlying38 HIA.out.1 HIA.out.2.1 HIA.out.2.2.1 HIA.out.2.2.2 rfl (by decide) _ _ _ rfl (HO2.out.1.alloc _) ⟨wr.heap.size, 0, none⟩ 1 1 [.int .i64 0, .int .i64 i] rfl rfl (cell_two_new _ _ _ _) (by simp [Value.oneCell']) (by unfold maxLen; omega) (by omega) (by rw [World.size_alloc]; have := HO2.out.2.size; omega) ?_; intro v xv hown' hgrow _; have HOv := Lib.hid (OwnA.step (m := [(0, (i : Int))]) (HO2.out.1.alloc _) rfl rfl hown' hgrow (HO2.out.2.alloc _) (Nat.le_refl _)); clear hown' hgrow))
            have hLL2 : (L ++ [((0 : Int), (i : Int))]).length ≤ 2001 := by simp; omega
            go_wp2_with (at_builtin; go_must (refine wpList_append_own _ rfl _ _ 38 rfl w2.heap.size 46 i0 (.agg #[.int .i64 0, .int .i64 0]) 2 16 Try.underlying38 HIA.out.1 HIA.out.2.1 HIA.out.2.2.1 HIA.out.2.2.2 rfl (by decide) _ _ _ rfl (HOv.out.1.alloc _) ⟨xv.heap.size, 0, none⟩ 1 1 [.int .i64 2, .int .i64 i] rfl rfl (cell_two_new _ _ _ _) (by simp [Value.oneCell']) (by unfold maxLen; omega) (by omega) (by rw [World.size_alloc]; have := HOv.out.2.size; omega) ?_; intro u xu hown' hgrow _; have HOu := Lib.hid (OwnA.step (m := [(2, (i : Int))]) (HOv.out.1.alloc _) rfl rfl hown' hgrow (HOv.out.2.alloc _) (Nat.le_refl _)); clear hown' hgrow))
            go_roundw
            case rel => exact ⟨i + 1, by go_num, by omega, by rw [← HL2.out]; exact HOu.out.1, HOu.out.2⟩
            case measure => simp [intOf]; omega
          · have l2 : ¬ (i : Int) < s := by omega
            have ei : i = s := by omega
            go_wp2_with fail
            go_roundw
            case rel => exact ⟨r + 1, by go_num, by omega, by subst ei; have := HO2.out.1; rw [List.append_assoc] at this; exact this, HO2.out.2⟩
            case measure => simp [intOf]; omega
      · have l1 : ¬ (r : Int) < R := by omega
        have er : r = 12 * s + 12 := by omega
        subst er
        have HREST := Lib.hid (all_rest (σ := KS.start) (n := s) (show KS.inv s KS.start 0 from KInv.start) hl s8)
        have hall : 0 < (acts ++ rnds s (12 * s + 12)).length ∧ (acts ++ rnds s (12 * s + 12)).length ≤ 2000 := by
          rw [List.length_append, rnds_len]
          have h1 : s * (12 * s + 12) ≤ s * R := Nat.mul_le_mul_left _ (by omega)
          have h2 : 1 * 1 ≤ s * (12 * s + 12) := Nat.mul_le_mul s1 (by omega)
          omega
        obtain ⟨ha0, ha1⟩ := hall
        generalize acts ++ rnds s (12 * s + 12) = all at *
        obtain ⟨W3, rfl⟩ : ∃ W, W = wr := ⟨_, rfl⟩
        obtain ⟨g, gcap, rfl, hg0, hg1, hcell⟩ := HO1.out.cells ha0
        have hcx : ∀ wx, Frm [sb, w.heap.size + 1, w.heap.size] W3 wx → ∀ i x, all[i]? = some x → wx.cell? ⟨g, i * 2, none⟩ = some (.int .i64 x.1) ∧ wx.cell? ⟨g, i * 2 + 1, none⟩ = some (.int .i64 x.2) := fun wx hf i x hx => ⟨hf.cell (hcell i x hx).1 (by simp; omega), hf.cell (hcell i x hx).2 (by simp; omega)⟩
        have HCX := Lib.hid hcx
        have hK : KLI w W3 W3 w.heap.size (w.heap.size + 1) lb sb s KS.start 0 (.slice none 0 0) (.slice none 0 0) [] [] := by
          have hsz := HF1.out.size
          exact { koi := HI.out.kept HF1.out, frm := Frm.refl _ _, own1 := Own.nil _ _, own2 := Own.nil _ _, dis := fun g hg => by simp [Value.ownBlock] at hg, b0 := by omega, b1 := by omega, b2 := by omega, b3 := by omega, b4 := by omega }
        have HK := Lib.hid hK
        clear hcx hcell hK HO1
        have hb0 := HK.out.b0
        go_wp2_with fail
        go_loopw [12, 13, 14] (fun dv hv iv wx => ∃ k : Nat, iv = .int .i64 k ∧ k ≤ all.length ∧ KLI w W3 wx w.heap.size (w.heap.size + 1) lb sb s (KS.start.run s (all.take k)) k dv hv (KS.start.run s (all.take k)).D (hd s (KS.start.run s (all.take k)).S (KS.start.run s (all.take k)).D (KS.start.run s (all.take k)).V)) (fun _ _ iv _ => all.length - (intOf iv).toNat)
        case atStart => exact ⟨0, rfl, Nat.zero_le _, by simpa [KS.run, KS.start, hd] using HK.out⟩
        case round =>
          obtain ⟨k, rfl, hk, hK⟩ := hrel
          have HK1 := Lib.hid hK
          clear hK HK
          by_cases hlt : k < all.length
          · have l1 : (k : Int) < all.length := by omega
            have ex : all[k]? = some all[k] := by simp
            have HRT := Lib.hid (KS.run_take s KS.start all hlt)
            have hc2 := fun wx hf => HCX.out wx hf k _ ex
            have HCK := Lib.hid hc2
            clear ex hc2
            generalize all[k] = x at *
            obtain ⟨kind, i⟩ := x
            simp only at HCK
            generalize KS.start.run s (all.take k) = σ at *
            obtain ⟨z1, z2, z3, hsp⟩ := spV_pc s σ.S i
            have HSP := Lib.hid hsp
            have HPC := Lib.hid (HK1.out.koi.inv.pc_cases i)
            have HDR0 : Hid (kind = 0 → (pcOf s σ.S i = 1 → σ.A.ops < (σ.act s (kind, i)).A.ops ∧ (σ.act s (kind, i)).A.k = 5 ∧ pcOf s (σ.act s (kind, i)).S i = 2) ∧ (pcOf s σ.S i = 2 → σ.A.ops < (σ.act s (kind, i)).A.ops ∧ (σ.act s (kind, i)).A.k = 1)) := Lib.hid (by
              rintro rfl
              have h1 := HK1.out.koi.inv.door (by omega) i
              exact ⟨fun e => ⟨(h1.1 e).1, (h1.1 e).2, drawn e⟩, h1.2⟩)
            have HD : Hid ((σ.act s (kind, i)).D = if kind = 0 ∧ pcOf s σ.S i = 1 then σ.D ++ [i] else σ.D) := Lib.hid (kD_eq kind i)
            have HH : Hid (hd s (σ.act s (kind, i)).S (σ.act s (kind, i)).D (σ.act s (kind, i)).V = if pcOf s σ.S i < 10 ∧ pcOf s (σ.act s (kind, i)).S i = 10 then hd s σ.S σ.D σ.V ++ [i] else hd s σ.S σ.D σ.V) := Lib.hid (HK1.out.koi.inv.held kind i)
            have hdl : σ.D.length ≤ 2000 := by have := HK1.out.koi.inv.dle; omega
            have hhl : (hd s σ.S σ.D σ.V).length ≤ 2000 := by unfold hd; rw [List.length_take]; omega
            clear hsp
            generalize pcOf s σ.S i = p0 at *
            obtain ⟨c0, c1⟩ := HCK.out _ HK1.out.frm
            go_wp2_with fail
            refine (kSpot_any HK1.out.koi.lk i).mono ?_
            rw [HSP.out]
            rintro e x1 ⟨rfl, hF⟩
            have HK2 := Lib.hid (HK1.out.kept hF)
            clear hF
            go_wp2_with fail
            refine (Ops_any HK2.out.koi.ar).mono ?_
            rintro e x2 ⟨rfl, rfl⟩
            clear c0 c1
            obtain ⟨c0, c1⟩ := HCK.out _ HK2.out.frm
            go_wp2_with fail
            refine (HK2.out.do_ (by omega) kind i).mono ?_
            rintro e x3 ⟨rfl, hK⟩
            have HK3 := Lib.hid hK
            clear hK HK1 HK2 c0 c1 HSP
            generalize kDoR s 1 σ.S σ.A kind i = ok at *
            generalize σ.act s (kind, i) = σ' at *
            obtain ⟨c0, c1⟩ := HCK.out _ HK3.out.frm
            go_upto_region 25 with fail
            obtain ⟨door, hdoor⟩ : ∃ z : Bool, z = decide (kind = 0 ∧ p0 = 1) := ⟨_, rfl⟩
            have HDOOR := Lib.hid hdoor
            clear hdoor
            go_cut [113] (fun b wx => b = .bool door ∧ Frm [] x3 wx)
            case first =>
              by_cases k0 : kind = 0
              · subst k0
                rcases HPC.out with h | h | h | h | h
                · subst h
                  go_wp2_with fail
                  go_meet
                  exact ⟨by rw [HDOOR.out]; rfl, Frm.refl _ _⟩
                · have h2 := (HDR0.out rfl).1 h
                  have dops : decide (σ.A.ops < σ'.A.ops) = true := by simpa using h2.1
                  have dk : (σ'.A.k == 5) = true := by simpa using h2.2.1
                  subst h
                  clear h2
                  go_wp2_with fail
                  refine (Ops_any HK3.out.koi.ar).mono ?_
                  rintro e x4 ⟨rfl, rfl⟩
                  go_wp2_with fail
                  refine (Last_any HK3.out.koi.ar).mono ?_
                  rintro e x4 ⟨rfl, hF⟩
                  have HF4 := Lib.hid hF
                  clear hF
                  go_wp2_with fail
                  go_meet
                  exact ⟨by rw [HDOOR.out]; rfl, HF4.out⟩
                · have h2 := (HDR0.out rfl).2 h
                  have dops : decide (σ.A.ops < σ'.A.ops) = true := by simpa using h2.1
                  have dk : (σ'.A.k == 5) = false := by rw [h2.2]; rfl
                  subst h
                  clear h2
                  go_wp2_with fail
                  refine (Ops_any HK3.out.koi.ar).mono ?_
                  rintro e x4 ⟨rfl, rfl⟩
                  go_wp2_with fail
                  refine (Last_any HK3.out.koi.ar).mono ?_
                  rintro e x4 ⟨rfl, hF⟩
                  have HF4 := Lib.hid hF
                  clear hF
                  go_wp2_with fail
                  go_meet
                  exact ⟨by rw [HDOOR.out]; rfl, HF4.out⟩
                · subst h
                  go_wp2_with fail
                  go_meet
                  exact ⟨by rw [HDOOR.out]; rfl, Frm.refl _ _⟩
                · subst h
                  go_wp2_with fail
                  go_meet
                  exact ⟨by rw [HDOOR.out]; rfl, Frm.refl _ _⟩
              · have dk : (kind == 0) = false := by simpa using k0
                have ed : Hid (door = false) := Lib.hid (by rw [HDOOR.out]; simp [k0])
                clear k0
                go_wp2_with fail
                go_meet
                exact ⟨by rw [ed.out], Frm.refl _ _⟩
            case rest =>
              obtain ⟨rfl, hF⟩ := hcut
              have HK4 := Lib.hid (HK3.out.kept hF)
              clear hF HK3 c0 c1 HPC
              cases door with
              | true =>
                have hkp : kind = 0 ∧ p0 = 1 := by have := HDOOR.out; simpa using this
                obtain ⟨rfl, rfl⟩ := hkp
                have hp1 := ((HDR0.out rfl).1 rfl).2.2
                obtain ⟨y1, y2, y3, hsp⟩ := spV_pc s σ'.S i
                rw [hp1] at hsp
                have HSP2 := Lib.hid hsp
                have HE : Hid (KS.start.run s (all.take (k + 1)) = σ' ∧ σ'.D = σ.D ++ [i] ∧ hd s σ'.S σ'.D σ'.V = hd s σ.S σ.D σ.V) := Lib.hid ⟨HRT.out, by rw [HD.out, if_pos ⟨rfl, rfl⟩], by rw [HH.out, if_neg (by omega)]⟩
                clear hsp hp1 HDR0 HDOOR HD HH HRT
                obtain ⟨W4, rfl⟩ : ∃ W, W = wc := ⟨_, rfl⟩
                have HKA := Lib.hid HK4.out
                clear HK4
                go_upto_region 27 with (at_builtin; go_must (refine wpList_append_own_at _ rfl _ _ 33 rfl W3.heap.size 3 j0 (.int .i64 0) 1 8 Try.underlying33 HIN.out.1 HIN.out.2.1 HIN.out.2.2.1 HIN.out.2.2.2 rfl (by decide) _ _ _ rfl (HKA.out.own1.alloc _) ⟨W4.heap.size, 0, none⟩ 1 1 [.int .i64 i] rfl rfl (cell_one_new _ _ _) (by simp [Value.oneCell']) (by unfold maxLen; omega) (by omega) (by rw [World.size_alloc]; have := HKA.out.frm.size; omega) ?_; intro out' xw hown' hgrow _ hbl; have HKB := Lib.hid (HKA.out.app1 hown' hgrow hbl); clear hown' hgrow hbl))
                go_wp2_with fail
                refine (kSpot_any HKB.out.koi.lk i).mono ?_
                rw [HSP2.out]
                rintro e x5 ⟨rfl, hF⟩
                have HK6 := Lib.hid (HKB.out.kept hF)
                clear hF HKA HKB
                go_wp2_with fail
                go_roundw
                case rel => exact ⟨k + 1, by go_num, by omega, by rw [HE.out.1, HE.out.2.2, HE.out.2.1]; exact HK6.out⟩
                case measure => simp [intOf]; omega
              | false =>
                have hnk : ¬ (kind = 0 ∧ p0 = 1) := by have := HDOOR.out; simpa using this
                have HE1 : Hid (KS.start.run s (all.take (k + 1)) = σ' ∧ σ'.D = σ.D) := Lib.hid ⟨HRT.out, by rw [HD.out, if_neg hnk]⟩
                obtain ⟨y1, y2, y3, hsp⟩ := spV_pc s σ'.S i
                have HSP2 := Lib.hid hsp
                clear hsp HDR0 HDOOR HD HRT hnk
                by_cases h10 : p0 < 10
                · have d10 : decide (p0 < 10) = true := by simpa using h10
                  by_cases h1 : pcOf s σ'.S i = 10
                  · have HE2 : Hid (hd s σ'.S σ'.D σ'.V = hd s σ.S σ.D σ.V ++ [i]) := Lib.hid (by rw [HH.out, if_pos ⟨h10, h1⟩])
                    rw [h1] at HSP2
                    clear HH h1 h10
                    go_wp2_with fail
                    refine (kSpot_any HK4.out.koi.lk i).mono ?_
                    rw [HSP2.out]
                    rintro e W5 ⟨rfl, hF⟩
                    have HKA := Lib.hid (HK4.out.kept hF)
                    clear hF HK4
                    go_wp2_with (at_builtin; go_must (refine wpList_append_own_at _ rfl _ _ 33 rfl W3.heap.size 3 j0 (.int .i64 0) 1 8 Try.underlying33 HIN.out.1 HIN.out.2.1 HIN.out.2.2.1 HIN.out.2.2.2 rfl (by decide) _ _ _ rfl (HKA.out.own2.alloc _) ⟨W5.heap.size, 0, none⟩ 1 1 [.int .i64 i] rfl rfl (cell_one_new _ _ _) (by simp [Value.oneCell']) (by unfold maxLen; omega) (by omega) (by rw [World.size_alloc]; have := HKA.out.frm.size; omega) ?_; intro out' xw hown' hgrow _ hbl; have HKB := Lib.hid (HKA.out.app2 hown' hgrow hbl); clear hown' hgrow hbl))
                    go_roundw
                    case rel => exact ⟨k + 1, by go_num, by omega, by rw [HE1.out.1, HE2.out, HE1.out.2]; exact HKB.out⟩
                    case measure => simp [intOf]; omega
                  · have d1 : (pcOf s σ'.S i == 10) = false := by simpa using h1
                    have HE2 : Hid (hd s σ'.S σ'.D σ'.V = hd s σ.S σ.D σ.V) := Lib.hid (by rw [HH.out, if_neg (fun h => h1 h.2)])
                    generalize pcOf s σ'.S i = p1 at *
                    clear HH h1 h10
                    go_wp2_with fail
                    refine (kSpot_any HK4.out.koi.lk i).mono ?_
                    rw [HSP2.out]
                    rintro e W5 ⟨rfl, hF⟩
                    have HKA := Lib.hid (HK4.out.kept hF)
                    clear hF HK4
                    go_wp2_with fail
                    go_roundw
                    case rel => exact ⟨k + 1, by go_num, by omega, by rw [HE1.out.1, HE2.out, HE1.out.2]; exact HKA.out⟩
                    case measure => simp [intOf]; omega
                · have d10 : decide (p0 < 10) = false := by simpa using h10
                  have HE2 : Hid (hd s σ'.S σ'.D σ'.V = hd s σ.S σ.D σ.V) := Lib.hid (by rw [HH.out, if_neg (fun h => h10 h.1)])
                  clear HH h10
                  go_wp2_with fail
                  go_roundw
                  case rel => exact ⟨k + 1, by go_num, by omega, by rw [HE1.out.1, HE2.out, HE1.out.2]; exact HK4.out⟩
                  case measure => simp [intOf]; omega
          · have l1 : ¬ (k : Int) < all.length := by omega
            obtain rfl : k = all.length := by omega
            rw [List.take_length] at HK1
            have hh := KInv.all_held HK1.out.koi.inv HREST.out
            rw [hh] at HK1
            clear hh
            generalize KS.start.run s all = σ at *
            go_wp2_with fail
            go_loopw [18] (fun iv wx => ∃ i : Nat, iv = .int .i64 i ∧ i ≤ s ∧ KLI w W3 wx w.heap.size (w.heap.size + 1) lb sb s σ all.length u12 u13 σ.D σ.D) (fun iv _ => s - (intOf iv).toNat)
            case atStart => exact ⟨0, rfl, Nat.zero_le _, HK1.out⟩
            case round =>
              clear HK1
              obtain ⟨i, rfl, hi, hK⟩ := hrel
              have HK2 := Lib.hid hK
              clear hK
              by_cases his : i < s
              · have l3 : (i : Int) < s := by omega
                have hsv : spV s σ.S i = .agg #[.int .i64 0, .int .i64 (σ.S i 1), .int .i64 (σ.S i 2), .int .i64 (σ.S i 3)] := by
                  unfold spV sHas; rw [if_pos (by simp; omega), show ((i : Int)).toNat = i from by omega, HREST.out i his]
                have HSV := Lib.hid hsv
                clear hsv
                go_wp2_with fail
                refine (kSpot_any HK2.out.koi.lk i).mono ?_
                rw [HSV.out]
                rintro e x4 ⟨rfl, hF⟩
                have HK3 := Lib.hid (HK2.out.kept hF)
                clear hF
                go_wp2_with fail
                go_roundw
                case rel => exact ⟨i + 1, by go_num, by omega, HK3.out⟩
                case measure => simp [intOf]; omega
              · have l3 : ¬ (i : Int) < s := by omega
                go_wp2_with fail
                refine (Same_any _ HK2.out.own1.row HK2.out.own2.row).mono ?_
                rintro e x4 ⟨he, nn, rfl⟩
                obtain rfl : e = .returned (.bool true) := by rw [he]; exact ret_bool (by simp)
                have HI6 := Lib.hid (HK2.out.koi.frm.drew nn)
                clear he
                go_wp2_with fail
                refine (kawake _).mono ?_
                rintro e x5 ⟨rfl, hF⟩
                have HF7 := Lib.hid (HI6.out.trans hF)
                clear hF
                go_wp2
                go_ret
                exact ⟨rfl, HF7.out.below (Nat.le_refl _) (by simp)⟩

theorem ticketOrder_walk (n : Int) (v : Value) (acts : List (Int × Int)) (w : World) (hn : U8 n) (h : ActsAtN w v acts) :
    Calls Try.prog 7 #[.int .u8 n, v] w fun e w' => e = .returned (.bool true) ∧ Below w.heap.size w w' := by
  by_cases hl : acts.length ≤ 100
  · exact ticketOrder_short n v acts w hn h hl
  · exact ticketOrder_long n v acts w h (by omega)

end Go.Proofs.Ytmfeaancnkadbaa
