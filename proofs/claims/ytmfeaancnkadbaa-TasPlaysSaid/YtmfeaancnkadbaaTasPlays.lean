/- The walk of the law TasPlays. -/
import Derived.Test.YtmfeaancnkadbaaRefTasOps
import Derived.Test.YtmfeaancnkadbaaTasAwake
import Derived.Test.YtmfeaancnkadbaaActs
import Derived.Deep.RegionWith
import Derived.Deep.DeepCutAuto
import Derived.Deep.CutBlock
namespace Go.Proofs.Ytmfeaancnkadbaa
open Go.RowKit

section
variable {w : World} {yb rb g word n cap : Nat} {most : Int} {S : Nat → Nat → Int} {A : AR} {v : Value}
theorem rDone_any (h : RkAt w yb rb g word n cap most S) (hR : RfAt w rb v A) (hy : yb ∉ rb :: vb v) (hg : g ∉ rb :: vb v) (kind i : Int) : Calls Try.prog 20 #[.pointer (some ⟨yb, 0, none⟩), .agg #[.int .i64 kind, .int .i64 i]] w fun e w' => e = .returned (.bool (tDoR n word S A kind i)) ∧
    RkAt w' yb rb g word n cap most (tDoS n word most S A kind i) ∧ RfAt w' rb v (tDoA n word S A kind i) ∧ Frm (g :: rb :: vb v) w w' := by
  have hf : Frm [] w (w.alloc (.cells #[.int .i64 kind, .int .i64 i] 46)) := (Frm.refl _ _).alloc _
  have hL := h.frm hf (by simp) (by simp)
  have hA2 := hR.frm hf (by simp)
  have HF := Lib.hid (hf.mono (S' := g :: rb :: vb v) (by simp))
  unfold tDoR tDoS tDoA
  by_cases k0 : kind = 0
  · subst k0
    have HC := Lib.hid (rStep_any hL hA2 hy hg i)
    clear h hR hL hA2 hf
    simp only [if_true]
    go_enter Try.func20, Try.ntmps20
    go_wp2_with fail
    refine HC.out.mono ?_
    rintro e w' ⟨rfl, hL, hA, hF⟩
    have HQ := Lib.hid (And.intro hL (And.intro hA (HF.out.trans hF)))
    clear hL hA hF
    go_wp2
    go_ret
    exact ⟨rfl, HQ.out⟩
  · have e0 : (kind == 0) = false := by simpa using k0
    simp only [if_neg k0]
    by_cases k1 : kind = 1
    · subst k1
      have HC := Lib.hid (rAsk_any hL i)
      have HA := Lib.hid (fun W1 W2 (h1 : RfAt W1 rb v A) (h2 : Frm [g] W1 W2) => h1.frm' h2 (by simp; intro e; exact hg (by simp [e])) (fun k hk => by simp; intro e; exact hg (by simp [vb, hk, e])))
      have HA2 := Lib.hid hA2
      clear h hR hL hA2 hf
      simp only [if_true]
      go_enter Try.func20, Try.ntmps20
      go_wp2_with fail
      refine HC.out.mono ?_
      rintro e w' ⟨rfl, hL, hF⟩
      have HQ := Lib.hid (And.intro hL (And.intro (HA.out _ _ HA2.out hF) (HF.out.trans (hF.mono (by simp)))))
      clear hL hF
      go_wp2
      go_ret
      exact ⟨rfl, HQ.out⟩
    · have e1 : (kind == 1) = false := by simpa using k1
      simp only [if_neg k1]
      by_cases k2 : kind = 2
      · subst k2
        have HC := Lib.hid (rLeave_any hL i)
        have HA := Lib.hid (fun W1 W2 (h1 : RfAt W1 rb v A) (h2 : Frm [g] W1 W2) => h1.frm' h2 (by simp; intro e; exact hg (by simp [e])) (fun k hk => by simp; intro e; exact hg (by simp [vb, hk, e])))
        have HA2 := Lib.hid hA2
        clear h hR hL hA2 hf
        simp only [if_true]
        go_enter Try.func20, Try.ntmps20
        go_wp2_with fail
        refine HC.out.mono ?_
        rintro e w' ⟨rfl, hL, hF⟩
        have HQ := Lib.hid (And.intro hL (And.intro (HA.out _ _ HA2.out hF) (HF.out.trans (hF.mono (by simp)))))
        clear hL hF
        go_wp2
        go_ret
        exact ⟨rfl, HQ.out⟩
      · have e2 : (kind == 2) = false := by simpa using k2
        simp only [if_neg k2]
        have HQ := Lib.hid (And.intro hL (And.intro hA2 HF.out))
        clear h hR hL hA2 hf k0 k1 k2
        go_enter Try.func20, Try.ntmps20
        go_wp2
        go_ret
        exact ⟨rfl, HQ.out⟩
end

/-- the blocks of the law's objects, as they were made -/
structure TSO (w0 : World) (wb ab rb lb sb yb g : Nat) (v : Value) : Prop where
  old : ∀ k ∈ [sb, ab, wb, lb] ++ (g :: yb :: rb :: vb v), w0.heap.size ≤ k
  apart : ∀ k ∈ g :: yb :: rb :: vb v, k ∉ [sb, ab, wb, lb]
  ne : lb ≠ ab ∧ lb ≠ wb ∧ sb ≠ ab ∧ sb ≠ wb
  hy : yb ∉ rb :: vb v
  hg : g ∉ rb :: vb v
/-- both locks stand alike -/
structure TSI (w0 w : World) (wb ab rb lb sb yb g n cap : Nat) (word : Nat) (most : Int) (v : Value) (A : AR) (S : Nat → Nat → Int) : Prop where
  ar : ArAt w ab wb A
  lk : LkAt w lb ab sb word n most S
  rf : RfAt w rb v A
  rk : RkAt w yb rb g word n cap most S
  frm : Frm [] w0 w
/-- the first has done its act, the other not yet -/
structure TSM (w0 w : World) (wb ab rb lb sb yb g n cap : Nat) (word : Nat) (most : Int) (v : Value) (A A' : AR) (S S' : Nat → Nat → Int) : Prop where
  ar : ArAt w ab wb A'
  lk : LkAt w lb ab sb word n most S'
  rf : RfAt w rb v A
  rk : RkAt w yb rb g word n cap most S
  frm : Frm [] w0 w
section
variable {w0 w w1 : World} {wb ab rb lb sb yb g n cap word : Nat} {most : Int} {v : Value} {A A' : AR} {S S' : Nat → Nat → Int}
theorem TSI.kept (h : TSI w0 w wb ab rb lb sb yb g n cap word most v A S) (hf : Frm [] w w1) : TSI w0 w1 wb ab rb lb sb yb g n cap word most v A S :=
  { ar := h.ar.frm hf (by simp) (by simp), lk := h.lk.frm hf (by simp) (by simp), rf := h.rf.frm hf (by simp), rk := h.rk.frm hf (by simp) (by simp), frm := h.frm.trans hf }
theorem TSI.do_ (h : TSI w0 w wb ab rb lb sb yb g n cap word most v A S) (o : TSO w0 wb ab rb lb sb yb g v) (kind i : Int) : Calls Try.prog 19 #[.pointer (some ⟨lb, 0, none⟩), .agg #[.int .i64 kind, .int .i64 i]] w fun e w' => e = .returned (.bool (tDoR n word S A kind i)) ∧
    TSM w0 w' wb ab rb lb sb yb g n cap word most v A (tDoA n word S A kind i) S (tDoS n word most S A kind i) := by
  refine (tDo_any h.lk h.ar o.ne kind i).mono fun e w' ⟨h1, h2, h3, h4⟩ => ⟨h1, ?_⟩
  have hsub : ∀ k, k ∈ [sb, ab, wb] → k ∈ [sb, ab, wb, lb] := fun k hk => by simp at hk ⊢; omega
  have q : ∀ k, k ∈ g :: yb :: rb :: vb v → k ∉ [sb, ab, wb] := fun k hk hm => o.apart k hk (hsub k hm)
  refine { ar := h3, lk := h2, rf := h.rf.frm' h4 (q _ (by simp)) (fun k hk => q k (by simp [vb, hk])), rk := h.rk.frm h4 (q _ (by simp)) (q _ (by simp)), frm := h.frm.widen h4 (fun x hx => .inr (o.old x (by simp at hx ⊢; omega))) }
theorem TSM.done_ {kind i : Int} (h : TSM w0 w wb ab rb lb sb yb g n cap word most v A (tDoA n word S A kind i) S (tDoS n word most S A kind i)) (o : TSO w0 wb ab rb lb sb yb g v) : Calls Try.prog 20 #[.pointer (some ⟨yb, 0, none⟩), .agg #[.int .i64 kind, .int .i64 i]] w fun e w' => e = .returned (.bool (tDoR n word S A kind i)) ∧
    TSI w0 w' wb ab rb lb sb yb g n cap word most v (tDoA n word S A kind i) (tDoS n word most S A kind i) := by
  refine (rDone_any h.rk h.rf o.hy o.hg kind i).mono fun e w' ⟨h1, h2, h3, h4⟩ => ⟨h1, ?_⟩
  have hsub : ∀ k, k ∈ g :: rb :: vb v → k ∈ g :: yb :: rb :: vb v := fun k hk => by simp at hk ⊢; exact hk.elim .inl fun h => .inr (.inr h)
  have q : ∀ k, k ∈ [sb, ab, wb, lb] → k ∉ g :: rb :: vb v := fun k hk hm => o.apart k (hsub k hm) hk
  refine { ar := h.ar.frm h4 (q _ (by simp)) (q _ (by simp)), lk := h.lk.frm h4 (q _ (by simp)) (q _ (by simp)), rf := h3, rk := h2, frm := h.frm.widen h4 (fun x hx => .inr (o.old x (List.mem_append.2 (.inr (hsub x hx))))) }
end

theorem tasPlays_long (v : Value) (acts : List (Int × Int)) (n0 n1 n2 : Int) (w : World) (h : ActsAt w v acts) (hl : 100 < acts.length) :
    Calls Try.prog 4 #[.agg #[.int .i64 n0, .int .i64 n1, .int .i64 n2], v] w fun e w' => e = .returned (.bool true) ∧ Below w.heap.size w w' := by
  obtain ⟨a, cap, rfl, -, -, -⟩ := h
  have d1 : decide ((100 : Int) < acts.length) = true := by simp; omega
  have d3 : decide (100 < acts.length) = true := by simp; omega
  go_enter Try.func4, Try.ntmps4
  go_wp2_with fail
  refine (tsawake _).mono ?_
  rintro e w1 ⟨rfl, hF⟩
  have HF := Lib.hid (((Frm.refl [] w).alloc _).trans hF)
  clear hF
  go_wp2
  go_ret
  exact ⟨rfl, HF.out.below (Nat.le_refl _) (by simp)⟩

set_option maxRecDepth 100000 in
set_option maxHeartbeats 8000000 in
theorem tasPlays_short (v : Value) (acts : List (Int × Int)) (n0 n1 n2 : Int) (w : World) (h : ActsAt w v acts) (hl : acts.length ≤ 100) :
    Calls Try.prog 4 #[.agg #[.int .i64 n0, .int .i64 n1, .int .i64 n2], v] w fun e w' => e = .returned (.bool true) ∧ Below w.heap.size w w' := by
  obtain ⟨a, cap, rfl, -, hc, -⟩ := h
  have d1 : decide ((100 : Int) < acts.length) = false := by simp; omega
  have d3 : decide (100 < acts.length) = false := by simp; omega
  have HC := Lib.hid hc
  clear hc
  go_enter Try.func4, Try.ntmps4
  go_upto_region 3 with fail
  generalize hW : World.alloc _ _ = W
  have hb : HAt W w.heap.size [.int .i64 n0, .int .i64 n1, .int .i64 n2] 37 := by subst hW; exact HAt.new w _ _
  have hf : Frm [] w W := by subst hW; exact (Frm.refl _ _).alloc _
  have hsz : W.heap.size = w.heap.size + 1 := by subst hW; simp
  have HB := Lib.hid hb
  have HF0 := Lib.hid hf
  have HSZ := Lib.hid hsz
  have hne : Nonempty (HW (fun wx => Frm [] W wx)) := ⟨⟨W, Frm.refl _ _⟩⟩
  have hz0 : ∀ q : HW (fun wx => Frm [] W wx), q.w.cell? ⟨w.heap.size, 0, none⟩ = some (.int .i64 n0) := fun q => (HB.out.frm q.h (by simp)).cell (i := 0) rfl
  clear hW hb hf hsz
  refine held_begin (S := fun wx => Frm [] W wx) (by kernel_rfl) ?_
  refine held_row_at (fuel := 4) (is := [0, 1, 3, 4]) (.cons rfl (.cons rfl (.cons rfl (.cons rfl .nil)))) (by kernel_rfl) (fun _ _ _ _ _ h => h) rfl (by kernel_rfl) (Frm.refl _ _).drew1 ?_
  intro K hK
  repeat (go_big_quiet_step (fail))
  refine wpQuiet_nil (hK _ ?_)
  clear hK K
  refine held_call (fuel := 3) (i := 2) rfl (by kernel_rfl) ?_
  go_wp2_with fail
  refine (New_any n0 _).mono ?_; rintro e w1 ⟨rfl, hA, hF⟩; have HA1 : Hid (ArAt w1 (W.heap.size + 1) W.heap.size (AR.fresh (roomOf n0))) := Lib.hid hA; have HFA := Lib.hid (((Frm.refl [] W).drew1).trans hF); clear hA hF
  go_wp2_with fail
  refine onNormal_mk ⟨(by repeat (first | exact HFB.out | exact HFA.out | exact Frm.refl _ _ | apply Frm.drew1 | apply Frm.drew)), ?_⟩
  refine held_call (fuel := 2) (i := 5) rfl (by kernel_rfl) ?_
  go_wp2_with fail
  refine (rNew_any n0 _).mono ?_; rintro e w2 ⟨rfl, hR, hF⟩; have HR2 := Lib.hid hR; have HFR := Lib.hid hF; have HFB := Lib.hid (HFA.out.trans hF); clear hR hF
  go_wp2_with fail
  refine onNormal_mk ⟨(by repeat (first | exact HFB.out | exact HFA.out | exact Frm.refl _ _ | apply Frm.drew1 | apply Frm.drew)), ?_⟩
  refine held_row_at (fuel := 0) (is := [6, 7]) (.cons rfl (.cons rfl .nil)) (by kernel_rfl) (fun _ _ _ _ _ h => h) rfl (by kernel_rfl) (by repeat (first | exact HFB.out | exact HFA.out | exact Frm.refl _ _ | apply Frm.drew1 | apply Frm.drew)) ?_
  intro K hK
  repeat (go_big_quiet_step (fail))
  refine wpQuiet_nil (hK _ ?_)
  clear hK K
  refine held_end (by kernel_rfl) ?_
  have hF2 : Frm [] W w2 := HFB.out
  have hA : ArAt w2 (W.heap.size + 1) W.heap.size (AR.fresh (roomOf n0)) := (HA1.out.frm HFR.out (by simp) (by simp))
  have hrb : W.heap.size + 2 ≤ w1.heap.size := by have := HA1.out.box.lt; omega
  have HA := Lib.hid hA
  have HR := Lib.hid HR2.out
  have HF := Lib.hid hF2
  have HB1 := Lib.hid (HB.out.frm hF2 (by simp))
  generalize w1.heap.size = rb at *
  clear hA hF2 HA1 HFR HFB HR2 HFA HB hne hz0
  have c1 := HB1.out.cell (i := 1) rfl
  have c2 := HB1.out.cell (i := 2) rfl
  by_cases hE : tasE (AR.fresh (roomOf n0)) n1 n2 = 0
  · have hE' := hE
    unfold tasE at hE'
    have hok : ¬ (n1 < 1 ∨ 32 < n1 ∨ n2 < 1 ∨ 1024 < n2) := by intro hb; rw [if_pos hb] at hE'; omega
    rw [if_neg hok] at hE'
    have HT := Lib.hid hE'
    obtain ⟨n, rfl⟩ : ∃ n : Nat, n1 = n := ⟨n1.toNat, by omega⟩
    have q1 : 1 ≤ n := by omega
    have q2 : n ≤ 32 := by omega
    have q3 : 1 ≤ n2 := by omega
    have q4 : n2 ≤ 1024 := by omega
    clear hE hE' hok
    have hrl := HR.out.box.lt
    go_wp2_with fail
    refine (lNew_ok HA.out n q1 q2 q3 q4 HT.out).mono ?_
    rintro e w3 ⟨lb, sb, rfl, hlb, hsb, hL3, hA3, hF3⟩
    have HR3 := Lib.hid (HR.out.frm hF3 (by simp; omega))
    have hB3 := HB1.out.frm hF3 (by simp [HSZ.out]; omega)
    have HF3 := Lib.hid ((HF.out.widen hF3 (by simp)))
    have HL3 := Lib.hid hL3
    have HA3 := Lib.hid hA3
    have hsz3 := hF3.size
    have hl3 := hL3.box.lt
    have hs3 := hL3.row.lt
    have hsz2 := HF.out.size
    have hne3 := hL3.ne
    clear hF3 c1 c2 hL3 hA3
    have c1 := hB3.cell (i := 1) rfl
    have c2 := hB3.cell (i := 2) rfl
    clear hB3
    go_wp2_with fail
    refine (rtNew_ok HR3.out n q1 q2 q3 q4 HT.out (fun k hk => by simp [Value.ownBlock] at hk)).mono ?_
    rintro e w4 ⟨yb, g, rcap, v', rfl, hyb, hg, hK4, hR4, hF4, hv4⟩
    have hne4 := hK4.ne
    have hw := HSZ.out
    have hv5 : ∀ k ∈ vb v', w3.heap.size ≤ k ∧ k ≠ yb ∧ k ≠ g := fun k hk => by
      obtain ⟨h1, h2, h3⟩ := hv4 k (by simpa [vb] using hk)
      refine ⟨?_, h2, h3⟩
      rcases h1 with h1 | h1
      · simp [Value.ownBlock] at h1
      · exact h1
    have hO : TSO w W.heap.size (W.heap.size + 1) rb lb sb yb g v' := by
      refine { old := fun k hk => ?_, apart := fun k hk hm => ?_, ne := ⟨by omega, by omega, by omega, by omega⟩, hy := fun hm => ?_, hg := fun hm => ?_ }
      · simp at hk
        rcases hk with h | h | h | h | h | h | h | h
        · omega
        · omega
        · omega
        · omega
        · omega
        · omega
        · omega
        · have := hv5 k h; omega
      · simp at hk hm
        rcases hk with h | h | h | h
        · omega
        · omega
        · omega
        · have := hv5 k h; omega
      · simp at hm
        rcases hm with h | h
        · omega
        · have := hv5 yb h; omega
      · simp at hm
        rcases hm with h | h
        · omega
        · have := hv5 g h; omega
    have hout : ∀ x, x < w3.heap.size → x ≠ rb → x ∉ rb :: vb (.slice none 0 0) := fun x _ hx hm => by simp [vb, Value.ownBlock] at hm; omega
    have hI : TSI w w4 W.heap.size (W.heap.size + 1) rb lb sb yb g n rcap ((AR.fresh (roomOf n0)).taken + 1) n2 v' ((AR.fresh (roomOf n0)).take 1) (fun _ _ => 0) := by
      refine { ar := HA3.out.frm hF4 (hout _ (by omega) (by omega)) (hout _ (by omega) (by omega)), lk := HL3.out.frm hF4 (hout _ hl3 (by omega)) (hout _ hs3 (by omega)), rf := hR4, rk := hK4, frm := ?_ }
      exact ((HF0.out.trans HF3.out).widen hF4 (fun x hx => by
        rcases List.mem_cons.1 hx with h | h
        · right; omega
        · simp [vb, Value.ownBlock] at h))
    have HO := Lib.hid hO
    have HI := Lib.hid hI
    clear hO hI hK4 hR4 hF4 hv4 hv5 c1 c2 HR HA HB1 HF HR3 HA3 HL3 HF3 hout hne4 hne3 hw hyb hg hlb hsb hrb hrl hl3 hs3 hsz2 hsz3
    generalize (AR.fresh (roomOf n0)).take 1 = A1 at HI
    generalize (AR.fresh (roomOf n0)).taken + 1 = word at *
    generalize W.heap.size + 1 = ab at *
    generalize W.heap.size = wb at *
    go_wp2_with fail
    go_loopw [11] (fun iv wx => ∃ (k : Nat) (A : AR) (S : Nat → Nat → Int), iv = .int .i64 k ∧ k ≤ acts.length ∧ TSI w wx wb ab rb lb sb yb g n rcap word n2 v' A S) (fun iv _ => acts.length - (intOf iv).toNat)
    case atStart => exact ⟨0, A1, _, rfl, Nat.zero_le _, HI.out⟩
    case round =>
      obtain ⟨k, A, S, rfl, hk, hI⟩ := hrel
      have HI1 := Lib.hid hI
      clear hI HI
      by_cases hlt : k < acts.length
      · obtain ⟨b, off, rfl, hb, hcell⟩ := HC.out (by omega)
        have ex : acts[k]? = some acts[k] := by simp
        have l1 : (k : Int) < acts.length := by omega
        have hcx : ∀ wx, Frm [] w wx → wx.cell? ⟨b, off + k * 2, none⟩ = some (.int .i64 acts[k].1) ∧ wx.cell? ⟨b, off + k * 2 + 1, none⟩ = some (.int .i64 acts[k].2) := fun wx hf => ⟨hf.cell (hcell k _ ex).1 (by simp), hf.cell (hcell k _ ex).2 (by simp)⟩
        have HCX := Lib.hid hcx
        clear hcell ex hcx
        generalize acts[k] = x at *
        obtain ⟨kind, i⟩ := x
        simp only at HCX
        have hne1 : Nonempty (HW (fun wx => Frm [] w wx)) := ⟨⟨w, Frm.refl _ _⟩⟩
        have hw0 : ∀ q : HW (fun wx => Frm [] w wx), q.w.cell? ⟨b, off + k * 2, none⟩ = some (.int .i64 kind) := fun q => (HCX.out _ q.h).1
        have hw1 : ∀ q : HW (fun wx => Frm [] w wx), q.w.cell? ⟨b, off + k * 2 + 1, none⟩ = some (.int .i64 i) := fun q => (HCX.out _ q.h).2
        go_upto_region 13 with fail
        refine held_begin (S := fun wx => Frm [] w wx) (by kernel_rfl) ?_
        refine held_row_at (fuel := 22) (is := [0, 1, 2, 3, 4, 6, 7, 8, 9, 10]) (.cons rfl (.cons rfl (.cons rfl (.cons rfl (.cons rfl (.cons rfl (.cons rfl (.cons rfl (.cons rfl (.cons rfl .nil)))))))))) (by kernel_rfl) (fun _ _ _ _ _ h => h) rfl (by kernel_rfl) HI1.out.frm.drew1 ?_
        intro K hK
        repeat (go_big_quiet_step (fail))
        refine wpQuiet_nil (hK _ ?_)
        clear hK K
        refine held_call (fuel := 21) (i := 5) rfl (by kernel_rfl) ?_
        go_wp2_with fail
        refine ((HI1.out.kept ((Frm.refl _ _).drew1)).do_ HO.out kind i).mono ?_; rintro e x1 ⟨rfl, hM⟩; have HM := Lib.hid hM; clear hM
        go_wp2_with fail
        refine onNormal_mk ⟨HM.out.frm, ?_⟩
        refine held_call (fuel := 20) (i := 11) rfl (by kernel_rfl) ?_
        go_wp2_with fail
        refine (HM.out.done_ HO.out).mono ?_; rintro e x2 ⟨rfl, hI⟩; have HI2 := Lib.hid hI; clear hI
        go_wp2_with fail
        refine onNormal_mk ⟨HI2.out.frm, ?_⟩
        have hne2 : Nonempty (HW (fun wx => Frm [] x2 wx)) := ⟨⟨x2, Frm.refl _ _⟩⟩
        have hz1 : ∀ q : HW (fun wx => Frm [] x2 wx), q.w.cell? ⟨rb, 1, none⟩ = some v' := fun q => (HI2.out.rf.box.frm q.h (by simp)).cell (i := 1) rfl
        have hz2 : ∀ q : HW (fun wx => Frm [] x2 wx), q.w.cell? ⟨rb, 2, none⟩ = some (.int .i64 (tDoA n word S A kind i).ops) := fun q => (HI2.out.rf.box.frm q.h (by simp)).cell (i := 2) rfl
        refine wpOp_held_mono (S' := fun wx => Frm [] x2 wx) (fun wx h => HI2.out.frm.trans h) ?_
        refine held_row_at (fuel := 13) (is := [12, 13, 14, 16, 17, 18, 19]) (.cons rfl (.cons rfl (.cons rfl (.cons rfl (.cons rfl (.cons rfl (.cons rfl .nil))))))) (by kernel_rfl) (fun _ _ _ _ _ h => h) rfl (by kernel_rfl) (Frm.refl _ _) ?_
        intro K hK
        repeat (go_big_quiet_step (fail))
        refine wpQuiet_nil (hK _ ?_)
        clear hK K
        refine held_call (fuel := 12) (i := 15) rfl (by kernel_rfl) ?_
        go_wp2_with fail
        refine (Words_any (HI2.out.ar.frm (S := []) (by repeat (first | exact HFW.out | exact Frm.refl _ _ | apply Frm.drew1 | apply Frm.drew)) (by simp) (by simp))).mono ?_; rintro e x3 ⟨vv, rfl, hO, hF⟩; have HFW := Lib.hid (Frm.trans (S := []) (a := x2) (by repeat (first | exact HFW.out | exact Frm.refl _ _ | apply Frm.drew1 | apply Frm.drew)) hF); have HOW := Lib.hid (hO.base (Nat.zero_le _)); clear hO hF
        go_wp2_with fail
        refine onNormal_mk ⟨(by repeat (first | exact HFW.out | exact Frm.refl _ _ | apply Frm.drew1 | apply Frm.drew)), ?_⟩
        refine held_call (fuel := 11) (i := 20) rfl (by kernel_rfl) ?_
        go_wp2_with fail
        refine (Same_any _ HOW.out.row (HI2.out.rf.row.frm (S := []) (by repeat (first | exact HFW.out | exact Frm.refl _ _ | apply Frm.drew1 | apply Frm.drew)) (by simp)).row).mono ?_; rintro e x4 ⟨he, nn, rfl⟩; obtain rfl : e = .returned (.bool true) := by rw [he]; simp
        go_wp2_with fail
        refine onNormal_mk ⟨(by repeat (first | exact HFW.out | exact Frm.refl _ _ | apply Frm.drew1 | apply Frm.drew)), ?_⟩
        refine held_row_at (fuel := 3) (is := [21, 22, 23, 24, 26, 27, 28, 29]) (.cons rfl (.cons rfl (.cons rfl (.cons rfl (.cons rfl (.cons rfl (.cons rfl (.cons rfl .nil)))))))) (by kernel_rfl) (fun _ _ _ _ _ h => h) rfl (by kernel_rfl) (by repeat (first | exact HFW.out | exact Frm.refl _ _ | apply Frm.drew1 | apply Frm.drew)) ?_
        intro K hK
        repeat (go_big_quiet_step (fail))
        refine wpQuiet_nil (hK _ ?_)
        clear hK K
        refine held_call (fuel := 2) (i := 25) rfl (by kernel_rfl) ?_
        go_wp2_with fail
        refine (Ops_any (HI2.out.ar.frm (S := []) (by repeat (first | exact HFW.out | exact Frm.refl _ _ | apply Frm.drew1 | apply Frm.drew)) (by simp) (by simp))).mono ?_; rintro e x5 ⟨rfl, rfl⟩
        go_wp2_with fail
        refine onNormal_mk ⟨(by repeat (first | exact HFW.out | exact Frm.refl _ _ | apply Frm.drew1 | apply Frm.drew)), ?_⟩
        refine held_row_at (fuel := 0) (is := [30, 31]) (.cons rfl (.cons rfl .nil)) (by kernel_rfl) (fun _ _ _ _ _ h => h) rfl (by kernel_rfl) (by repeat (first | exact HFW.out | exact Frm.refl _ _ | apply Frm.drew1 | apply Frm.drew)) ?_
        intro K hK
        repeat (go_big_quiet_step (fail))
        refine wpQuiet_nil (hK _ ?_)
        clear hK K
        refine held_end (by kernel_rfl) ?_
        have HI3 := Lib.hid (HI2.out.kept (w1 := x3.drewN nn) (by repeat (first | exact HFW.out | exact Frm.refl _ _ | apply Frm.drew1 | apply Frm.drew)))
        generalize x3.drewN nn = W5 at *
        clear HI1 HI2 HM HOW HFW hne1 hw0 hw1 hne2 hz1 hz2
        generalize tDoA n word S A kind i = A2 at *
        generalize tDoS n word n2 S A kind i = S2 at *
        have c3 := HI3.out.rk.box.cell (i := 3) rfl
        go_wp2_with fail
        go_loopw [12] (fun kv wx => ∃ q : Int, kv = .int .i64 q ∧ -1 ≤ q ∧ q ≤ n + 1 ∧ TSI w wx wb ab rb lb sb yb g n rcap word n2 v' A2 S2) (fun kv _ => (n + 1 - intOf kv).toNat)
        case atStart => exact ⟨-1, rfl, by omega, by omega, HI3.out⟩
        case round =>
          clear HI3 c3
          obtain ⟨q, rfl, hq1, hq2, hI⟩ := hrel
          have HI4 := Lib.hid hI
          have c3 := hI.rk.box.cell (i := 3) rfl
          clear hI
          by_cases hqn : q ≤ n
          · have m1 : decide (q ≤ (n : Int)) = true := by simpa using hqn
            have hFa : Frm [] wr (wr.alloc (.cells #[.int .i64 0, .int .i64 0, .int .i64 0, .int .i64 0] 30)) := (Frm.refl _ _).alloc _
            have hHa := HAt.new wr #[.int .i64 0, .int .i64 0, .int .i64 0, .int .i64 0] 30
            by_cases hin : 0 ≤ q ∧ q < n
            · obtain ⟨j, rfl⟩ : ∃ j : Nat, q = j := ⟨q.toNat, by omega⟩
              have hj : j < n := by omega
              have hsv : spV n S2 j = .agg #[.int .i64 (S2 j 0), .int .i64 (S2 j 1), .int .i64 (S2 j 2), .int .i64 (S2 j 3)] := by
                unfold spV sHas; rw [if_pos (by simp; omega), show ((j : Int)).toNat = j from by omega]
              have m2 : decide ((0 : Int) ≤ j) = true := by simp
              have m3 : decide ((j : Int) < n) = true := by simp; omega
              have m4 : decide (j < n) = true := by simp; omega
              have l2 : (j : Int) < n := by omega
              have hn32 := q2
              have z0 := HI4.out.rk.pc0 hj
              have z1 := HI4.out.rk.pc hj 1 (by omega)
              have z2 := HI4.out.rk.pc hj 2 (by omega)
              have z3 := HI4.out.rk.pc hj 3 (by omega)
              rw [Nat.mul_comm 4 j] at z0 z1 z2 z3
              have HSV := Lib.hid hsv
              have hgl := HI4.out.rk.row.lt
              have hyl := HI4.out.rk.box.lt
              clear hsv hFa hHa hin
              generalize hs0 : S2 j 0 = s0 at *
              generalize hs1 : S2 j 1 = s1 at *
              generalize hs2 : S2 j 2 = s2 at *
              generalize hs3 : S2 j 3 = s3 at *
              clear hs0 hs1 hs2 hs3
              go_upto_region 21 with fail
              have hFb : Frm [] wr (wr.alloc (.cells #[.int .i64 s0, .int .i64 s1, .int .i64 s2, .int .i64 s3] 30)) := (Frm.refl _ _).alloc _
              have HWS : Hid (HAt (wr.alloc (.cells #[.int .i64 s0, .int .i64 s1, .int .i64 s2, .int .i64 s3] 30)) wr.heap.size [.int .i64 s0, .int .i64 s1, .int .i64 s2, .int .i64 s3] 30) := Lib.hid (HAt.new wr _ _)
              have HI5 := Lib.hid (HI4.out.kept hFb)
              clear hFb c3 HI4 z0 z1 z2 z3 hgl hyl
              generalize wr.alloc (.cells #[.int .i64 s0, .int .i64 s1, .int .i64 s2, .int .i64 s3] 30) = W5 at *
              generalize wr.heap.size = wsb at *
              have hne3 : Nonempty (HW (fun wx => Frm [] W5 wx)) := ⟨⟨W5, Frm.refl _ _⟩⟩
              have y0 : ∀ q : HW (fun wx => Frm [] W5 wx), q.w.cell? ⟨wsb, 0, none⟩ = some (.int .i64 s0) := fun q => (HWS.out.frm q.h (by simp)).cell (i := 0) rfl
              have y1 : ∀ q : HW (fun wx => Frm [] W5 wx), q.w.cell? ⟨wsb, 1, none⟩ = some (.int .i64 s1) := fun q => (HWS.out.frm q.h (by simp)).cell (i := 1) rfl
              have y2 : ∀ q : HW (fun wx => Frm [] W5 wx), q.w.cell? ⟨wsb, 2, none⟩ = some (.int .i64 s2) := fun q => (HWS.out.frm q.h (by simp)).cell (i := 2) rfl
              have y3 : ∀ q : HW (fun wx => Frm [] W5 wx), q.w.cell? ⟨wsb, 3, none⟩ = some (.int .i64 s3) := fun q => (HWS.out.frm q.h (by simp)).cell (i := 3) rfl
              refine held_begin (S := fun wx => Frm [] W5 wx) (by kernel_rfl) ?_
              refine held_row_at (fuel := 2) (is := [0, 1, 3]) (.cons rfl (.cons rfl (.cons rfl .nil))) (by kernel_rfl) (fun _ _ _ _ _ h => h) rfl (by kernel_rfl) (Frm.refl _ _).drew1 ?_
              intro K hK
              repeat (go_big_quiet_step (fail))
              refine wpQuiet_nil (hK _ ?_)
              clear hK K
              refine held_call (fuel := 1) (i := 2) rfl (by kernel_rfl) ?_
              go_wp2_with fail
              refine (lSpot_any (HI5.out.lk.frm (Z := []) (by repeat (first | exact HF8.out | exact Frm.refl _ _ | apply Frm.drew1 | apply Frm.drew)) (by simp) (by simp)) j).mono ?_; rw [HSV.out]; rintro e x1 ⟨rfl, hF⟩; have HF8 := Lib.hid (Frm.trans (S := []) (a := W5) (by repeat (first | exact HF8.out | exact Frm.refl _ _ | apply Frm.drew1 | apply Frm.drew)) hF); clear hF
              go_wp2_with fail
              refine onNormal_mk ⟨(by repeat (first | exact HF8.out | exact Frm.refl _ _ | apply Frm.drew1 | apply Frm.drew)), ?_⟩
              refine held_row_at (fuel := 0) (is := [4]) (.cons rfl .nil) (by kernel_rfl) (fun _ _ _ _ _ h => h) rfl (by kernel_rfl) (by repeat (first | exact HF8.out | exact Frm.refl _ _ | apply Frm.drew1 | apply Frm.drew)) ?_
              intro K hK
              repeat (go_big_quiet_step (fail))
              refine wpQuiet_nil (hK _ ?_)
              clear hK K
              refine held_end (by kernel_rfl) ?_
              have HI6 := Lib.hid (HI5.out.kept HF8.out)
              clear HI5 HF8 hne3 y0 y1 y2 y3
              go_wp2_with fail
              go_roundw
              case rel => exact ⟨(j : Int) + 1, rfl, by omega, by omega, HI6.out⟩
              case measure => simp [intOf]; omega
            · have hsv : spV n S2 q = .agg #[.int .i64 0, .int .i64 0, .int .i64 0, .int .i64 0] := by
                unfold spV sHas; rw [if_neg (by simp; omega)]
              have HSV := Lib.hid hsv
              clear hsv hFa hHa
              by_cases hneg : 0 ≤ q
              · have hyl := HI4.out.rk.box.lt
                have m2 : decide ((0 : Int) ≤ q) = true := by simpa using hneg
                have m3 : decide (q < (n : Int)) = false := by simp; omega
                clear hin
                go_upto_region 21 with fail
                have hFb : Frm [] wr (wr.alloc (.cells #[.int .i64 0, .int .i64 0, .int .i64 0, .int .i64 0] 30)) := (Frm.refl _ _).alloc _
                have HWS : Hid (HAt (wr.alloc (.cells #[.int .i64 0, .int .i64 0, .int .i64 0, .int .i64 0] 30)) wr.heap.size [.int .i64 0, .int .i64 0, .int .i64 0, .int .i64 0] 30) := Lib.hid (HAt.new wr _ _)
                have HI5 := Lib.hid (HI4.out.kept hFb)
                clear hFb c3 HI4 hyl
                generalize wr.alloc (.cells #[.int .i64 0, .int .i64 0, .int .i64 0, .int .i64 0] 30) = W5 at *
                generalize wr.heap.size = wsb at *
                have hne3 : Nonempty (HW (fun wx => Frm [] W5 wx)) := ⟨⟨W5, Frm.refl _ _⟩⟩
                have y0 : ∀ q : HW (fun wx => Frm [] W5 wx), q.w.cell? ⟨wsb, 0, none⟩ = some (.int .i64 0) := fun q => (HWS.out.frm q.h (by simp)).cell (i := 0) rfl
                have y1 : ∀ q : HW (fun wx => Frm [] W5 wx), q.w.cell? ⟨wsb, 1, none⟩ = some (.int .i64 0) := fun q => (HWS.out.frm q.h (by simp)).cell (i := 1) rfl
                have y2 : ∀ q : HW (fun wx => Frm [] W5 wx), q.w.cell? ⟨wsb, 2, none⟩ = some (.int .i64 0) := fun q => (HWS.out.frm q.h (by simp)).cell (i := 2) rfl
                have y3 : ∀ q : HW (fun wx => Frm [] W5 wx), q.w.cell? ⟨wsb, 3, none⟩ = some (.int .i64 0) := fun q => (HWS.out.frm q.h (by simp)).cell (i := 3) rfl
                refine held_begin (S := fun wx => Frm [] W5 wx) (by kernel_rfl) ?_
                refine held_row_at (fuel := 2) (is := [0, 1, 3]) (.cons rfl (.cons rfl (.cons rfl .nil))) (by kernel_rfl) (fun _ _ _ _ _ h => h) rfl (by kernel_rfl) (Frm.refl _ _).drew1 ?_
                intro K hK
                repeat (go_big_quiet_step (fail))
                refine wpQuiet_nil (hK _ ?_)
                clear hK K
                refine held_call (fuel := 1) (i := 2) rfl (by kernel_rfl) ?_
                go_wp2_with fail
                refine (lSpot_any (HI5.out.lk.frm (Z := []) (by repeat (first | exact HF8.out | exact Frm.refl _ _ | apply Frm.drew1 | apply Frm.drew)) (by simp) (by simp)) q).mono ?_; rw [HSV.out]; rintro e x1 ⟨rfl, hF⟩; have HF8 := Lib.hid (Frm.trans (S := []) (a := W5) (by repeat (first | exact HF8.out | exact Frm.refl _ _ | apply Frm.drew1 | apply Frm.drew)) hF); clear hF
                go_wp2_with fail
                refine onNormal_mk ⟨(by repeat (first | exact HF8.out | exact Frm.refl _ _ | apply Frm.drew1 | apply Frm.drew)), ?_⟩
                refine held_row_at (fuel := 0) (is := [4]) (.cons rfl .nil) (by kernel_rfl) (fun _ _ _ _ _ h => h) rfl (by kernel_rfl) (by repeat (first | exact HF8.out | exact Frm.refl _ _ | apply Frm.drew1 | apply Frm.drew)) ?_
                intro K hK
                repeat (go_big_quiet_step (fail))
                refine wpQuiet_nil (hK _ ?_)
                clear hK K
                refine held_end (by kernel_rfl) ?_
                have HI6 := Lib.hid (HI5.out.kept HF8.out)
                clear HI5 HF8 hne3 y0 y1 y2 y3
                go_wp2_with fail
                go_roundw
                case rel => exact ⟨(q : Int) + 1, rfl, by omega, by omega, HI6.out⟩
                case measure => simp [intOf]; omega
              · have m2 : decide ((0 : Int) ≤ q) = false := by simpa using hneg
                clear hin
                go_upto_region 21 with fail
                have hFb : Frm [] wr (wr.alloc (.cells #[.int .i64 0, .int .i64 0, .int .i64 0, .int .i64 0] 30)) := (Frm.refl _ _).alloc _
                have HWS : Hid (HAt (wr.alloc (.cells #[.int .i64 0, .int .i64 0, .int .i64 0, .int .i64 0] 30)) wr.heap.size [.int .i64 0, .int .i64 0, .int .i64 0, .int .i64 0] 30) := Lib.hid (HAt.new wr _ _)
                have HI5 := Lib.hid (HI4.out.kept hFb)
                clear hFb c3 HI4
                generalize wr.alloc (.cells #[.int .i64 0, .int .i64 0, .int .i64 0, .int .i64 0] 30) = W5 at *
                generalize wr.heap.size = wsb at *
                have hne3 : Nonempty (HW (fun wx => Frm [] W5 wx)) := ⟨⟨W5, Frm.refl _ _⟩⟩
                have y0 : ∀ q : HW (fun wx => Frm [] W5 wx), q.w.cell? ⟨wsb, 0, none⟩ = some (.int .i64 0) := fun q => (HWS.out.frm q.h (by simp)).cell (i := 0) rfl
                have y1 : ∀ q : HW (fun wx => Frm [] W5 wx), q.w.cell? ⟨wsb, 1, none⟩ = some (.int .i64 0) := fun q => (HWS.out.frm q.h (by simp)).cell (i := 1) rfl
                have y2 : ∀ q : HW (fun wx => Frm [] W5 wx), q.w.cell? ⟨wsb, 2, none⟩ = some (.int .i64 0) := fun q => (HWS.out.frm q.h (by simp)).cell (i := 2) rfl
                have y3 : ∀ q : HW (fun wx => Frm [] W5 wx), q.w.cell? ⟨wsb, 3, none⟩ = some (.int .i64 0) := fun q => (HWS.out.frm q.h (by simp)).cell (i := 3) rfl
                refine held_begin (S := fun wx => Frm [] W5 wx) (by kernel_rfl) ?_
                refine held_row_at (fuel := 2) (is := [0, 1, 3]) (.cons rfl (.cons rfl (.cons rfl .nil))) (by kernel_rfl) (fun _ _ _ _ _ h => h) rfl (by kernel_rfl) (Frm.refl _ _).drew1 ?_
                intro K hK
                repeat (go_big_quiet_step (fail))
                refine wpQuiet_nil (hK _ ?_)
                clear hK K
                refine held_call (fuel := 1) (i := 2) rfl (by kernel_rfl) ?_
                go_wp2_with fail
                refine (lSpot_any (HI5.out.lk.frm (Z := []) (by repeat (first | exact HF8.out | exact Frm.refl _ _ | apply Frm.drew1 | apply Frm.drew)) (by simp) (by simp)) q).mono ?_; rw [HSV.out]; rintro e x1 ⟨rfl, hF⟩; have HF8 := Lib.hid (Frm.trans (S := []) (a := W5) (by repeat (first | exact HF8.out | exact Frm.refl _ _ | apply Frm.drew1 | apply Frm.drew)) hF); clear hF
                go_wp2_with fail
                refine onNormal_mk ⟨(by repeat (first | exact HF8.out | exact Frm.refl _ _ | apply Frm.drew1 | apply Frm.drew)), ?_⟩
                refine held_row_at (fuel := 0) (is := [4]) (.cons rfl .nil) (by kernel_rfl) (fun _ _ _ _ _ h => h) rfl (by kernel_rfl) (by repeat (first | exact HF8.out | exact Frm.refl _ _ | apply Frm.drew1 | apply Frm.drew)) ?_
                intro K hK
                repeat (go_big_quiet_step (fail))
                refine wpQuiet_nil (hK _ ?_)
                clear hK K
                refine held_end (by kernel_rfl) ?_
                have HI6 := Lib.hid (HI5.out.kept HF8.out)
                clear HI5 HF8 hne3 y0 y1 y2 y3
                go_wp2_with fail
                go_roundw
                case rel => exact ⟨(q : Int) + 1, rfl, by omega, by omega, HI6.out⟩
                case measure => simp [intOf]; omega
          · have m1 : decide (q ≤ (n : Int)) = false := by simpa using hqn
            go_wp2_with fail
            go_roundw
            case rel => exact ⟨k + 1, A2, S2, by go_num, by omega, HI4.out⟩
            case measure => simp [intOf]; omega
      · have l1 : ¬ (k : Int) < acts.length := by omega
        have hk1 := HI1.out.rk.box.cell (i := 3) rfl
        have hne1 : Nonempty (HW (fun wx => Frm [] wr wx)) := ⟨⟨wr, Frm.refl _ _⟩⟩
        have hz1 : ∀ q : HW (fun wx => Frm [] wr wx), q.w.cell? ⟨yb, 3, none⟩ = some (.slice (some ⟨g, 0, none⟩) n rcap) := fun q => (HI1.out.rk.box.frm q.h (by simp)).cell (i := 3) rfl
        go_upto_region 23 with fail
        generalize wr = WX at *
        refine held_begin (S := fun wx => Frm [] WX wx) (by kernel_rfl) ?_
        refine held_row_at (fuel := 6) (is := [0, 2, 3, 4, 5, 6]) (.cons rfl (.cons rfl (.cons rfl (.cons rfl (.cons rfl (.cons rfl .nil)))))) (by kernel_rfl) (fun _ _ _ _ _ h => h) rfl (by kernel_rfl) (Frm.refl _ _).drew1 ?_
        intro K hK
        repeat (go_big_quiet_step (fail))
        refine wpQuiet_nil (hK _ ?_)
        clear hK K
        refine held_call (fuel := 5) (i := 1) rfl (by kernel_rfl) ?_
        go_wp2_with fail
        refine (lSlots_any (HI1.out.lk.frm (Z := []) (by repeat (first | exact HF9.out | exact Frm.refl _ _ | apply Frm.drew1 | apply Frm.drew)) (by simp) (by simp))).mono ?_; rintro e x1 ⟨rfl, rfl⟩
        go_wp2_with fail
        refine onNormal_mk ⟨(by repeat (first | exact HF9.out | exact Frm.refl _ _ | apply Frm.drew1 | apply Frm.drew)), ?_⟩
        refine held_row_at (fuel := 3) (is := [7, 8]) (.cons rfl (.cons rfl .nil)) (by kernel_rfl) (fun _ _ _ _ _ h => h) rfl (by kernel_rfl) (by repeat (first | exact HF9.out | exact Frm.refl _ _ | apply Frm.drew1 | apply Frm.drew)) ?_
        intro K hK
        repeat (go_big_quiet_step (fail))
        refine wpQuiet_nil (hK _ ?_)
        clear hK K
        refine held_call (fuel := 2) (i := 9) rfl (by kernel_rfl) ?_
        go_wp2_with fail
        refine (tsawake _).mono ?_; rintro e x2 ⟨rfl, hF⟩; have HF9 := Lib.hid (Frm.trans (S := []) (a := WX) (by repeat (first | exact HF9.out | exact Frm.refl _ _ | apply Frm.drew1 | apply Frm.drew)) hF); clear hF
        go_wp2_with fail
        refine onNormal_mk ⟨(by repeat (first | exact HF9.out | exact Frm.refl _ _ | apply Frm.drew1 | apply Frm.drew)), ?_⟩
        refine held_row_at (fuel := 0) (is := [10, 11]) (.cons rfl (.cons rfl .nil)) (by kernel_rfl) (fun _ _ _ _ _ h => h) rfl (by kernel_rfl) (by repeat (first | exact HF9.out | exact Frm.refl _ _ | apply Frm.drew1 | apply Frm.drew)) ?_
        intro K hK
        repeat (go_big_quiet_step (fail))
        refine wpQuiet_nil (hK _ ?_)
        clear hK K
        refine held_end (by kernel_rfl) ?_
        go_wp2
        go_ret
        exact ⟨rfl, (HI1.out.frm.trans HF9.out).below (Nat.le_refl _) (by simp)⟩
  · have e1 : (tasE (AR.fresh (roomOf n0)) n1 n2 == 0) = false := by simpa using hE
    have e2 : (tasE (AR.fresh (roomOf n0)) n1 n2 != 0) = true := by simpa using hE
    have HE := Lib.hid hE
    clear hE
    go_wp2_with fail
    refine (lNew_bad HA.out n1 HE.out).mono ?_
    rintro e w3 ⟨rfl, hF3⟩
    have HR3 := Lib.hid (HR.out.frm hF3 (by simp; omega))
    have hB3 := HB1.out.frm hF3 (by simp [HSZ.out]; omega)
    have HF3 := Lib.hid ((HF.out.widen hF3 (by simp)))
    clear hF3 c1 c2
    have c1 := hB3.cell (i := 1) rfl
    have c2 := hB3.cell (i := 2) rfl
    clear hB3
    go_wp2_with fail
    refine (rtNew_bad HR3.out n1 HE.out).mono ?_
    rintro e w4 ⟨rfl, hF4⟩
    have HF4 := Lib.hid ((HF3.out.widen hF4 (by simp [vb, Value.ownBlock]; omega)))
    clear hF4 c1 c2
    go_wp2_with fail
    refine (tsawake _).mono ?_
    rintro e w5 ⟨rfl, hF5⟩
    have HF5 := Lib.hid ((HF0.out.trans HF4.out).trans hF5)
    clear hF5
    go_wp2
    go_ret
    exact ⟨rfl, HF5.out.below (Nat.le_refl _) (by simp)⟩

theorem tasPlays_walk (n0 n1 n2 : Int) (v : Value) (acts : List (Int × Int)) (w : World) (_h0 : I64 n0) (_h1 : I64 n1) (_h2 : I64 n2) (h : ActsAt w v acts) :
    Calls Try.prog 4 #[.agg #[.int .i64 n0, .int .i64 n1, .int .i64 n2], v] w fun e w' => e = .returned (.bool true) ∧ Below w.heap.size w w' := by
  by_cases hl : acts.length ≤ 100
  · exact tasPlays_short v acts n0 n1 n2 w h hl
  · exact tasPlays_long v acts n0 n1 n2 w h (by omega)
end Go.Proofs.Ytmfeaancnkadbaa
