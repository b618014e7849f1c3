/- A cohort lock: what it is made of, what stands while a part of it turns; of, Spot, has. -/
import Derived.Test.YteijjhahgabalaaGreatQ18
import Derived.Test.YteijjhahgabalaaGreatQ20
import Derived.Test.YteijjhahgabalaaGreatQ03
import Derived.Test.YteijjhahgabalaaGreatQ16
import Derived.Handy
import Derived.Test.YteijjhahgabalaaGreatQ05
namespace Go.Proofs.YteijjhahgabalaaGreat
open Go.RowKit
/-- a cohort's make: parents, threads; the global lock's make, the local ones', the words of their counts; the pair -/
structure CK where
  P : List Int
  T : List Int
  G : FK
  L : Nat → FK
  cn : Nat → Nat
  gk : Int
  lk : Int
  par : Int
  bud : Int
/-- a cohort's state: the arena, the spots of the global lock, of the local ones, of the threads -/
structure CS where
  A : AR
  GS : Nat → Nat → Int
  LS : Nat → Nat → Nat → Int
  TS : Nat → Nat → Int
/-- where it lies -/
structure CB where
  cb : Nat
  tb : Nat
  gf : Nat
  gl : Nat
  gs : Nat
  ab : Nat
  wb : Nat
  cs : Nat
  nb : Nat
  ncap : Nat
  fb : Nat → Nat
  lb : Nat → Nat
  sb : Nat → Nat
def CK.E (K : CK) : Nat := (tE K.P).length
def CK.n (K : CK) : Nat := K.T.length
/-- a thread's node, and its number there -/
def CK.nd (K : CK) (th : Nat) : Nat := tNd K.P (K.T[th]?.getD 0)
def CK.sl (K : CK) (th : Nat) : Nat := (K.T.take th).count (K.T[th]?.getD 0)
def upL (f : Nat → Nat → Nat → Int) (v : Nat) (x : Nat → Nat → Int) : Nat → Nat → Nat → Int := fun u => if u = v then x else f u
structure CoAt (w : World) (B : CB) (K : CK) (S : CS) : Prop where
  box : HAt w B.cb [.pointer (some ⟨B.ab, 0, none⟩), .pointer (some ⟨B.tb, 0, none⟩), .int .i64 K.gk, .int .i64 K.lk, .int .i64 K.par, .int .i64 K.bud, .pointer (some ⟨B.gf, 0, none⟩), .slice (some ⟨B.nb, 0, none⟩) K.E B.ncap, .slice (some ⟨B.cs, 0, none⟩) K.n K.n] 201
  tab : TbF w B.tb K.P K.T
  glo : FlAt w B.gf B.gl B.gs B.ab B.wb S.A S.GS K.G
  nod : ∃ cells, HAt w B.nb cells 203 ∧ ∀ v, v < K.E → cells[v * 2]? = some (.pointer (some ⟨B.fb v, 0, none⟩)) ∧ cells[v * 2 + 1]? = some (.int .i64 (K.cn v))
  loc : ∀ v, v < K.E → FlAt w (B.fb v) (B.lb v) (B.sb v) B.ab B.wb S.A (S.LS v) (K.L v)
  row : HAt w B.cs (spC K.n S.TS) 138
  dif : B.cs ≠ B.gs ∧ (∀ v, v < K.E → B.sb v ≠ B.cs ∧ B.sb v ≠ B.gs) ∧ ∀ u v, u < K.E → v < K.E → B.sb u = B.sb v → u = v
  ok : TOk K.P K.T
def CZ (B : CB) (K : CK) : List Nat := B.cs :: B.gs :: B.ab :: B.wb :: (List.range K.E).map B.sb
section
variable {w w' : World} {B : CB} {K : CK} {S : CS}
theorem CoAt.ar (h : CoAt w B K S) : ArAt w B.ab B.wb S.A := h.glo.ar
theorem mem_CZ {z : Nat} : z ∈ CZ B K ↔ z = B.cs ∨ z = B.gs ∨ z = B.ab ∨ z = B.wb ∨ ∃ v, v < K.E ∧ B.sb v = z := by unfold CZ; simp
theorem CoAt.mut (h : CoAt w B K S) : Mut w (CZ B K) := by
  intro z hz
  rcases mem_CZ.1 hz with e | e | e | e | ⟨v, hv, e⟩
  · subst e; exact ⟨_, _, h.row, .inl rfl⟩
  · subst e; obtain ⟨vs, hr⟩ := h.glo.srow; exact ⟨_, _, hr, .inl rfl⟩
  · subst e; exact ⟨_, _, h.ar.box, .inr (.inl rfl)⟩
  · subst e; exact ⟨_, _, h.ar.row, .inr (.inr rfl)⟩
  · subst e; obtain ⟨vs, hr⟩ := (h.loc v hv).srow; exact ⟨_, _, hr, .inl rfl⟩
theorem Mut.sub {w : World} {Z Z' : List Nat} (h : Mut w Z) (hs : ∀ z ∈ Z', z ∈ Z) : Mut w Z' := fun z hz => h z (hs z hz)
theorem FlAt.fnot {fb lb sb ab wb : Nat} {A : AR} {F : Nat → Nat → Int} {M : FK} (h : FlAt w fb lb sb ab wb A F M) {Z : List Nat} (hz : Mut w Z) : fb ∉ Z ∧ lb ∉ Z := by
  obtain ⟨_, h1⟩ := h.fbox
  obtain ⟨_, T, h2, t1, t2, t3, _⟩ := h.lbox
  exact ⟨hz.not h1, hz.not h2 t1 t2 t3⟩
/-- the whole stands while Z turns: the arena, the global lock, the local ones and the threads' spots are given anew -/
theorem CoAt.re (h : CoAt w B K S) {Z : List Nat} (hf : Frm Z w w') (hz : ∀ z ∈ Z, z ∈ CZ B K) {A' : AR} {G' : Nat → Nat → Int} {L' : Nat → Nat → Nat → Int} {T' : Nat → Nat → Int}
    (hG : FlAt w' B.gf B.gl B.gs B.ab B.wb A' G' K.G) (hL : ∀ v, v < K.E → FlAt w' (B.fb v) (B.lb v) (B.sb v) B.ab B.wb A' (L' v) (K.L v)) (hT : HAt w' B.cs (spC K.n T') 138) : CoAt w' B K ⟨A', G', L', T'⟩ := by
  have hm := h.mut.sub hz
  obtain ⟨cells, hn, hc⟩ := h.nod
  exact { box := h.box.frm hf (hm.not h.box), tab := h.tab.stay hf hm, glo := hG, nod := ⟨cells, hn.frm hf (hm.not hn), hc⟩, loc := hL, row := hT, dif := h.dif, ok := h.ok }
theorem CoAt.same (h : CoAt w B K S) (hf : Frm [] w w') : CoAt w' B K S :=
  h.re hf (by simp) (h.glo.frm hf (by simp)) (fun v hv => (h.loc v hv).frm hf (by simp)) (h.row.frm hf (by simp))
theorem CoAt.arena (h : CoAt w B K S) {A' : AR} (hf : Frm [B.ab, B.wb] w w') (hA : ArAt w' B.ab B.wb A') : CoAt w' B K { S with A := A' } := by
  have hm : Mut w [B.ab, B.wb] := h.mut.sub (fun z hz => mem_CZ.2 (by simp at hz; omega))
  refine h.re hf (fun z hz => mem_CZ.2 (by simp at hz; omega)) ?_ (fun v hv => ?_) ?_
  · have := h.glo.apart; exact h.glo.re hf (h.glo.fnot hm).1 (h.glo.fnot hm).2 (by simp; omega) hA
  · have := (h.loc v hv).apart; exact (h.loc v hv).re hf ((h.loc v hv).fnot hm).1 ((h.loc v hv).fnot hm).2 (by simp; omega) hA
  · exact h.row.frm hf (by have := h.row.differ h.ar.box (by decide); have := h.row.differ h.ar.row (by decide); simp; omega)
theorem CoAt.glob (h : CoAt w B K S) {A' : AR} {G' : Nat → Nat → Int} (hf : Frm [B.gs, B.ab, B.wb] w w') (hG : FlAt w' B.gf B.gl B.gs B.ab B.wb A' G' K.G) : CoAt w' B K { S with A := A', GS := G' } := by
  have hm : Mut w [B.gs, B.ab, B.wb] := h.mut.sub (fun z hz => mem_CZ.2 (by simp at hz; omega))
  obtain ⟨d1, d2, d3⟩ := h.dif
  refine h.re hf (fun z hz => mem_CZ.2 (by simp at hz; omega)) hG (fun v hv => ?_) ?_
  · have := (h.loc v hv).apart; have := d2 v hv; exact (h.loc v hv).re hf ((h.loc v hv).fnot hm).1 ((h.loc v hv).fnot hm).2 (by simp; omega) hG.ar
  · exact h.row.frm hf (by have := h.row.differ h.ar.box (by decide); have := h.row.differ h.ar.row (by decide); simp; omega)
theorem CoAt.local (h : CoAt w B K S) {A' : AR} {L' : Nat → Nat → Int} {v : Nat} (hv : v < K.E) (hf : Frm [B.sb v, B.ab, B.wb] w w') (hL : FlAt w' (B.fb v) (B.lb v) (B.sb v) B.ab B.wb A' L' (K.L v)) : CoAt w' B K { S with A := A', LS := upL S.LS v L' } := by
  have hm : Mut w [B.sb v, B.ab, B.wb] := h.mut.sub (fun z hz => mem_CZ.2 (by
    simp at hz
    rcases hz with e | e | e
    · exact .inr (.inr (.inr (.inr ⟨v, hv, e.symm⟩)))
    · omega
    · omega))
  obtain ⟨d1, d2, d3⟩ := h.dif
  have dv := d2 v hv
  refine h.re hf (fun z hz => mem_CZ.2 (by
    simp at hz
    rcases hz with e | e | e
    · exact .inr (.inr (.inr (.inr ⟨v, hv, e.symm⟩)))
    · omega
    · omega)) ?_ (fun u hu => ?_) ?_
  · have := h.glo.apart; exact h.glo.re hf (h.glo.fnot hm).1 (h.glo.fnot hm).2 (by simp; omega) hL.ar
  · unfold upL
    by_cases e : u = v
    · subst e; rw [if_pos rfl]; exact hL
    · rw [if_neg e]
      have := (h.loc u hu).apart
      have hne : B.sb u ≠ B.sb v := fun x => e (d3 u v hu hv x)
      exact (h.loc u hu).re hf ((h.loc u hu).fnot hm).1 ((h.loc u hu).fnot hm).2 (by simp; omega) hL.ar
  · exact h.row.frm hf (by have := h.row.differ h.ar.box (by decide); have := h.row.differ h.ar.row (by decide); simp; omega)
theorem CoAt.put (h : CoAt w B K S) (th : Nat) {t : Nat} (ht : t < 4) (x : Int) : CoAt (w.setCell ⟨B.cs, th * 4 + t, none⟩ (.int .i64 x)) B K { S with TS := spPut S.TS th t x } := by
  have hf : Frm [B.cs] w (w.setCell ⟨B.cs, th * 4 + t, none⟩ (.int .i64 x)) := (Frm.refl _ _).set _ _ (.inl (by simp))
  have hm : Mut w [B.cs] := h.mut.sub (fun z hz => mem_CZ.2 (by simp at hz; omega))
  obtain ⟨d1, d2, d3⟩ := h.dif
  have n1 := h.row.differ h.ar.box (by decide)
  have n2 := h.row.differ h.ar.row (by decide)
  have hr := h.row.set (th * 4 + t) (.int .i64 x)
  rw [spC_putT K.n S.TS ht x] at hr
  refine h.re hf (fun z hz => mem_CZ.2 (by simp at hz; omega)) ?_ (fun v hv => ?_) hr
  · exact h.glo.re hf (h.glo.fnot hm).1 (h.glo.fnot hm).2 (by simp; omega) (h.ar.frm hf (by simp; omega) (by simp; omega))
  · have := d2 v hv; exact (h.loc v hv).re hf ((h.loc v hv).fnot hm).1 ((h.loc v hv).fnot hm).2 (by simp; omega) (h.ar.frm hf (by simp; omega) (by simp; omega))
theorem CoAt.p (h : CoAt w B K S) {th : Nat} (hj : th < K.n) {t : Nat} (ht : t < 4) : w.cell? ⟨B.cs, th * 4 + t, none⟩ = some (.int .i64 (S.TS th t)) := h.row.cell (spC_getT K.n S.TS hj ht)
theorem CoAt.p0 (h : CoAt w B K S) {th : Nat} (hj : th < K.n) : w.cell? ⟨B.cs, th * 4, none⟩ = some (.int .i64 (S.TS th 0)) := h.row.cell (spC_getT K.n S.TS (t := 0) hj (by omega))
theorem CoAt.n32 (h : CoAt w B K S) : K.n ≤ 32 ∧ 1 ≤ K.n := ⟨h.ok.size.2.2.2, h.ok.size.2.2.1⟩
theorem CoAt.nd_lt (h : CoAt w B K S) {th : Nat} (hj : th < K.n) : K.nd th < K.E := by
  unfold CK.nd CK.E tNd
  refine List.idxOf_lt_length_iff.2 (tE_mem h.ok ?_)
  rw [List.getElem?_eq_getElem hj]; exact List.getElem_mem hj
theorem coThreads (h : CoAt w B K S) : Calls Tryz.prog 224 #[.pointer (some ⟨B.cb, 0, none⟩)] w fun e w' => e = .returned (.int .i64 K.n) ∧ w = w' := by
  have c8 := h.box.cell (i := 8) rfl
  clear h
  go_enter Tryz.func224, Tryz.ntmps224
  go_wp2
  go_ret
  exact ⟨rfl, rfl⟩
theorem coHas (h : CoAt w B K S) (i : Int) : Calls Tryz.prog 225 #[.pointer (some ⟨B.cb, 0, none⟩), .int .i64 i] w fun e w' => e = .returned (.bool (sHas K.n i)) ∧ w = w' := by
  have HT := Lib.hid (coThreads h)
  clear h
  by_cases h1 : 0 ≤ i
  · have d1 : decide (0 ≤ i) = true := by simpa using h1
    have e : sHas K.n i = decide (i < (K.n : Int)) := by unfold sHas; simp [h1]
    rw [e]
    cases hd : decide (i < (K.n : Int))
    all_goals
      go_enter Tryz.func225, Tryz.ntmps225
      go_wp2_with fail
      refine HT.out.mono ?_
      rintro e w' ⟨rfl, rfl⟩
      go_wp2
      go_ret
      exact ⟨rfl, rfl⟩
  · have d1 : decide (0 ≤ i) = false := by simpa using h1
    have e : sHas K.n i = false := by unfold sHas; simp; omega
    rw [e]
    go_enter Tryz.func225, Tryz.ntmps225
    go_wp2
    go_ret
    exact ⟨rfl, rfl⟩
theorem coSpot (h : CoAt w B K S) (i : Int) : Calls Tryz.prog 222 #[.pointer (some ⟨B.cb, 0, none⟩), .int .i64 i] w fun e w' => e = .returned (spV K.n S.TS i) ∧ Frm [] w w' := by
  have hF : Frm [] w (w.alloc (.cells #[.int .i64 0, .int .i64 0, .int .i64 0, .int .i64 0] 138)) := (Frm.refl _ _).alloc _
  have HS := Lib.hid (coHas (h.same hF) i)
  have hnot : ∀ (x : Bool) (w : World), (Op.unary .not (.bool x)).run Tryz.prog w = .ok (.bool (!x)) w := fun _ _ => rfl
  cases hi : sHas K.n i with
  | false =>
    have hr : spV K.n S.TS i = .agg #[.int .i64 0, .int .i64 0, .int .i64 0, .int .i64 0] := by unfold spV; rw [hi]; rfl
    rw [hr]
    rw [hi] at HS
    clear h hr hi hF
    go_enter Tryz.func222, Tryz.ntmps222
    go_wp2_with fail
    refine HS.out.mono ?_
    rintro e w' ⟨rfl, rfl⟩
    go_wp2_with fail
    exact bodyPost_ret (v := .agg #[.int .i64 0, .int .i64 0, .int .i64 0, .int .i64 0]) (by simp [results, Tryz.results222, go_sem]) rfl ⟨rfl, (Frm.refl _ _).alloc _⟩
  | true =>
    have hi' : 0 ≤ i ∧ i < (K.n : Int) := by unfold sHas at hi; simpa using hi
    obtain ⟨j, rfl⟩ := Int.eq_ofNat_of_zero_le hi'.1
    have hj : j < K.n := by omega
    have hr : spV K.n S.TS j = .agg #[.int .i64 (S.TS j 0), .int .i64 (S.TS j 1), .int .i64 (S.TS j 2), .int .i64 (S.TS j 3)] := by unfold spV; rw [hi]; rfl
    rw [hr]
    rw [hi] at HS
    have h2 := h.same hF
    have c8 := h2.box.cell (i := 8) rfl
    have j0 := h2.p0 hj
    have j1 := h2.p hj (t := 1) (by omega)
    have j2 := h2.p hj (t := 2) (by omega)
    have j3 := h2.p hj (t := 3) (by omega)
    have l1 : (j : Int) < K.n := by omega
    have hn32 := h.n32.1
    clear h hr hi hi' hF h2
    go_enter Tryz.func222, Tryz.ntmps222
    go_wp2_with fail
    refine HS.out.mono ?_
    rintro e w' ⟨rfl, rfl⟩
    go_wp2_with fail
    refine bodyPost_ret (v := .agg #[.int .i64 (S.TS j 0), .int .i64 (S.TS j 1), .int .i64 (S.TS j 2), .int .i64 (S.TS j 3)]) (by simp [results, Tryz.results222, go_sem]) rfl ⟨rfl, ?_⟩
    exact (Frm.refl _ _).alloc _
end
end Go.Proofs.YteijjhahgabalaaGreat

/- A cohort lock: of. -/
namespace Go.Proofs.YteijjhahgabalaaGreat
open Go.RowKit
section
variable {w w' : World} {B : CB} {K : CK} {S : CS}
set_option maxRecDepth 100000 in
theorem coOf (h : CoAt w B K S) {th : Nat} (hj : th < K.n) : Calls Tryz.prog 226 #[.pointer (some ⟨B.cb, 0, none⟩), .int .i64 th] w fun e w' => e = .returned (.tuple #[.agg #[.pointer (some ⟨B.fb (K.nd th), 0, none⟩), .int .i64 (K.cn (K.nd th))], .int .i64 (K.nd th), .int .i64 (K.sl th)]) ∧ Frm [] w w' := by
  have hv := h.nd_lt hj
  have hF : Frm [] w (w.alloc (.cells #[.pointer none, .int .i64 0] 203)) := (Frm.refl _ _).alloc _
  have hB := HAt.new w #[.pointer none, .int .i64 0] 203
  have h2 := h.same hF
  have HN := Lib.hid (tNode_f h2.tab hj)
  have HSL := Lib.hid (fun (W : World) (hf : Frm [] (w.alloc (.cells #[.pointer none, .int .i64 0] 203)) W) => tSlot_f (h2.same hf).tab hj)
  have HBX := Lib.hid hB
  have hnbl : B.nb < w.heap.size := by
    obtain ⟨cells, hn, _⟩ := h.nod
    exact hn.lt
  have HW2 := Lib.hid h2
  have HFF := Lib.hid hF
  have c1 := h2.box.cell (i := 1) rfl
  obtain ⟨v, hvv⟩ : ∃ v, v = K.nd th := ⟨_, rfl⟩
  obtain ⟨sl, hsl⟩ : ∃ s, s = K.sl th := ⟨_, rfl⟩
  have eN : (tNd K.P (K.T[th]?.getD 0)) = v := by rw [hvv]; rfl
  have eS : ((K.T.take th).count (K.T[th]?.getD 0)) = sl := by rw [hsl]; rfl
  rw [eN] at HN
  rw [eS] at HSL
  rw [← hvv, ← hsl]
  rw [← hvv] at hv
  clear h eN eS hvv hsl hB hF h2
  go_enter Tryz.func226, Tryz.ntmps226
  go_wp2_with fail
  refine HN.out.mono ?_
  rintro e w' ⟨rfl, rfl⟩
  clear c1 HN
  obtain ⟨bn, hbn⟩ : ∃ bn, bn = w.heap.size := ⟨_, rfl⟩
  rw [← hbn] at HBX ⊢
  have hbw : w.heap.size ≤ bn := by omega
  clear hbn
  generalize w.alloc (.cells #[.pointer none, .int .i64 0] 203) = W at *
  have hcl : ∀ wx, Frm [bn] W wx → wx.cell? ⟨B.cb, 1, none⟩ = some (.pointer (some ⟨B.tb, 0, none⟩)) ∧ wx.cell? ⟨B.cb, 7, none⟩ = some (.slice (some ⟨B.nb, 0, none⟩) K.E B.ncap) ∧ wx.cell? ⟨B.nb, v * 2, none⟩ = some (.pointer (some ⟨B.fb v, 0, none⟩)) ∧ wx.cell? ⟨B.nb, v * 2 + 1, none⟩ = some (.int .i64 (K.cn v)) := by
    intro wx hf
    obtain ⟨cells, hn, hc⟩ := HW2.out.nod
    have n1 := HBX.out.differ HW2.out.box (by decide)
    have n2 : bn ≠ B.nb := by omega
    have hb := HW2.out.box.frm hf (by simp; omega)
    have hn' := hn.frm hf (by simp; omega)
    exact ⟨hb.cell (i := 1) rfl, hb.cell (i := 7) rfl, hn'.cell (hc v hv).1, hn'.cell (hc v hv).2⟩
  have HCL := Lib.hid hcl
  clear hcl
  have hne : Nonempty (HW (fun wx => Frm [bn] W wx)) := ⟨⟨W, Frm.refl _ _⟩⟩
  have hz0 : ∀ q : HW (fun wx => Frm [bn] W wx), q.w.cell? ⟨B.cb, 1, none⟩ = some (.pointer (some ⟨B.tb, 0, none⟩)) := fun q => (HCL.out q.w q.h).1
  have hz1 : ∀ q : HW (fun wx => Frm [bn] W wx), q.w.cell? ⟨B.cb, 7, none⟩ = some (.slice (some ⟨B.nb, 0, none⟩) K.E B.ncap) := fun q => (HCL.out q.w q.h).2.1
  have hz2 : ∀ q : HW (fun wx => Frm [bn] W wx), q.w.cell? ⟨B.nb, v * 2, none⟩ = some (.pointer (some ⟨B.fb v, 0, none⟩)) := fun q => (HCL.out q.w q.h).2.2.1
  have hz3 : ∀ q : HW (fun wx => Frm [bn] W wx), q.w.cell? ⟨B.nb, v * 2 + 1, none⟩ = some (.int .i64 (K.cn v)) := fun q => (HCL.out q.w q.h).2.2.2
  have l1 : (v : Int) < K.E := by omega
  go_wp2_with fail
  refine held_begin (S := fun wx => Frm [bn] W wx) (by kernel_rfl) ?_
  refine held_row_at (fuel := 4) (is := [0, 1, 2, 3, 4, 5, 6, 7, 8, 9, 10, 11, 12]) (.cons rfl (.cons rfl (.cons rfl (.cons rfl (.cons rfl (.cons rfl (.cons rfl (.cons rfl (.cons rfl (.cons rfl (.cons rfl (.cons rfl (.cons rfl .nil))))))))))))) (by kernel_rfl) (fun _ _ _ _ _ h => h) rfl (by kernel_rfl) (Frm.refl _ _).drew1 ?_
  intro K hK
  repeat (go_big_quiet_step (fail))
  refine wpQuiet_nil (hK _ ?_)
  clear hK K
  refine held_call (fuel := 3) (i := 13) rfl (by kernel_rfl) ?_
  go_wp2_with fail
  refine (HSL.out _ ((Frm.refl [] W).drew1)).mono ?_
  rintro e w' ⟨rfl, rfl⟩
  go_wp2_with fail
  refine onNormal_mk ⟨(Frm.refl _ _).drew1, ?_⟩
  have b0 := HBX.out.cell (i := 0) rfl
  have b1 := HBX.out.cell (i := 1) rfl
  have bz := HBX.out.frozen
  refine held_call (fuel := 2) (i := 14) rfl (by kernel_rfl) ?_
  go_wp2_with fail
  have hst : Frm [bn] W ((W.setCell ⟨bn, 0, none⟩ (.pointer (some ⟨B.fb v, 0, none⟩))).setCell ⟨bn, 1, none⟩ (.int .i64 (K.cn v))).drew := (((Frm.refl _ _).set _ _ (.inl (by simp))).set _ _ (.inl (by simp))).drew1
  have hbs := ((HBX.out.set 0 (.pointer (some ⟨B.fb v, 0, none⟩))).set 1 (.int .i64 (K.cn v))).drew1
  have HST := Lib.hid hst
  have HBS := Lib.hid hbs
  clear hst hbs
  refine onNormal_mk ⟨HST.out, ?_⟩
  generalize ((W.setCell ⟨bn, 0, none⟩ (.pointer (some ⟨B.fb v, 0, none⟩))).setCell ⟨bn, 1, none⟩ (.int .i64 (K.cn v))).drew = W2 at *
  refine held_row_at (fuel := 0) (is := [15, 16]) (.cons rfl (.cons rfl .nil)) (by kernel_rfl) (fun _ _ _ _ _ h => h) rfl (by kernel_rfl) HST.out ?_
  intro K hK
  repeat (go_big_quiet_step (fail))
  refine wpQuiet_nil (hK _ ?_)
  clear hK K
  refine held_end (by kernel_rfl) ?_
  have k0 := HBS.out.cell (i := 0) rfl
  have k1 := HBS.out.cell (i := 1) rfl
  go_wp2_with fail
  refine bodyPost_ret (v := .tuple #[.agg #[.pointer (some ⟨B.fb v, 0, none⟩), .int .i64 (K.cn v)], .int .i64 v, .int .i64 sl]) (by simp [results, Tryz.results226, go_sem, k0, k1]) rfl ⟨rfl, ?_⟩
  exact HFF.out.widen HST.out (fun z hz => .inr (by simp at hz; omega))
end
end Go.Proofs.YteijjhahgabalaaGreat

/- A cohort lock: the steps of a thread that goes out. (Printed by gen_cohort.py.) -/
namespace Go.Proofs.YteijjhahgabalaaGreat
open Go.RowKit
section
variable {w w' : World} {B : CB} {K : CK} {S : CS}
theorem upSelf {w : World} {B : CB} {K : CK} {S : CS} {A' : AR} {v : Nat} (h : CoAt w B K { S with A := A', LS := upL S.LS v (S.LS v) }) : CoAt w B K { S with A := A' } := by
  have e : upL S.LS v (S.LS v) = S.LS := by
    funext u
    unfold upL
    split
    · rename_i e; rw [e]
    · rfl
  rw [e] at h
  exact h
theorem budIn (n a b : Int) (w : World) : Calls Tryz.prog 102 #[.int .i64 n, .int .i64 a, .int .i64 b] w fun e w' => e = .returned (.bool (decide (a ≤ n) && decide (n ≤ b))) ∧ w = w' := by
  by_cases h1 : a ≤ n
  · have d1 : decide (a ≤ n) = true := by simpa using h1
    rw [d1, Bool.true_and]
    cases d2 : decide (n ≤ b)
    all_goals
      go_enter Tryz.func102, Tryz.ntmps102
      go_wp2
      go_ret
      exact ⟨rfl, rfl⟩
  · have d1 : decide (a ≤ n) = false := by simpa using h1
    rw [d1, Bool.false_and]
    go_enter Tryz.func102, Tryz.ntmps102
    go_wp2
    go_ret
    exact ⟨rfl, rfl⟩
theorem budRight (b : Int) (w : World) : Calls Tryz.prog 85 #[.int .i64 b] w fun e w' => e = .returned (.bool (decide (0 ≤ b) && decide (b ≤ 1000))) ∧ w = w' := by
  have HI := Lib.hid (budIn b 0 1000 w)
  generalize (decide ((0 : Int) ≤ b) && decide (b ≤ 1000)) = r at *
  go_enter Tryz.func85, Tryz.ntmps85
  go_wp2_with fail
  refine HI.out.mono ?_
  rintro e w' ⟨rfl, rfl⟩
  go_wp2
  go_ret
  exact ⟨rfl, rfl⟩
/-- whether the lock is handed on within its node -/
def passes (c b : Int) (al : Bool) : Bool := (decide (0 ≤ b) && decide (b ≤ 1000)) && (decide (1 ≤ c) && decide (c ≤ b)) && !al
theorem budPasses (c b : Int) (al : Bool) (w : World) : Calls Tryz.prog 229 #[.int .i64 c, .int .i64 b, .bool al] w fun e w' => e = .returned (.bool (passes c b al)) ∧ w = w' := by
  have HR := Lib.hid (budRight b w)
  have HI := Lib.hid (budIn c 1 b w)
  unfold passes
  have hnot : ∀ (x : Bool) (w : World), (Op.unary .not (.bool x)).run Tryz.prog w = .ok (.bool (!x)) w := fun _ _ => rfl
  generalize (decide ((0 : Int) ≤ b) && decide (b ≤ 1000)) = r at *
  generalize (decide ((1 : Int) ≤ c) && decide (c ≤ b)) = q at *
  cases r
  · go_enter Tryz.func229, Tryz.ntmps229
    go_wp2_with fail
    refine HR.out.mono ?_
    rintro e w' ⟨rfl, rfl⟩
    go_wp2
    go_ret
    exact ⟨rfl, rfl⟩
  · cases q
    all_goals
      go_enter Tryz.func229, Tryz.ntmps229
      go_wp2_with fail
      refine HR.out.mono ?_
      rintro e w' ⟨rfl, rfl⟩
      go_wp2_with fail
      refine HI.out.mono ?_
      rintro e w' ⟨rfl, rfl⟩
      go_wp2
      go_ret
      exact ⟨rfl, rfl⟩
set_option maxRecDepth 100000 in
theorem co_out11y (h : CoAt w B K S) {th : Nat} (hj : th < K.n) (h0 : S.TS th 0 = 11) (hx : K.bud < S.A.get ((K.cn (K.nd th) : Nat) : Int)) : Calls Tryz.prog 228 #[.pointer (some ⟨B.cb, 0, none⟩), .int .i64 th] w fun e w' => e = .returned (.int .i64 (14)) ∧ CoAt w' B K ({ S with A := S.A.load ((K.cn (K.nd th) : Nat) : Int), TS := spPut S.TS th 1 (S.A.get ((K.cn (K.nd th) : Nat) : Int)) }) ∧ Frm (CZ B K) w w' := by
  have HJ := Lib.hid hj
  have hn32 := h.n32
  have HV := Lib.hid (h.nd_lt hj)
  have HOF := Lib.hid (coOf h hj)
  have c8 := h.box.cell (i := 8) rfl
  have l1 : (th : Int) < K.n := by omega
  have H := Lib.hid h
  have H0 := Lib.hid h0
  obtain ⟨x, hxx⟩ : ∃ x, S.A.get ((K.cn (K.nd th) : Nat) : Int) = x := ⟨_, rfl⟩
  rw [hxx] at hx ⊢
  have HX := Lib.hid hxx
  have dx : decide (K.bud < x) = true := by simpa using hx
  clear hxx
  clear h h0 hj
  go_enter Tryz.func228, Tryz.ntmps228
  go_wp2_with fail
  refine HOF.out.mono ?_
  rintro e w1 ⟨rfl, hF⟩
  have hWX : Frm [] w1 (w1.alloc (.cells #[.pointer (some ⟨B.fb (K.nd th), 0, none⟩), .int .i64 (K.cn (K.nd th))] 203)) := (Frm.refl _ _).alloc _
  have hbx := HAt.new w1 #[.pointer (some ⟨B.fb (K.nd th), 0, none⟩), .int .i64 (K.cn (K.nd th))] 203
  have hC := H.out.same (hF.trans hWX)
  have k0 := hC.p0 HJ.out
  rw [H0.out] at k0
  have k1 := hC.p HJ.out (t := 1) (by omega)
  have b0 := hbx.cell (i := 0) rfl
  have b1 := hbx.cell (i := 1) rfl
  have d6 := hC.box.cell (i := 6) rfl
  have HFW := Lib.hid (hF.trans hWX)
  have HBX := Lib.hid hbx
  have HC := Lib.hid hC
  have hbw : w.heap.size ≤ w1.heap.size := hF.size
  clear hWX hbx hC hF
  go_wp2_with fail
  generalize w1.alloc (.cells #[.pointer (some ⟨B.fb (K.nd th), 0, none⟩), .int .i64 (K.cn (K.nd th))] 203) = W at *
  obtain ⟨bn, hbn⟩ : ∃ bn, bn = w1.heap.size := ⟨_, rfl⟩
  rw [← hbn] at HBX b0 b1
  rw [← hbn]
  clear hbn
  have hne : Nonempty (HW (fun wx => Frm [B.cs, B.ab, B.wb] W wx)) := ⟨⟨W, Frm.refl _ _⟩⟩
  have hz0 : ∀ q : HW (fun wx => Frm [B.cs, B.ab, B.wb] W wx), q.w.cell? ⟨B.cb, 0, none⟩ = some (.pointer (some ⟨B.ab, 0, none⟩)) := fun q => (HC.out.box.frm q.h (((HC.out.mut.sub (Z' := [B.cs, B.ab, B.wb]) (fun z hz => mem_CZ.2 (by simp at hz; omega))).not HC.out.box))).cell (i := 0) rfl
  have hz1 : ∀ q : HW (fun wx => Frm [B.cs, B.ab, B.wb] W wx), q.w.cell? ⟨bn, 1, none⟩ = some (.int .i64 (K.cn (K.nd th))) := fun q => (HBX.out.frm q.h (((HC.out.mut.sub (Z' := [B.cs, B.ab, B.wb]) (fun z hz => mem_CZ.2 (by simp at hz; omega))).not HBX.out))).cell (i := 1) rfl
  refine held_begin (S := fun wx => Frm [B.cs, B.ab, B.wb] W wx) (by kernel_rfl) ?_
  refine held_row_at (fuel := 4) (is := [0, 1, 2, 3, 4, 5, 6]) (.cons rfl (.cons rfl (.cons rfl (.cons rfl (.cons rfl (.cons rfl (.cons rfl .nil))))))) (by kernel_rfl) (fun _ _ _ _ _ h => h) rfl (by kernel_rfl) (Frm.refl _ _).drew1 ?_
  intro Kq hK
  repeat (go_big_quiet_step (fail))
  refine wpQuiet_nil (hK _ ?_)
  clear hK Kq
  refine held_call (fuel := 3) (i := 7) rfl (by kernel_rfl) ?_
  go_wp2_with fail
  refine (Load_any ((HC.out.same ((Frm.refl [] W).drew1)).ar) ((K.cn (K.nd th) : Nat) : Int)).mono ?_
  rw [HX.out]
  rintro e w2 ⟨rfl, hA, hF⟩
  have HF2 := Lib.hid (((Frm.refl [B.ab, B.wb] W).drew1).trans hF)
  have HD := Lib.hid (HC.out.arena HF2.out hA)
  have j1 := HD.out.p HJ.out (t := 1) (by omega)
  have jz := HD.out.row.frozen
  clear hA hF
  go_wp2_with fail
  refine onNormal_mk ⟨HF2.out.mono (by simp), ?_⟩
  refine held_row_at (fuel := 1) (is := [8, 9]) (.cons rfl (.cons rfl .nil)) (by kernel_rfl) (fun _ _ _ _ _ h => h) rfl (by kernel_rfl) (HF2.out.mono (by simp)) ?_
  intro Kq hK
  repeat (go_big_quiet_step (fail))
  refine wpQuiet_nil (hK _ ?_)
  clear hK Kq
  refine held_call (fuel := 0) (i := 10) rfl (by kernel_rfl) ?_
  go_wp2_with fail
  refine onNormal_mk ⟨(HF2.out.mono (S' := [B.cs, B.ab, B.wb]) (by simp)).set _ _ (.inl (by simp)), ?_⟩
  refine held_end (by kernel_rfl) ?_
  have HE := Lib.hid (HD.out.put th (t := 1) (by omega) x)
  have HFE := Lib.hid (((HF2.out.mono (S' := [B.cs, B.ab, B.wb]) (by simp)).set ⟨B.cs, th * 4 + 1, none⟩ (.int .i64 x) (.inl (by simp))).mono (S' := CZ B K) (fun z hz => mem_CZ.2 (by simp at hz; omega)))
  clear j1 jz hne hz0 hz1 HD HF2 b0 b1 k0 k1 d6
  generalize w2.setCell ⟨B.cs, th * 4 + 1, none⟩ (.int .i64 x) = W3 at *
  have e1 : W3.cell? ⟨B.cs, th * 4 + 1, none⟩ = some (.int .i64 x) := (HE.out.p HJ.out (t := 1) (by omega)).trans (by simp [spPut])
  have e0 := HE.out.p0 HJ.out
  have g5 := HE.out.box.cell (i := 5) rfl
  go_wp2_with fail
  go_quiet (fail)
  go_wp2
  go_ret
  have hdr : Frm [] W3 (W3.drewN nq) := (Frm.refl _ _).drew _
  exact ⟨rfl, HE.out.same hdr, ((HFW.out.mono (S' := CZ B K) (by simp)).trans HFE.out).trans (hdr.mono (by simp))⟩
set_option maxRecDepth 100000 in
theorem co_out11n (h : CoAt w B K S) {th : Nat} (hj : th < K.n) (h0 : S.TS th 0 = 11) (hx : ¬ K.bud < S.A.get ((K.cn (K.nd th) : Nat) : Int)) : Calls Tryz.prog 228 #[.pointer (some ⟨B.cb, 0, none⟩), .int .i64 th] w fun e w' => e = .returned (.int .i64 (12)) ∧ CoAt w' B K ({ S with A := S.A.load ((K.cn (K.nd th) : Nat) : Int), TS := spPut S.TS th 1 (S.A.get ((K.cn (K.nd th) : Nat) : Int)) }) ∧ Frm (CZ B K) w w' := by
  have HJ := Lib.hid hj
  have hn32 := h.n32
  have HV := Lib.hid (h.nd_lt hj)
  have HOF := Lib.hid (coOf h hj)
  have c8 := h.box.cell (i := 8) rfl
  have l1 : (th : Int) < K.n := by omega
  have H := Lib.hid h
  have H0 := Lib.hid h0
  obtain ⟨x, hxx⟩ : ∃ x, S.A.get ((K.cn (K.nd th) : Nat) : Int) = x := ⟨_, rfl⟩
  rw [hxx] at hx ⊢
  have HX := Lib.hid hxx
  have dx : decide (K.bud < x) = false := by simpa using hx
  clear hxx
  clear h h0 hj
  go_enter Tryz.func228, Tryz.ntmps228
  go_wp2_with fail
  refine HOF.out.mono ?_
  rintro e w1 ⟨rfl, hF⟩
  have hWX : Frm [] w1 (w1.alloc (.cells #[.pointer (some ⟨B.fb (K.nd th), 0, none⟩), .int .i64 (K.cn (K.nd th))] 203)) := (Frm.refl _ _).alloc _
  have hbx := HAt.new w1 #[.pointer (some ⟨B.fb (K.nd th), 0, none⟩), .int .i64 (K.cn (K.nd th))] 203
  have hC := H.out.same (hF.trans hWX)
  have k0 := hC.p0 HJ.out
  rw [H0.out] at k0
  have k1 := hC.p HJ.out (t := 1) (by omega)
  have b0 := hbx.cell (i := 0) rfl
  have b1 := hbx.cell (i := 1) rfl
  have d6 := hC.box.cell (i := 6) rfl
  have HFW := Lib.hid (hF.trans hWX)
  have HBX := Lib.hid hbx
  have HC := Lib.hid hC
  have hbw : w.heap.size ≤ w1.heap.size := hF.size
  clear hWX hbx hC hF
  go_wp2_with fail
  generalize w1.alloc (.cells #[.pointer (some ⟨B.fb (K.nd th), 0, none⟩), .int .i64 (K.cn (K.nd th))] 203) = W at *
  obtain ⟨bn, hbn⟩ : ∃ bn, bn = w1.heap.size := ⟨_, rfl⟩
  rw [← hbn] at HBX b0 b1
  rw [← hbn]
  clear hbn
  have hne : Nonempty (HW (fun wx => Frm [B.cs, B.ab, B.wb] W wx)) := ⟨⟨W, Frm.refl _ _⟩⟩
  have hz0 : ∀ q : HW (fun wx => Frm [B.cs, B.ab, B.wb] W wx), q.w.cell? ⟨B.cb, 0, none⟩ = some (.pointer (some ⟨B.ab, 0, none⟩)) := fun q => (HC.out.box.frm q.h (((HC.out.mut.sub (Z' := [B.cs, B.ab, B.wb]) (fun z hz => mem_CZ.2 (by simp at hz; omega))).not HC.out.box))).cell (i := 0) rfl
  have hz1 : ∀ q : HW (fun wx => Frm [B.cs, B.ab, B.wb] W wx), q.w.cell? ⟨bn, 1, none⟩ = some (.int .i64 (K.cn (K.nd th))) := fun q => (HBX.out.frm q.h (((HC.out.mut.sub (Z' := [B.cs, B.ab, B.wb]) (fun z hz => mem_CZ.2 (by simp at hz; omega))).not HBX.out))).cell (i := 1) rfl
  refine held_begin (S := fun wx => Frm [B.cs, B.ab, B.wb] W wx) (by kernel_rfl) ?_
  refine held_row_at (fuel := 4) (is := [0, 1, 2, 3, 4, 5, 6]) (.cons rfl (.cons rfl (.cons rfl (.cons rfl (.cons rfl (.cons rfl (.cons rfl .nil))))))) (by kernel_rfl) (fun _ _ _ _ _ h => h) rfl (by kernel_rfl) (Frm.refl _ _).drew1 ?_
  intro Kq hK
  repeat (go_big_quiet_step (fail))
  refine wpQuiet_nil (hK _ ?_)
  clear hK Kq
  refine held_call (fuel := 3) (i := 7) rfl (by kernel_rfl) ?_
  go_wp2_with fail
  refine (Load_any ((HC.out.same ((Frm.refl [] W).drew1)).ar) ((K.cn (K.nd th) : Nat) : Int)).mono ?_
  rw [HX.out]
  rintro e w2 ⟨rfl, hA, hF⟩
  have HF2 := Lib.hid (((Frm.refl [B.ab, B.wb] W).drew1).trans hF)
  have HD := Lib.hid (HC.out.arena HF2.out hA)
  have j1 := HD.out.p HJ.out (t := 1) (by omega)
  have jz := HD.out.row.frozen
  clear hA hF
  go_wp2_with fail
  refine onNormal_mk ⟨HF2.out.mono (by simp), ?_⟩
  refine held_row_at (fuel := 1) (is := [8, 9]) (.cons rfl (.cons rfl .nil)) (by kernel_rfl) (fun _ _ _ _ _ h => h) rfl (by kernel_rfl) (HF2.out.mono (by simp)) ?_
  intro Kq hK
  repeat (go_big_quiet_step (fail))
  refine wpQuiet_nil (hK _ ?_)
  clear hK Kq
  refine held_call (fuel := 0) (i := 10) rfl (by kernel_rfl) ?_
  go_wp2_with fail
  refine onNormal_mk ⟨(HF2.out.mono (S' := [B.cs, B.ab, B.wb]) (by simp)).set _ _ (.inl (by simp)), ?_⟩
  refine held_end (by kernel_rfl) ?_
  have HE := Lib.hid (HD.out.put th (t := 1) (by omega) x)
  have HFE := Lib.hid (((HF2.out.mono (S' := [B.cs, B.ab, B.wb]) (by simp)).set ⟨B.cs, th * 4 + 1, none⟩ (.int .i64 x) (.inl (by simp))).mono (S' := CZ B K) (fun z hz => mem_CZ.2 (by simp at hz; omega)))
  clear j1 jz hne hz0 hz1 HD HF2 b0 b1 k0 k1 d6
  generalize w2.setCell ⟨B.cs, th * 4 + 1, none⟩ (.int .i64 x) = W3 at *
  have e1 : W3.cell? ⟨B.cs, th * 4 + 1, none⟩ = some (.int .i64 x) := (HE.out.p HJ.out (t := 1) (by omega)).trans (by simp [spPut])
  have e0 := HE.out.p0 HJ.out
  have g5 := HE.out.box.cell (i := 5) rfl
  go_wp2_with fail
  go_quiet (fail)
  go_wp2
  go_ret
  have hdr : Frm [] W3 (W3.drewN nq) := (Frm.refl _ _).drew _
  exact ⟨rfl, HE.out.same hdr, ((HFW.out.mono (S' := CZ B K) (by simp)).trans HFE.out).trans (hdr.mono (by simp))⟩
set_option maxRecDepth 100000 in
theorem co_out12y (h : CoAt w B K S) {th : Nat} (hj : th < K.n) (h0 : S.TS th 0 = 12) (hR : passes (S.TS th 1) K.bud (fAlR (K.L (K.nd th)) (S.LS (K.nd th)) S.A ((K.sl th : Nat) : Int)) = true) : Calls Tryz.prog 228 #[.pointer (some ⟨B.cb, 0, none⟩), .int .i64 th] w fun e w' => e = .returned (.int .i64 (13)) ∧ CoAt w' B K ({ S with A := fAlA (K.L (K.nd th)) (S.LS (K.nd th)) S.A ((K.sl th : Nat) : Int) }) ∧ Frm (CZ B K) w w' := by
  have HJ := Lib.hid hj
  have hn32 := h.n32
  have HV := Lib.hid (h.nd_lt hj)
  have HOF := Lib.hid (coOf h hj)
  have c8 := h.box.cell (i := 8) rfl
  have l1 : (th : Int) < K.n := by omega
  have H := Lib.hid h
  have H0 := Lib.hid h0
  have HR := Lib.hid hR
  clear hR
  clear h h0 hj
  go_enter Tryz.func228, Tryz.ntmps228
  go_wp2_with fail
  refine HOF.out.mono ?_
  rintro e w1 ⟨rfl, hF⟩
  have hWX : Frm [] w1 (w1.alloc (.cells #[.pointer (some ⟨B.fb (K.nd th), 0, none⟩), .int .i64 (K.cn (K.nd th))] 203)) := (Frm.refl _ _).alloc _
  have hbx := HAt.new w1 #[.pointer (some ⟨B.fb (K.nd th), 0, none⟩), .int .i64 (K.cn (K.nd th))] 203
  have hC := H.out.same (hF.trans hWX)
  have k0 := hC.p0 HJ.out
  rw [H0.out] at k0
  have k1 := hC.p HJ.out (t := 1) (by omega)
  have b0 := hbx.cell (i := 0) rfl
  have b1 := hbx.cell (i := 1) rfl
  have d6 := hC.box.cell (i := 6) rfl
  have HFW := Lib.hid (hF.trans hWX)
  have HBX := Lib.hid hbx
  have HC := Lib.hid hC
  have hbw : w.heap.size ≤ w1.heap.size := hF.size
  clear hWX hbx hC hF
  go_wp2_with fail
  generalize w1.alloc (.cells #[.pointer (some ⟨B.fb (K.nd th), 0, none⟩), .int .i64 (K.cn (K.nd th))] 203) = W at *
  obtain ⟨bn, hbn⟩ : ∃ bn, bn = w1.heap.size := ⟨_, rfl⟩
  rw [← hbn] at HBX b0 b1
  rw [← hbn]
  clear hbn
  have hne : Nonempty (HW (fun wx => Frm [B.sb (K.nd th), B.ab, B.wb] W wx)) := ⟨⟨W, Frm.refl _ _⟩⟩
  have hz0 : ∀ q : HW (fun wx => Frm [B.sb (K.nd th), B.ab, B.wb] W wx), q.w.cell? ⟨B.cb, 5, none⟩ = some (.int .i64 K.bud) := fun q => (HC.out.box.frm q.h (((HC.out.mut.sub (Z' := [B.sb (K.nd th), B.ab, B.wb]) (fun z hz => mem_CZ.2 (by
      simp at hz
      rcases hz with e | e | e
      · exact .inr (.inr (.inr (.inr ⟨_, HV.out, e.symm⟩)))
      · omega
      · omega))).not HC.out.box))).cell (i := 5) rfl
  have hz1 : ∀ q : HW (fun wx => Frm [B.sb (K.nd th), B.ab, B.wb] W wx), q.w.cell? ⟨bn, 0, none⟩ = some (.pointer (some ⟨B.fb (K.nd th), 0, none⟩)) := fun q => (HBX.out.frm q.h (((HC.out.mut.sub (Z' := [B.sb (K.nd th), B.ab, B.wb]) (fun z hz => mem_CZ.2 (by
      simp at hz
      rcases hz with e | e | e
      · exact .inr (.inr (.inr (.inr ⟨_, HV.out, e.symm⟩)))
      · omega
      · omega))).not HBX.out))).cell (i := 0) rfl
  have hz2 : ∀ q : HW (fun wx => Frm [B.sb (K.nd th), B.ab, B.wb] W wx), q.w.cell? ⟨B.cs, th * 4 + 1, none⟩ = some (.int .i64 (S.TS th 1)) := fun q => (HC.out.row.frm q.h (by have := HC.out.row.differ HC.out.ar.box (by decide); have := HC.out.row.differ HC.out.ar.row (by decide); have := HC.out.dif.2.1 _ HV.out; simp; omega)).cell (spC_getT K.n S.TS HJ.out (by omega))
  refine held_begin (S := fun wx => Frm [B.sb (K.nd th), B.ab, B.wb] W wx) (by kernel_rfl) ?_
  refine held_row_at (fuel := 2) (is := [0, 1, 2, 3, 4, 5, 6, 7, 8, 9, 10, 11]) (.cons rfl (.cons rfl (.cons rfl (.cons rfl (.cons rfl (.cons rfl (.cons rfl (.cons rfl (.cons rfl (.cons rfl (.cons rfl (.cons rfl .nil)))))))))))) (by kernel_rfl) (fun _ _ _ _ _ h => h) rfl (by kernel_rfl) (Frm.refl _ _).drew1 ?_
  intro Kq hK
  repeat (go_big_quiet_step (fail))
  refine wpQuiet_nil (hK _ ?_)
  clear hK Kq
  refine held_call (fuel := 1) (i := 12) rfl (by kernel_rfl) ?_
  go_wp2_with fail
  refine (fAlone_any ((HC.out.same ((Frm.refl [] W).drew1)).loc _ HV.out) ((K.sl th : Nat) : Int)).mono ?_
  rintro e w2 ⟨rfl, hK, hF⟩
  have HF2 := Lib.hid (((Frm.refl [B.sb (K.nd th), B.ab, B.wb] W).drew1).trans hF)
  have HD := Lib.hid (HC.out.local HV.out HF2.out hK)
  clear hK hF
  go_wp2_with fail
  refine onNormal_mk ⟨HF2.out, ?_⟩
  refine held_call (fuel := 0) (i := 13) rfl (by kernel_rfl) ?_
  go_wp2_with fail
  refine (budPasses _ _ _ _).mono ?_
  rw [HR.out]
  rintro e w' ⟨rfl, rfl⟩
  go_wp2_with fail
  refine onNormal_mk ⟨HF2.out, ?_⟩
  refine held_end (by kernel_rfl) ?_
  have HFD := Lib.hid (HF2.out.mono (S' := CZ B K) (fun z hz => mem_CZ.2 (by
      simp at hz
      rcases hz with e | e | e
      · exact .inr (.inr (.inr (.inr ⟨_, HV.out, e.symm⟩)))
      · omega
      · omega)))
  go_wp2
  go_ret
  exact ⟨rfl, (show CoAt w2 B K { S with A := fAlA (K.L (K.nd th)) (S.LS (K.nd th)) S.A ((K.sl th : Nat) : Int) } from upSelf HD.out), (HFW.out.mono (S' := CZ B K) (by simp)).trans HFD.out⟩
set_option maxRecDepth 100000 in
theorem co_out12n (h : CoAt w B K S) {th : Nat} (hj : th < K.n) (h0 : S.TS th 0 = 12) (hR : passes (S.TS th 1) K.bud (fAlR (K.L (K.nd th)) (S.LS (K.nd th)) S.A ((K.sl th : Nat) : Int)) = false) : Calls Tryz.prog 228 #[.pointer (some ⟨B.cb, 0, none⟩), .int .i64 th] w fun e w' => e = .returned (.int .i64 (14)) ∧ CoAt w' B K ({ S with A := fAlA (K.L (K.nd th)) (S.LS (K.nd th)) S.A ((K.sl th : Nat) : Int) }) ∧ Frm (CZ B K) w w' := by
  have HJ := Lib.hid hj
  have hn32 := h.n32
  have HV := Lib.hid (h.nd_lt hj)
  have HOF := Lib.hid (coOf h hj)
  have c8 := h.box.cell (i := 8) rfl
  have l1 : (th : Int) < K.n := by omega
  have H := Lib.hid h
  have H0 := Lib.hid h0
  have HR := Lib.hid hR
  clear hR
  clear h h0 hj
  go_enter Tryz.func228, Tryz.ntmps228
  go_wp2_with fail
  refine HOF.out.mono ?_
  rintro e w1 ⟨rfl, hF⟩
  have hWX : Frm [] w1 (w1.alloc (.cells #[.pointer (some ⟨B.fb (K.nd th), 0, none⟩), .int .i64 (K.cn (K.nd th))] 203)) := (Frm.refl _ _).alloc _
  have hbx := HAt.new w1 #[.pointer (some ⟨B.fb (K.nd th), 0, none⟩), .int .i64 (K.cn (K.nd th))] 203
  have hC := H.out.same (hF.trans hWX)
  have k0 := hC.p0 HJ.out
  rw [H0.out] at k0
  have k1 := hC.p HJ.out (t := 1) (by omega)
  have b0 := hbx.cell (i := 0) rfl
  have b1 := hbx.cell (i := 1) rfl
  have d6 := hC.box.cell (i := 6) rfl
  have HFW := Lib.hid (hF.trans hWX)
  have HBX := Lib.hid hbx
  have HC := Lib.hid hC
  have hbw : w.heap.size ≤ w1.heap.size := hF.size
  clear hWX hbx hC hF
  go_wp2_with fail
  generalize w1.alloc (.cells #[.pointer (some ⟨B.fb (K.nd th), 0, none⟩), .int .i64 (K.cn (K.nd th))] 203) = W at *
  obtain ⟨bn, hbn⟩ : ∃ bn, bn = w1.heap.size := ⟨_, rfl⟩
  rw [← hbn] at HBX b0 b1
  rw [← hbn]
  clear hbn
  have hne : Nonempty (HW (fun wx => Frm [B.sb (K.nd th), B.ab, B.wb] W wx)) := ⟨⟨W, Frm.refl _ _⟩⟩
  have hz0 : ∀ q : HW (fun wx => Frm [B.sb (K.nd th), B.ab, B.wb] W wx), q.w.cell? ⟨B.cb, 5, none⟩ = some (.int .i64 K.bud) := fun q => (HC.out.box.frm q.h (((HC.out.mut.sub (Z' := [B.sb (K.nd th), B.ab, B.wb]) (fun z hz => mem_CZ.2 (by
      simp at hz
      rcases hz with e | e | e
      · exact .inr (.inr (.inr (.inr ⟨_, HV.out, e.symm⟩)))
      · omega
      · omega))).not HC.out.box))).cell (i := 5) rfl
  have hz1 : ∀ q : HW (fun wx => Frm [B.sb (K.nd th), B.ab, B.wb] W wx), q.w.cell? ⟨bn, 0, none⟩ = some (.pointer (some ⟨B.fb (K.nd th), 0, none⟩)) := fun q => (HBX.out.frm q.h (((HC.out.mut.sub (Z' := [B.sb (K.nd th), B.ab, B.wb]) (fun z hz => mem_CZ.2 (by
      simp at hz
      rcases hz with e | e | e
      · exact .inr (.inr (.inr (.inr ⟨_, HV.out, e.symm⟩)))
      · omega
      · omega))).not HBX.out))).cell (i := 0) rfl
  have hz2 : ∀ q : HW (fun wx => Frm [B.sb (K.nd th), B.ab, B.wb] W wx), q.w.cell? ⟨B.cs, th * 4 + 1, none⟩ = some (.int .i64 (S.TS th 1)) := fun q => (HC.out.row.frm q.h (by have := HC.out.row.differ HC.out.ar.box (by decide); have := HC.out.row.differ HC.out.ar.row (by decide); have := HC.out.dif.2.1 _ HV.out; simp; omega)).cell (spC_getT K.n S.TS HJ.out (by omega))
  refine held_begin (S := fun wx => Frm [B.sb (K.nd th), B.ab, B.wb] W wx) (by kernel_rfl) ?_
  refine held_row_at (fuel := 2) (is := [0, 1, 2, 3, 4, 5, 6, 7, 8, 9, 10, 11]) (.cons rfl (.cons rfl (.cons rfl (.cons rfl (.cons rfl (.cons rfl (.cons rfl (.cons rfl (.cons rfl (.cons rfl (.cons rfl (.cons rfl .nil)))))))))))) (by kernel_rfl) (fun _ _ _ _ _ h => h) rfl (by kernel_rfl) (Frm.refl _ _).drew1 ?_
  intro Kq hK
  repeat (go_big_quiet_step (fail))
  refine wpQuiet_nil (hK _ ?_)
  clear hK Kq
  refine held_call (fuel := 1) (i := 12) rfl (by kernel_rfl) ?_
  go_wp2_with fail
  refine (fAlone_any ((HC.out.same ((Frm.refl [] W).drew1)).loc _ HV.out) ((K.sl th : Nat) : Int)).mono ?_
  rintro e w2 ⟨rfl, hK, hF⟩
  have HF2 := Lib.hid (((Frm.refl [B.sb (K.nd th), B.ab, B.wb] W).drew1).trans hF)
  have HD := Lib.hid (HC.out.local HV.out HF2.out hK)
  clear hK hF
  go_wp2_with fail
  refine onNormal_mk ⟨HF2.out, ?_⟩
  refine held_call (fuel := 0) (i := 13) rfl (by kernel_rfl) ?_
  go_wp2_with fail
  refine (budPasses _ _ _ _).mono ?_
  rw [HR.out]
  rintro e w' ⟨rfl, rfl⟩
  go_wp2_with fail
  refine onNormal_mk ⟨HF2.out, ?_⟩
  refine held_end (by kernel_rfl) ?_
  have HFD := Lib.hid (HF2.out.mono (S' := CZ B K) (fun z hz => mem_CZ.2 (by
      simp at hz
      rcases hz with e | e | e
      · exact .inr (.inr (.inr (.inr ⟨_, HV.out, e.symm⟩)))
      · omega
      · omega)))
  go_wp2
  go_ret
  exact ⟨rfl, (show CoAt w2 B K { S with A := fAlA (K.L (K.nd th)) (S.LS (K.nd th)) S.A ((K.sl th : Nat) : Int) } from upSelf HD.out), (HFW.out.mono (S' := CZ B K) (by simp)).trans HFD.out⟩
set_option maxRecDepth 100000 in
theorem co_out13 (h : CoAt w B K S) {th : Nat} (hj : th < K.n) (h0 : S.TS th 0 = 13) : Calls Tryz.prog 228 #[.pointer (some ⟨B.cb, 0, none⟩), .int .i64 th] w fun e w' => e = .returned (.int .i64 (16)) ∧ CoAt w' B K ({ S with A := S.A.store ((K.cn (K.nd th) : Nat) : Int) (wrap64 (S.TS th 1 + 1)), LS := upL S.LS (K.nd th) (fLeave (K.L (K.nd th)) (S.LS (K.nd th)) ((K.sl th : Nat) : Int)) }) ∧ Frm (CZ B K) w w' := by
  have HJ := Lib.hid hj
  have hn32 := h.n32
  have HV := Lib.hid (h.nd_lt hj)
  have HOF := Lib.hid (coOf h hj)
  have c8 := h.box.cell (i := 8) rfl
  have l1 : (th : Int) < K.n := by omega
  have H := Lib.hid h
  have H0 := Lib.hid h0
  clear h h0 hj
  go_enter Tryz.func228, Tryz.ntmps228
  go_wp2_with fail
  refine HOF.out.mono ?_
  rintro e w1 ⟨rfl, hF⟩
  have hWX : Frm [] w1 (w1.alloc (.cells #[.pointer (some ⟨B.fb (K.nd th), 0, none⟩), .int .i64 (K.cn (K.nd th))] 203)) := (Frm.refl _ _).alloc _
  have hbx := HAt.new w1 #[.pointer (some ⟨B.fb (K.nd th), 0, none⟩), .int .i64 (K.cn (K.nd th))] 203
  have hC := H.out.same (hF.trans hWX)
  have k0 := hC.p0 HJ.out
  rw [H0.out] at k0
  have k1 := hC.p HJ.out (t := 1) (by omega)
  have b0 := hbx.cell (i := 0) rfl
  have b1 := hbx.cell (i := 1) rfl
  have d6 := hC.box.cell (i := 6) rfl
  have HFW := Lib.hid (hF.trans hWX)
  have HBX := Lib.hid hbx
  have HC := Lib.hid hC
  have hbw : w.heap.size ≤ w1.heap.size := hF.size
  clear hWX hbx hC hF
  go_wp2_with fail
  generalize w1.alloc (.cells #[.pointer (some ⟨B.fb (K.nd th), 0, none⟩), .int .i64 (K.cn (K.nd th))] 203) = W at *
  obtain ⟨bn, hbn⟩ : ∃ bn, bn = w1.heap.size := ⟨_, rfl⟩
  rw [← hbn] at HBX b0 b1
  rw [← hbn]
  clear hbn
  have hne : Nonempty (HW (fun wx => Frm [B.ab, B.wb] W wx)) := ⟨⟨W, Frm.refl _ _⟩⟩
  have hz0 : ∀ q : HW (fun wx => Frm [B.ab, B.wb] W wx), q.w.cell? ⟨B.cb, 0, none⟩ = some (.pointer (some ⟨B.ab, 0, none⟩)) := fun q => (HC.out.box.frm q.h (((HC.out.mut.sub (Z' := [B.ab, B.wb]) (fun z hz => mem_CZ.2 (by simp at hz; omega))).not HC.out.box))).cell (i := 0) rfl
  have hz1 : ∀ q : HW (fun wx => Frm [B.ab, B.wb] W wx), q.w.cell? ⟨bn, 1, none⟩ = some (.int .i64 (K.cn (K.nd th))) := fun q => (HBX.out.frm q.h (((HC.out.mut.sub (Z' := [B.ab, B.wb]) (fun z hz => mem_CZ.2 (by simp at hz; omega))).not HBX.out))).cell (i := 1) rfl
  have hz2 : ∀ q : HW (fun wx => Frm [B.ab, B.wb] W wx), q.w.cell? ⟨B.cs, th * 4 + 1, none⟩ = some (.int .i64 (S.TS th 1)) := fun q => (HC.out.row.frm q.h (by have := HC.out.row.differ HC.out.ar.box (by decide); have := HC.out.row.differ HC.out.ar.row (by decide); simp; omega)).cell (spC_getT K.n S.TS HJ.out (by omega))
  refine held_begin (S := fun wx => Frm [B.ab, B.wb] W wx) (by kernel_rfl) ?_
  refine held_row_at (fuel := 1) (is := [0, 1, 2, 3, 4, 5, 6, 7, 8, 9, 10]) (.cons rfl (.cons rfl (.cons rfl (.cons rfl (.cons rfl (.cons rfl (.cons rfl (.cons rfl (.cons rfl (.cons rfl (.cons rfl .nil))))))))))) (by kernel_rfl) (fun _ _ _ _ _ h => h) rfl (by kernel_rfl) (Frm.refl _ _).drew1 ?_
  intro Kq hK
  repeat (go_big_quiet_step (fail))
  refine wpQuiet_nil (hK _ ?_)
  clear hK Kq
  refine held_call (fuel := 0) (i := 11) rfl (by kernel_rfl) ?_
  go_wp2_with fail
  refine (Store_any ((HC.out.same ((Frm.refl [] W).drew1)).ar) ((K.cn (K.nd th) : Nat) : Int) (wrap64 (S.TS th 1 + 1))).mono ?_
  rintro e w2 ⟨rfl, hA, hF⟩
  have HF2 := Lib.hid (((Frm.refl [B.ab, B.wb] W).drew1).trans hF)
  have HD := Lib.hid (HC.out.arena HF2.out hA)
  clear hA hF
  go_wp2_with fail
  refine onNormal_mk ⟨HF2.out, ?_⟩
  refine held_end (by kernel_rfl) ?_
  have HFD := Lib.hid (HF2.out.mono (S' := CZ B K) (fun z hz => mem_CZ.2 (by simp at hz; omega)))
  have j0 := HD.out.p0 HJ.out
  have j1 := HD.out.p HJ.out (t := 1) (by omega)
  have jz := HD.out.row.frozen
  have g3 := HD.out.box.cell (i := 6) rfl
  have hnb : B.ab ≠ bn ∧ B.wb ≠ bn := ⟨HC.out.ar.box.differ HBX.out (by decide), HC.out.ar.row.differ HBX.out (by decide)⟩
  have hb2 := HBX.out.frm HF2.out (by simp; omega)
  have m0 := hb2.cell (i := 0) rfl
  clear hne hz0 hz1 hz2 HF2 b0 b1 k0 k1 d6 hb2 hnb
  go_wp2_with fail
  refine (fLeave_any ((HD.out.loc _ HV.out)) ((K.sl th : Nat) : Int)).mono ?_
  rintro e w4 ⟨rfl, hK, hF⟩
  have HE := Lib.hid (HD.out.local HV.out (hF.mono (by simp)) hK)
  have HFHE := Lib.hid (hF.mono (S' := CZ B K) (fun z hz => mem_CZ.2 (by
    simp at hz
    have e := hz
    exact .inr (.inr (.inr (.inr ⟨_, HV.out, e.symm⟩)))
    
    )))
  clear hK hF
  go_wp2
  go_ret
  exact ⟨rfl, HE.out, ((HFW.out.mono (S' := CZ B K) (by simp)).trans HFD.out).trans HFHE.out⟩
set_option maxRecDepth 100000 in
theorem co_out14 (h : CoAt w B K S) {th : Nat} (hj : th < K.n) (h0 : S.TS th 0 = 14) : Calls Tryz.prog 228 #[.pointer (some ⟨B.cb, 0, none⟩), .int .i64 th] w fun e w' => e = .returned (.int .i64 (15)) ∧ CoAt w' B K ({ S with A := S.A.store ((K.cn (K.nd th) : Nat) : Int) 0, GS := fLeave K.G S.GS ((K.nd th : Nat) : Int) }) ∧ Frm (CZ B K) w w' := by
  have HJ := Lib.hid hj
  have hn32 := h.n32
  have HV := Lib.hid (h.nd_lt hj)
  have HOF := Lib.hid (coOf h hj)
  have c8 := h.box.cell (i := 8) rfl
  have l1 : (th : Int) < K.n := by omega
  have H := Lib.hid h
  have H0 := Lib.hid h0
  clear h h0 hj
  go_enter Tryz.func228, Tryz.ntmps228
  go_wp2_with fail
  refine HOF.out.mono ?_
  rintro e w1 ⟨rfl, hF⟩
  have hWX : Frm [] w1 (w1.alloc (.cells #[.pointer (some ⟨B.fb (K.nd th), 0, none⟩), .int .i64 (K.cn (K.nd th))] 203)) := (Frm.refl _ _).alloc _
  have hbx := HAt.new w1 #[.pointer (some ⟨B.fb (K.nd th), 0, none⟩), .int .i64 (K.cn (K.nd th))] 203
  have hC := H.out.same (hF.trans hWX)
  have k0 := hC.p0 HJ.out
  rw [H0.out] at k0
  have k1 := hC.p HJ.out (t := 1) (by omega)
  have b0 := hbx.cell (i := 0) rfl
  have b1 := hbx.cell (i := 1) rfl
  have d6 := hC.box.cell (i := 6) rfl
  have HFW := Lib.hid (hF.trans hWX)
  have HBX := Lib.hid hbx
  have HC := Lib.hid hC
  have hbw : w.heap.size ≤ w1.heap.size := hF.size
  clear hWX hbx hC hF
  go_wp2_with fail
  generalize w1.alloc (.cells #[.pointer (some ⟨B.fb (K.nd th), 0, none⟩), .int .i64 (K.cn (K.nd th))] 203) = W at *
  obtain ⟨bn, hbn⟩ : ∃ bn, bn = w1.heap.size := ⟨_, rfl⟩
  rw [← hbn] at HBX b0 b1
  rw [← hbn]
  clear hbn
  have hne : Nonempty (HW (fun wx => Frm [B.ab, B.wb] W wx)) := ⟨⟨W, Frm.refl _ _⟩⟩
  have hz0 : ∀ q : HW (fun wx => Frm [B.ab, B.wb] W wx), q.w.cell? ⟨B.cb, 0, none⟩ = some (.pointer (some ⟨B.ab, 0, none⟩)) := fun q => (HC.out.box.frm q.h (((HC.out.mut.sub (Z' := [B.ab, B.wb]) (fun z hz => mem_CZ.2 (by simp at hz; omega))).not HC.out.box))).cell (i := 0) rfl
  have hz1 : ∀ q : HW (fun wx => Frm [B.ab, B.wb] W wx), q.w.cell? ⟨bn, 1, none⟩ = some (.int .i64 (K.cn (K.nd th))) := fun q => (HBX.out.frm q.h (((HC.out.mut.sub (Z' := [B.ab, B.wb]) (fun z hz => mem_CZ.2 (by simp at hz; omega))).not HBX.out))).cell (i := 1) rfl
  refine held_begin (S := fun wx => Frm [B.ab, B.wb] W wx) (by kernel_rfl) ?_
  refine held_row_at (fuel := 1) (is := [0, 1, 2, 3, 4, 5]) (.cons rfl (.cons rfl (.cons rfl (.cons rfl (.cons rfl (.cons rfl .nil)))))) (by kernel_rfl) (fun _ _ _ _ _ h => h) rfl (by kernel_rfl) (Frm.refl _ _).drew1 ?_
  intro Kq hK
  repeat (go_big_quiet_step (fail))
  refine wpQuiet_nil (hK _ ?_)
  clear hK Kq
  refine held_call (fuel := 0) (i := 6) rfl (by kernel_rfl) ?_
  go_wp2_with fail
  refine (Store_any ((HC.out.same ((Frm.refl [] W).drew1)).ar) ((K.cn (K.nd th) : Nat) : Int) (0)).mono ?_
  rintro e w2 ⟨rfl, hA, hF⟩
  have HF2 := Lib.hid (((Frm.refl [B.ab, B.wb] W).drew1).trans hF)
  have HD := Lib.hid (HC.out.arena HF2.out hA)
  clear hA hF
  go_wp2_with fail
  refine onNormal_mk ⟨HF2.out, ?_⟩
  refine held_end (by kernel_rfl) ?_
  have HFD := Lib.hid (HF2.out.mono (S' := CZ B K) (fun z hz => mem_CZ.2 (by simp at hz; omega)))
  have j0 := HD.out.p0 HJ.out
  have j1 := HD.out.p HJ.out (t := 1) (by omega)
  have jz := HD.out.row.frozen
  have g3 := HD.out.box.cell (i := 6) rfl
  have hnb : B.ab ≠ bn ∧ B.wb ≠ bn := ⟨HC.out.ar.box.differ HBX.out (by decide), HC.out.ar.row.differ HBX.out (by decide)⟩
  have hb2 := HBX.out.frm HF2.out (by simp; omega)
  have m0 := hb2.cell (i := 0) rfl
  clear hne hz0 hz1 HF2 b0 b1 k0 k1 d6 hb2 hnb
  go_wp2_with fail
  refine (fLeave_any (HD.out.glo) ((K.nd th : Nat) : Int)).mono ?_
  rintro e w4 ⟨rfl, hK, hF⟩
  have HE := Lib.hid (HD.out.glob (hF.mono (by simp)) hK)
  have HFHE := Lib.hid (hF.mono (S' := CZ B K) (fun z hz => mem_CZ.2 (by simp at hz; omega)))
  clear hK hF
  go_wp2
  go_ret
  exact ⟨rfl, HE.out, ((HFW.out.mono (S' := CZ B K) (by simp)).trans HFD.out).trans HFHE.out⟩
set_option maxRecDepth 100000 in
theorem co_out15y (h : CoAt w B K S) {th : Nat} (hj : th < K.n) (h0 : S.TS th 0 = 15) (hg : K.G.k = 4 → CPc K.G.n S.GS) (hR : fStepR K.G S.GS S.A ((K.nd th : Nat) : Int) = true) : Calls Tryz.prog 228 #[.pointer (some ⟨B.cb, 0, none⟩), .int .i64 th] w fun e w' => e = .returned (.int .i64 (16)) ∧ CoAt w' B K ({ S with A := fStepA K.G S.GS S.A ((K.nd th : Nat) : Int), GS := fStepS K.G S.GS S.A ((K.nd th : Nat) : Int), LS := upL S.LS (K.nd th) (fLeave (K.L (K.nd th)) (S.LS (K.nd th)) ((K.sl th : Nat) : Int)) }) ∧ Frm (CZ B K) w w' := by
  have HJ := Lib.hid hj
  have hn32 := h.n32
  have HV := Lib.hid (h.nd_lt hj)
  have HOF := Lib.hid (coOf h hj)
  have c8 := h.box.cell (i := 8) rfl
  have l1 : (th : Int) < K.n := by omega
  have H := Lib.hid h
  have H0 := Lib.hid h0
  have HR := Lib.hid hR
  clear hR
  clear h h0 hj
  go_enter Tryz.func228, Tryz.ntmps228
  go_wp2_with fail
  refine HOF.out.mono ?_
  rintro e w1 ⟨rfl, hF⟩
  have hWX : Frm [] w1 (w1.alloc (.cells #[.pointer (some ⟨B.fb (K.nd th), 0, none⟩), .int .i64 (K.cn (K.nd th))] 203)) := (Frm.refl _ _).alloc _
  have hbx := HAt.new w1 #[.pointer (some ⟨B.fb (K.nd th), 0, none⟩), .int .i64 (K.cn (K.nd th))] 203
  have hC := H.out.same (hF.trans hWX)
  have k0 := hC.p0 HJ.out
  rw [H0.out] at k0
  have k1 := hC.p HJ.out (t := 1) (by omega)
  have b0 := hbx.cell (i := 0) rfl
  have b1 := hbx.cell (i := 1) rfl
  have d6 := hC.box.cell (i := 6) rfl
  have HFW := Lib.hid (hF.trans hWX)
  have HBX := Lib.hid hbx
  have HC := Lib.hid hC
  have hbw : w.heap.size ≤ w1.heap.size := hF.size
  clear hWX hbx hC hF
  go_wp2_with fail
  generalize w1.alloc (.cells #[.pointer (some ⟨B.fb (K.nd th), 0, none⟩), .int .i64 (K.cn (K.nd th))] 203) = W at *
  refine (fStep_any (HC.out.glo) hg ((K.nd th : Nat) : Int)).mono ?_
  rw [HR.out]; rintro e w2 ⟨rfl, hK, hF⟩
  have HD := Lib.hid (HC.out.glob (hF) hK)
  have HFHD := Lib.hid (hF.mono (S' := CZ B K) (fun z hz => mem_CZ.2 (by simp at hz; omega)))
  clear hK hF
  have m0 := (HBX.out.frm HFHD.out ((HC.out.mut).not HBX.out)).cell (i := 0) rfl
  go_wp2_with fail
  refine (fLeave_any ((HD.out.loc _ HV.out)) ((K.sl th : Nat) : Int)).mono ?_
  rintro e w4 ⟨rfl, hK, hF⟩
  have HE := Lib.hid (HD.out.local HV.out (hF.mono (by simp)) hK)
  have HFHE := Lib.hid (hF.mono (S' := CZ B K) (fun z hz => mem_CZ.2 (by
    simp at hz
    have e := hz
    exact .inr (.inr (.inr (.inr ⟨_, HV.out, e.symm⟩)))
    
    )))
  clear hK hF
  go_wp2
  go_ret
  exact ⟨rfl, HE.out, ((HFW.out.mono (S' := CZ B K) (by simp)).trans HFHD.out).trans HFHE.out⟩
set_option maxRecDepth 100000 in
theorem co_out15n (h : CoAt w B K S) {th : Nat} (hj : th < K.n) (h0 : S.TS th 0 = 15) (hg : K.G.k = 4 → CPc K.G.n S.GS) (hR : fStepR K.G S.GS S.A ((K.nd th : Nat) : Int) = false) : Calls Tryz.prog 228 #[.pointer (some ⟨B.cb, 0, none⟩), .int .i64 th] w fun e w' => e = .returned (.int .i64 (15)) ∧ CoAt w' B K ({ S with A := fStepA K.G S.GS S.A ((K.nd th : Nat) : Int), GS := fStepS K.G S.GS S.A ((K.nd th : Nat) : Int) }) ∧ Frm (CZ B K) w w' := by
  have HJ := Lib.hid hj
  have hn32 := h.n32
  have HV := Lib.hid (h.nd_lt hj)
  have HOF := Lib.hid (coOf h hj)
  have c8 := h.box.cell (i := 8) rfl
  have l1 : (th : Int) < K.n := by omega
  have H := Lib.hid h
  have H0 := Lib.hid h0
  have HR := Lib.hid hR
  clear hR
  clear h h0 hj
  go_enter Tryz.func228, Tryz.ntmps228
  go_wp2_with fail
  refine HOF.out.mono ?_
  rintro e w1 ⟨rfl, hF⟩
  have hWX : Frm [] w1 (w1.alloc (.cells #[.pointer (some ⟨B.fb (K.nd th), 0, none⟩), .int .i64 (K.cn (K.nd th))] 203)) := (Frm.refl _ _).alloc _
  have hbx := HAt.new w1 #[.pointer (some ⟨B.fb (K.nd th), 0, none⟩), .int .i64 (K.cn (K.nd th))] 203
  have hC := H.out.same (hF.trans hWX)
  have k0 := hC.p0 HJ.out
  rw [H0.out] at k0
  have k1 := hC.p HJ.out (t := 1) (by omega)
  have b0 := hbx.cell (i := 0) rfl
  have b1 := hbx.cell (i := 1) rfl
  have d6 := hC.box.cell (i := 6) rfl
  have HFW := Lib.hid (hF.trans hWX)
  have HBX := Lib.hid hbx
  have HC := Lib.hid hC
  have hbw : w.heap.size ≤ w1.heap.size := hF.size
  clear hWX hbx hC hF
  go_wp2_with fail
  generalize w1.alloc (.cells #[.pointer (some ⟨B.fb (K.nd th), 0, none⟩), .int .i64 (K.cn (K.nd th))] 203) = W at *
  refine (fStep_any (HC.out.glo) hg ((K.nd th : Nat) : Int)).mono ?_
  rw [HR.out]; rintro e w2 ⟨rfl, hK, hF⟩
  have HD := Lib.hid (HC.out.glob (hF) hK)
  have HFHD := Lib.hid (hF.mono (S' := CZ B K) (fun z hz => mem_CZ.2 (by simp at hz; omega)))
  clear hK hF
  have kp := HD.out.p0 HJ.out
  have kq := H0.out
  rw [show S.TS th 0 = _ from kq] at kp
  clear kq
  go_wp2
  go_ret
  exact ⟨rfl, HD.out, (HFW.out.mono (S' := CZ B K) (by simp)).trans HFHD.out⟩
set_option maxRecDepth 100000 in
theorem co_out16y (h : CoAt w B K S) {th : Nat} (hj : th < K.n) (h0 : S.TS th 0 = 16) (hp : ∀ v, v < K.E → (K.L v).k = 4 → CPc (K.L v).n (S.LS v)) (hR : fStepR (K.L (K.nd th)) (S.LS (K.nd th)) S.A ((K.sl th : Nat) : Int) = true) : Calls Tryz.prog 228 #[.pointer (some ⟨B.cb, 0, none⟩), .int .i64 th] w fun e w' => e = .returned (.int .i64 (0)) ∧ CoAt w' B K ({ S with A := fStepA (K.L (K.nd th)) (S.LS (K.nd th)) S.A ((K.sl th : Nat) : Int), LS := upL S.LS (K.nd th) (fStepS (K.L (K.nd th)) (S.LS (K.nd th)) S.A ((K.sl th : Nat) : Int)) }) ∧ Frm (CZ B K) w w' := by
  have HJ := Lib.hid hj
  have hn32 := h.n32
  have HV := Lib.hid (h.nd_lt hj)
  have HOF := Lib.hid (coOf h hj)
  have c8 := h.box.cell (i := 8) rfl
  have l1 : (th : Int) < K.n := by omega
  have H := Lib.hid h
  have H0 := Lib.hid h0
  have HR := Lib.hid hR
  clear hR
  clear h h0 hj
  go_enter Tryz.func228, Tryz.ntmps228
  go_wp2_with fail
  refine HOF.out.mono ?_
  rintro e w1 ⟨rfl, hF⟩
  have hWX : Frm [] w1 (w1.alloc (.cells #[.pointer (some ⟨B.fb (K.nd th), 0, none⟩), .int .i64 (K.cn (K.nd th))] 203)) := (Frm.refl _ _).alloc _
  have hbx := HAt.new w1 #[.pointer (some ⟨B.fb (K.nd th), 0, none⟩), .int .i64 (K.cn (K.nd th))] 203
  have hC := H.out.same (hF.trans hWX)
  have k0 := hC.p0 HJ.out
  rw [H0.out] at k0
  have k1 := hC.p HJ.out (t := 1) (by omega)
  have b0 := hbx.cell (i := 0) rfl
  have b1 := hbx.cell (i := 1) rfl
  have d6 := hC.box.cell (i := 6) rfl
  have HFW := Lib.hid (hF.trans hWX)
  have HBX := Lib.hid hbx
  have HC := Lib.hid hC
  have hbw : w.heap.size ≤ w1.heap.size := hF.size
  clear hWX hbx hC hF
  go_wp2_with fail
  generalize w1.alloc (.cells #[.pointer (some ⟨B.fb (K.nd th), 0, none⟩), .int .i64 (K.cn (K.nd th))] 203) = W at *
  refine (fStep_any ((HC.out.loc _ HV.out)) (hp _ HV.out) ((K.sl th : Nat) : Int)).mono ?_
  rw [HR.out]; rintro e w2 ⟨rfl, hK, hF⟩
  have HD := Lib.hid (HC.out.local HV.out (hF) hK)
  have HFHD := Lib.hid (hF.mono (S' := CZ B K) (fun z hz => mem_CZ.2 (by
    simp at hz
    rcases hz with e | e | e
    · exact .inr (.inr (.inr (.inr ⟨_, HV.out, e.symm⟩)))
    · omega
    · omega)))
  clear hK hF
  go_wp2
  go_ret
  exact ⟨rfl, HD.out, (HFW.out.mono (S' := CZ B K) (by simp)).trans HFHD.out⟩
set_option maxRecDepth 100000 in
theorem co_out16n (h : CoAt w B K S) {th : Nat} (hj : th < K.n) (h0 : S.TS th 0 = 16) (hp : ∀ v, v < K.E → (K.L v).k = 4 → CPc (K.L v).n (S.LS v)) (hR : fStepR (K.L (K.nd th)) (S.LS (K.nd th)) S.A ((K.sl th : Nat) : Int) = false) : Calls Tryz.prog 228 #[.pointer (some ⟨B.cb, 0, none⟩), .int .i64 th] w fun e w' => e = .returned (.int .i64 (16)) ∧ CoAt w' B K ({ S with A := fStepA (K.L (K.nd th)) (S.LS (K.nd th)) S.A ((K.sl th : Nat) : Int), LS := upL S.LS (K.nd th) (fStepS (K.L (K.nd th)) (S.LS (K.nd th)) S.A ((K.sl th : Nat) : Int)) }) ∧ Frm (CZ B K) w w' := by
  have HJ := Lib.hid hj
  have hn32 := h.n32
  have HV := Lib.hid (h.nd_lt hj)
  have HOF := Lib.hid (coOf h hj)
  have c8 := h.box.cell (i := 8) rfl
  have l1 : (th : Int) < K.n := by omega
  have H := Lib.hid h
  have H0 := Lib.hid h0
  have HR := Lib.hid hR
  clear hR
  clear h h0 hj
  go_enter Tryz.func228, Tryz.ntmps228
  go_wp2_with fail
  refine HOF.out.mono ?_
  rintro e w1 ⟨rfl, hF⟩
  have hWX : Frm [] w1 (w1.alloc (.cells #[.pointer (some ⟨B.fb (K.nd th), 0, none⟩), .int .i64 (K.cn (K.nd th))] 203)) := (Frm.refl _ _).alloc _
  have hbx := HAt.new w1 #[.pointer (some ⟨B.fb (K.nd th), 0, none⟩), .int .i64 (K.cn (K.nd th))] 203
  have hC := H.out.same (hF.trans hWX)
  have k0 := hC.p0 HJ.out
  rw [H0.out] at k0
  have k1 := hC.p HJ.out (t := 1) (by omega)
  have b0 := hbx.cell (i := 0) rfl
  have b1 := hbx.cell (i := 1) rfl
  have d6 := hC.box.cell (i := 6) rfl
  have HFW := Lib.hid (hF.trans hWX)
  have HBX := Lib.hid hbx
  have HC := Lib.hid hC
  have hbw : w.heap.size ≤ w1.heap.size := hF.size
  clear hWX hbx hC hF
  go_wp2_with fail
  generalize w1.alloc (.cells #[.pointer (some ⟨B.fb (K.nd th), 0, none⟩), .int .i64 (K.cn (K.nd th))] 203) = W at *
  refine (fStep_any ((HC.out.loc _ HV.out)) (hp _ HV.out) ((K.sl th : Nat) : Int)).mono ?_
  rw [HR.out]; rintro e w2 ⟨rfl, hK, hF⟩
  have HD := Lib.hid (HC.out.local HV.out (hF) hK)
  have HFHD := Lib.hid (hF.mono (S' := CZ B K) (fun z hz => mem_CZ.2 (by
    simp at hz
    rcases hz with e | e | e
    · exact .inr (.inr (.inr (.inr ⟨_, HV.out, e.symm⟩)))
    · omega
    · omega)))
  clear hK hF
  have kp := HD.out.p0 HJ.out
  have kq := H0.out
  rw [show S.TS th 0 = _ from kq] at kp
  clear kq
  go_wp2
  go_ret
  exact ⟨rfl, HD.out, (HFW.out.mono (S' := CZ B K) (by simp)).trans HFHD.out⟩
end
end Go.Proofs.YteijjhahgabalaaGreat

/- A cohort lock: the steps of a thread that comes in. (Printed by gen_cohort.py.) -/
namespace Go.Proofs.YteijjhahgabalaaGreat
open Go.RowKit
section
variable {w w' : World} {B : CB} {K : CK} {S : CS}
set_option maxRecDepth 100000 in
theorem co_in1y (h : CoAt w B K S) {th : Nat} (hj : th < K.n) (h0 : S.TS th 0 = 1) (hp : ∀ v, v < K.E → (K.L v).k = 4 → CPc (K.L v).n (S.LS v)) (hR : fStepR (K.L (K.nd th)) (S.LS (K.nd th)) S.A ((K.sl th : Nat) : Int) = true) : Calls Tryz.prog 227 #[.pointer (some ⟨B.cb, 0, none⟩), .int .i64 th] w fun e w' => e = .returned (.int .i64 (2)) ∧ CoAt w' B K ({ S with A := fStepA (K.L (K.nd th)) (S.LS (K.nd th)) S.A ((K.sl th : Nat) : Int), LS := upL S.LS (K.nd th) (fStepS (K.L (K.nd th)) (S.LS (K.nd th)) S.A ((K.sl th : Nat) : Int)) }) ∧ Frm (CZ B K) w w' := by
  have HJ := Lib.hid hj
  have hn32 := h.n32
  have HV := Lib.hid (h.nd_lt hj)
  have HOF := Lib.hid (coOf h hj)
  have c8 := h.box.cell (i := 8) rfl
  have l1 : (th : Int) < K.n := by omega
  have H := Lib.hid h
  have H0 := Lib.hid h0
  have HR := Lib.hid hR
  clear hR
  clear h h0 hj
  go_enter Tryz.func227, Tryz.ntmps227
  go_wp2_with fail
  refine HOF.out.mono ?_
  rintro e w1 ⟨rfl, hF⟩
  have hWX : Frm [] w1 (w1.alloc (.cells #[.pointer (some ⟨B.fb (K.nd th), 0, none⟩), .int .i64 (K.cn (K.nd th))] 203)) := (Frm.refl _ _).alloc _
  have hbx := HAt.new w1 #[.pointer (some ⟨B.fb (K.nd th), 0, none⟩), .int .i64 (K.cn (K.nd th))] 203
  have hC := H.out.same (hF.trans hWX)
  have k0 := hC.p0 HJ.out
  rw [H0.out] at k0
  have k1 := hC.p HJ.out (t := 1) (by omega)
  have b0 := hbx.cell (i := 0) rfl
  have b1 := hbx.cell (i := 1) rfl
  have d6 := hC.box.cell (i := 6) rfl
  have HFW := Lib.hid (hF.trans hWX)
  have HBX := Lib.hid hbx
  have HC := Lib.hid hC
  have hbw : w.heap.size ≤ w1.heap.size := hF.size
  clear hWX hbx hC hF
  go_wp2_with fail
  generalize w1.alloc (.cells #[.pointer (some ⟨B.fb (K.nd th), 0, none⟩), .int .i64 (K.cn (K.nd th))] 203) = W at *
  refine (fStep_any ((HC.out.loc _ HV.out)) (hp _ HV.out) ((K.sl th : Nat) : Int)).mono ?_
  rw [HR.out]; rintro e w2 ⟨rfl, hK, hF⟩
  have HD := Lib.hid (HC.out.local HV.out (hF) hK)
  have HFHD := Lib.hid (hF.mono (S' := CZ B K) (fun z hz => mem_CZ.2 (by
    simp at hz
    rcases hz with e | e | e
    · exact .inr (.inr (.inr (.inr ⟨_, HV.out, e.symm⟩)))
    · omega
    · omega)))
  clear hK hF
  go_wp2
  go_ret
  exact ⟨rfl, HD.out, (HFW.out.mono (S' := CZ B K) (by simp)).trans HFHD.out⟩
set_option maxRecDepth 100000 in
theorem co_in1n (h : CoAt w B K S) {th : Nat} (hj : th < K.n) (h0 : S.TS th 0 = 1) (hp : ∀ v, v < K.E → (K.L v).k = 4 → CPc (K.L v).n (S.LS v)) (hR : fStepR (K.L (K.nd th)) (S.LS (K.nd th)) S.A ((K.sl th : Nat) : Int) = false) : Calls Tryz.prog 227 #[.pointer (some ⟨B.cb, 0, none⟩), .int .i64 th] w fun e w' => e = .returned (.int .i64 (1)) ∧ CoAt w' B K ({ S with A := fStepA (K.L (K.nd th)) (S.LS (K.nd th)) S.A ((K.sl th : Nat) : Int), LS := upL S.LS (K.nd th) (fStepS (K.L (K.nd th)) (S.LS (K.nd th)) S.A ((K.sl th : Nat) : Int)) }) ∧ Frm (CZ B K) w w' := by
  have HJ := Lib.hid hj
  have hn32 := h.n32
  have HV := Lib.hid (h.nd_lt hj)
  have HOF := Lib.hid (coOf h hj)
  have c8 := h.box.cell (i := 8) rfl
  have l1 : (th : Int) < K.n := by omega
  have H := Lib.hid h
  have H0 := Lib.hid h0
  have HR := Lib.hid hR
  clear hR
  clear h h0 hj
  go_enter Tryz.func227, Tryz.ntmps227
  go_wp2_with fail
  refine HOF.out.mono ?_
  rintro e w1 ⟨rfl, hF⟩
  have hWX : Frm [] w1 (w1.alloc (.cells #[.pointer (some ⟨B.fb (K.nd th), 0, none⟩), .int .i64 (K.cn (K.nd th))] 203)) := (Frm.refl _ _).alloc _
  have hbx := HAt.new w1 #[.pointer (some ⟨B.fb (K.nd th), 0, none⟩), .int .i64 (K.cn (K.nd th))] 203
  have hC := H.out.same (hF.trans hWX)
  have k0 := hC.p0 HJ.out
  rw [H0.out] at k0
  have k1 := hC.p HJ.out (t := 1) (by omega)
  have b0 := hbx.cell (i := 0) rfl
  have b1 := hbx.cell (i := 1) rfl
  have d6 := hC.box.cell (i := 6) rfl
  have HFW := Lib.hid (hF.trans hWX)
  have HBX := Lib.hid hbx
  have HC := Lib.hid hC
  have hbw : w.heap.size ≤ w1.heap.size := hF.size
  clear hWX hbx hC hF
  go_wp2_with fail
  generalize w1.alloc (.cells #[.pointer (some ⟨B.fb (K.nd th), 0, none⟩), .int .i64 (K.cn (K.nd th))] 203) = W at *
  refine (fStep_any ((HC.out.loc _ HV.out)) (hp _ HV.out) ((K.sl th : Nat) : Int)).mono ?_
  rw [HR.out]; rintro e w2 ⟨rfl, hK, hF⟩
  have HD := Lib.hid (HC.out.local HV.out (hF) hK)
  have HFHD := Lib.hid (hF.mono (S' := CZ B K) (fun z hz => mem_CZ.2 (by
    simp at hz
    rcases hz with e | e | e
    · exact .inr (.inr (.inr (.inr ⟨_, HV.out, e.symm⟩)))
    · omega
    · omega)))
  clear hK hF
  have kp := HD.out.p0 HJ.out
  have kq := H0.out
  rw [show S.TS th 0 = _ from kq] at kp
  clear kq
  go_wp2
  go_ret
  exact ⟨rfl, HD.out, (HFW.out.mono (S' := CZ B K) (by simp)).trans HFHD.out⟩
set_option maxRecDepth 100000 in
theorem co_in2y (h : CoAt w B K S) {th : Nat} (hj : th < K.n) (h0 : S.TS th 0 = 2) (hx : 0 < S.A.get ((K.cn (K.nd th) : Nat) : Int)) : Calls Tryz.prog 227 #[.pointer (some ⟨B.cb, 0, none⟩), .int .i64 th] w fun e w' => e = .returned (.int .i64 (10)) ∧ CoAt w' B K ({ S with A := S.A.load ((K.cn (K.nd th) : Nat) : Int), TS := spPut S.TS th 1 (S.A.get ((K.cn (K.nd th) : Nat) : Int)) }) ∧ Frm (CZ B K) w w' := by
  have HJ := Lib.hid hj
  have hn32 := h.n32
  have HV := Lib.hid (h.nd_lt hj)
  have HOF := Lib.hid (coOf h hj)
  have c8 := h.box.cell (i := 8) rfl
  have l1 : (th : Int) < K.n := by omega
  have H := Lib.hid h
  have H0 := Lib.hid h0
  obtain ⟨x, hxx⟩ : ∃ x, S.A.get ((K.cn (K.nd th) : Nat) : Int) = x := ⟨_, rfl⟩
  rw [hxx] at hx ⊢
  have HX := Lib.hid hxx
  have dx : decide (0 < x) = true := by simpa using hx
  clear hxx
  clear h h0 hj
  go_enter Tryz.func227, Tryz.ntmps227
  go_wp2_with fail
  refine HOF.out.mono ?_
  rintro e w1 ⟨rfl, hF⟩
  have hWX : Frm [] w1 (w1.alloc (.cells #[.pointer (some ⟨B.fb (K.nd th), 0, none⟩), .int .i64 (K.cn (K.nd th))] 203)) := (Frm.refl _ _).alloc _
  have hbx := HAt.new w1 #[.pointer (some ⟨B.fb (K.nd th), 0, none⟩), .int .i64 (K.cn (K.nd th))] 203
  have hC := H.out.same (hF.trans hWX)
  have k0 := hC.p0 HJ.out
  rw [H0.out] at k0
  have k1 := hC.p HJ.out (t := 1) (by omega)
  have b0 := hbx.cell (i := 0) rfl
  have b1 := hbx.cell (i := 1) rfl
  have d6 := hC.box.cell (i := 6) rfl
  have HFW := Lib.hid (hF.trans hWX)
  have HBX := Lib.hid hbx
  have HC := Lib.hid hC
  have hbw : w.heap.size ≤ w1.heap.size := hF.size
  clear hWX hbx hC hF
  go_wp2_with fail
  generalize w1.alloc (.cells #[.pointer (some ⟨B.fb (K.nd th), 0, none⟩), .int .i64 (K.cn (K.nd th))] 203) = W at *
  obtain ⟨bn, hbn⟩ : ∃ bn, bn = w1.heap.size := ⟨_, rfl⟩
  rw [← hbn] at HBX b0 b1
  rw [← hbn]
  clear hbn
  have hne : Nonempty (HW (fun wx => Frm [B.cs, B.ab, B.wb] W wx)) := ⟨⟨W, Frm.refl _ _⟩⟩
  have hz0 : ∀ q : HW (fun wx => Frm [B.cs, B.ab, B.wb] W wx), q.w.cell? ⟨B.cb, 0, none⟩ = some (.pointer (some ⟨B.ab, 0, none⟩)) := fun q => (HC.out.box.frm q.h (((HC.out.mut.sub (Z' := [B.cs, B.ab, B.wb]) (fun z hz => mem_CZ.2 (by simp at hz; omega))).not HC.out.box))).cell (i := 0) rfl
  have hz1 : ∀ q : HW (fun wx => Frm [B.cs, B.ab, B.wb] W wx), q.w.cell? ⟨bn, 1, none⟩ = some (.int .i64 (K.cn (K.nd th))) := fun q => (HBX.out.frm q.h (((HC.out.mut.sub (Z' := [B.cs, B.ab, B.wb]) (fun z hz => mem_CZ.2 (by simp at hz; omega))).not HBX.out))).cell (i := 1) rfl
  refine held_begin (S := fun wx => Frm [B.cs, B.ab, B.wb] W wx) (by kernel_rfl) ?_
  refine held_row_at (fuel := 4) (is := [0, 1, 2, 3, 4, 5, 6]) (.cons rfl (.cons rfl (.cons rfl (.cons rfl (.cons rfl (.cons rfl (.cons rfl .nil))))))) (by kernel_rfl) (fun _ _ _ _ _ h => h) rfl (by kernel_rfl) (Frm.refl _ _).drew1 ?_
  intro Kq hK
  repeat (go_big_quiet_step (fail))
  refine wpQuiet_nil (hK _ ?_)
  clear hK Kq
  refine held_call (fuel := 3) (i := 7) rfl (by kernel_rfl) ?_
  go_wp2_with fail
  refine (Load_any ((HC.out.same ((Frm.refl [] W).drew1)).ar) ((K.cn (K.nd th) : Nat) : Int)).mono ?_
  rw [HX.out]
  rintro e w2 ⟨rfl, hA, hF⟩
  have HF2 := Lib.hid (((Frm.refl [B.ab, B.wb] W).drew1).trans hF)
  have HD := Lib.hid (HC.out.arena HF2.out hA)
  have j1 := HD.out.p HJ.out (t := 1) (by omega)
  have jz := HD.out.row.frozen
  clear hA hF
  go_wp2_with fail
  refine onNormal_mk ⟨HF2.out.mono (by simp), ?_⟩
  refine held_row_at (fuel := 1) (is := [8, 9]) (.cons rfl (.cons rfl .nil)) (by kernel_rfl) (fun _ _ _ _ _ h => h) rfl (by kernel_rfl) (HF2.out.mono (by simp)) ?_
  intro Kq hK
  repeat (go_big_quiet_step (fail))
  refine wpQuiet_nil (hK _ ?_)
  clear hK Kq
  refine held_call (fuel := 0) (i := 10) rfl (by kernel_rfl) ?_
  go_wp2_with fail
  refine onNormal_mk ⟨(HF2.out.mono (S' := [B.cs, B.ab, B.wb]) (by simp)).set _ _ (.inl (by simp)), ?_⟩
  refine held_end (by kernel_rfl) ?_
  have HE := Lib.hid (HD.out.put th (t := 1) (by omega) x)
  have HFE := Lib.hid (((HF2.out.mono (S' := [B.cs, B.ab, B.wb]) (by simp)).set ⟨B.cs, th * 4 + 1, none⟩ (.int .i64 x) (.inl (by simp))).mono (S' := CZ B K) (fun z hz => mem_CZ.2 (by simp at hz; omega)))
  clear j1 jz hne hz0 hz1 HD HF2 b0 b1 k0 k1 d6
  generalize w2.setCell ⟨B.cs, th * 4 + 1, none⟩ (.int .i64 x) = W3 at *
  have e1 : W3.cell? ⟨B.cs, th * 4 + 1, none⟩ = some (.int .i64 x) := (HE.out.p HJ.out (t := 1) (by omega)).trans (by simp [spPut])
  have e0 := HE.out.p0 HJ.out
  go_wp2
  go_ret
  exact ⟨rfl, HE.out, (HFW.out.mono (S' := CZ B K) (by simp)).trans HFE.out⟩
set_option maxRecDepth 100000 in
theorem co_in2n (h : CoAt w B K S) {th : Nat} (hj : th < K.n) (h0 : S.TS th 0 = 2) (hx : ¬ 0 < S.A.get ((K.cn (K.nd th) : Nat) : Int)) : Calls Tryz.prog 227 #[.pointer (some ⟨B.cb, 0, none⟩), .int .i64 th] w fun e w' => e = .returned (.int .i64 (3)) ∧ CoAt w' B K ({ S with A := S.A.load ((K.cn (K.nd th) : Nat) : Int), TS := spPut S.TS th 1 (S.A.get ((K.cn (K.nd th) : Nat) : Int)), GS := fAsk K.G S.GS ((K.nd th : Nat) : Int) }) ∧ Frm (CZ B K) w w' := by
  have HJ := Lib.hid hj
  have hn32 := h.n32
  have HV := Lib.hid (h.nd_lt hj)
  have HOF := Lib.hid (coOf h hj)
  have c8 := h.box.cell (i := 8) rfl
  have l1 : (th : Int) < K.n := by omega
  have H := Lib.hid h
  have H0 := Lib.hid h0
  obtain ⟨x, hxx⟩ : ∃ x, S.A.get ((K.cn (K.nd th) : Nat) : Int) = x := ⟨_, rfl⟩
  rw [hxx] at hx ⊢
  have HX := Lib.hid hxx
  have dx : decide (0 < x) = false := by simpa using hx
  clear hxx
  clear h h0 hj
  go_enter Tryz.func227, Tryz.ntmps227
  go_wp2_with fail
  refine HOF.out.mono ?_
  rintro e w1 ⟨rfl, hF⟩
  have hWX : Frm [] w1 (w1.alloc (.cells #[.pointer (some ⟨B.fb (K.nd th), 0, none⟩), .int .i64 (K.cn (K.nd th))] 203)) := (Frm.refl _ _).alloc _
  have hbx := HAt.new w1 #[.pointer (some ⟨B.fb (K.nd th), 0, none⟩), .int .i64 (K.cn (K.nd th))] 203
  have hC := H.out.same (hF.trans hWX)
  have k0 := hC.p0 HJ.out
  rw [H0.out] at k0
  have k1 := hC.p HJ.out (t := 1) (by omega)
  have b0 := hbx.cell (i := 0) rfl
  have b1 := hbx.cell (i := 1) rfl
  have d6 := hC.box.cell (i := 6) rfl
  have HFW := Lib.hid (hF.trans hWX)
  have HBX := Lib.hid hbx
  have HC := Lib.hid hC
  have hbw : w.heap.size ≤ w1.heap.size := hF.size
  clear hWX hbx hC hF
  go_wp2_with fail
  generalize w1.alloc (.cells #[.pointer (some ⟨B.fb (K.nd th), 0, none⟩), .int .i64 (K.cn (K.nd th))] 203) = W at *
  obtain ⟨bn, hbn⟩ : ∃ bn, bn = w1.heap.size := ⟨_, rfl⟩
  rw [← hbn] at HBX b0 b1
  rw [← hbn]
  clear hbn
  have hne : Nonempty (HW (fun wx => Frm [B.cs, B.ab, B.wb] W wx)) := ⟨⟨W, Frm.refl _ _⟩⟩
  have hz0 : ∀ q : HW (fun wx => Frm [B.cs, B.ab, B.wb] W wx), q.w.cell? ⟨B.cb, 0, none⟩ = some (.pointer (some ⟨B.ab, 0, none⟩)) := fun q => (HC.out.box.frm q.h (((HC.out.mut.sub (Z' := [B.cs, B.ab, B.wb]) (fun z hz => mem_CZ.2 (by simp at hz; omega))).not HC.out.box))).cell (i := 0) rfl
  have hz1 : ∀ q : HW (fun wx => Frm [B.cs, B.ab, B.wb] W wx), q.w.cell? ⟨bn, 1, none⟩ = some (.int .i64 (K.cn (K.nd th))) := fun q => (HBX.out.frm q.h (((HC.out.mut.sub (Z' := [B.cs, B.ab, B.wb]) (fun z hz => mem_CZ.2 (by simp at hz; omega))).not HBX.out))).cell (i := 1) rfl
  refine held_begin (S := fun wx => Frm [B.cs, B.ab, B.wb] W wx) (by kernel_rfl) ?_
  refine held_row_at (fuel := 4) (is := [0, 1, 2, 3, 4, 5, 6]) (.cons rfl (.cons rfl (.cons rfl (.cons rfl (.cons rfl (.cons rfl (.cons rfl .nil))))))) (by kernel_rfl) (fun _ _ _ _ _ h => h) rfl (by kernel_rfl) (Frm.refl _ _).drew1 ?_
  intro Kq hK
  repeat (go_big_quiet_step (fail))
  refine wpQuiet_nil (hK _ ?_)
  clear hK Kq
  refine held_call (fuel := 3) (i := 7) rfl (by kernel_rfl) ?_
  go_wp2_with fail
  refine (Load_any ((HC.out.same ((Frm.refl [] W).drew1)).ar) ((K.cn (K.nd th) : Nat) : Int)).mono ?_
  rw [HX.out]
  rintro e w2 ⟨rfl, hA, hF⟩
  have HF2 := Lib.hid (((Frm.refl [B.ab, B.wb] W).drew1).trans hF)
  have HD := Lib.hid (HC.out.arena HF2.out hA)
  have j1 := HD.out.p HJ.out (t := 1) (by omega)
  have jz := HD.out.row.frozen
  clear hA hF
  go_wp2_with fail
  refine onNormal_mk ⟨HF2.out.mono (by simp), ?_⟩
  refine held_row_at (fuel := 1) (is := [8, 9]) (.cons rfl (.cons rfl .nil)) (by kernel_rfl) (fun _ _ _ _ _ h => h) rfl (by kernel_rfl) (HF2.out.mono (by simp)) ?_
  intro Kq hK
  repeat (go_big_quiet_step (fail))
  refine wpQuiet_nil (hK _ ?_)
  clear hK Kq
  refine held_call (fuel := 0) (i := 10) rfl (by kernel_rfl) ?_
  go_wp2_with fail
  refine onNormal_mk ⟨(HF2.out.mono (S' := [B.cs, B.ab, B.wb]) (by simp)).set _ _ (.inl (by simp)), ?_⟩
  refine held_end (by kernel_rfl) ?_
  have HE := Lib.hid (HD.out.put th (t := 1) (by omega) x)
  have HFE := Lib.hid (((HF2.out.mono (S' := [B.cs, B.ab, B.wb]) (by simp)).set ⟨B.cs, th * 4 + 1, none⟩ (.int .i64 x) (.inl (by simp))).mono (S' := CZ B K) (fun z hz => mem_CZ.2 (by simp at hz; omega)))
  clear j1 jz hne hz0 hz1 HD HF2 b0 b1 k0 k1 d6
  generalize w2.setCell ⟨B.cs, th * 4 + 1, none⟩ (.int .i64 x) = W3 at *
  have e1 : W3.cell? ⟨B.cs, th * 4 + 1, none⟩ = some (.int .i64 x) := (HE.out.p HJ.out (t := 1) (by omega)).trans (by simp [spPut])
  have e0 := HE.out.p0 HJ.out
  have g3 := HE.out.box.cell (i := 6) rfl
  go_wp2_with fail
  refine (fAsk_any (HE.out.glo) ((K.nd th : Nat) : Int)).mono ?_
  rintro e w4 ⟨rfl, hK, hF⟩
  have HD := Lib.hid (HE.out.glob (hF.mono (by simp)) hK)
  have HFHD := Lib.hid (hF.mono (S' := CZ B K) (fun z hz => mem_CZ.2 (by simp at hz; omega)))
  clear hK hF
  go_wp2
  go_ret
  exact ⟨rfl, HD.out, ((HFW.out.mono (S' := CZ B K) (by simp)).trans HFE.out).trans HFHD.out⟩
set_option maxRecDepth 100000 in
theorem co_in3y (h : CoAt w B K S) {th : Nat} (hj : th < K.n) (h0 : S.TS th 0 = 3) (hg : K.G.k = 4 → CPc K.G.n S.GS) (hR : fStepR K.G S.GS S.A ((K.nd th : Nat) : Int) = true) : Calls Tryz.prog 227 #[.pointer (some ⟨B.cb, 0, none⟩), .int .i64 th] w fun e w' => e = .returned (.int .i64 (4)) ∧ CoAt w' B K ({ S with A := fStepA K.G S.GS S.A ((K.nd th : Nat) : Int), GS := fStepS K.G S.GS S.A ((K.nd th : Nat) : Int) }) ∧ Frm (CZ B K) w w' := by
  have HJ := Lib.hid hj
  have hn32 := h.n32
  have HV := Lib.hid (h.nd_lt hj)
  have HOF := Lib.hid (coOf h hj)
  have c8 := h.box.cell (i := 8) rfl
  have l1 : (th : Int) < K.n := by omega
  have H := Lib.hid h
  have H0 := Lib.hid h0
  have HR := Lib.hid hR
  clear hR
  clear h h0 hj
  go_enter Tryz.func227, Tryz.ntmps227
  go_wp2_with fail
  refine HOF.out.mono ?_
  rintro e w1 ⟨rfl, hF⟩
  have hWX : Frm [] w1 (w1.alloc (.cells #[.pointer (some ⟨B.fb (K.nd th), 0, none⟩), .int .i64 (K.cn (K.nd th))] 203)) := (Frm.refl _ _).alloc _
  have hbx := HAt.new w1 #[.pointer (some ⟨B.fb (K.nd th), 0, none⟩), .int .i64 (K.cn (K.nd th))] 203
  have hC := H.out.same (hF.trans hWX)
  have k0 := hC.p0 HJ.out
  rw [H0.out] at k0
  have k1 := hC.p HJ.out (t := 1) (by omega)
  have b0 := hbx.cell (i := 0) rfl
  have b1 := hbx.cell (i := 1) rfl
  have d6 := hC.box.cell (i := 6) rfl
  have HFW := Lib.hid (hF.trans hWX)
  have HBX := Lib.hid hbx
  have HC := Lib.hid hC
  have hbw : w.heap.size ≤ w1.heap.size := hF.size
  clear hWX hbx hC hF
  go_wp2_with fail
  generalize w1.alloc (.cells #[.pointer (some ⟨B.fb (K.nd th), 0, none⟩), .int .i64 (K.cn (K.nd th))] 203) = W at *
  refine (fStep_any (HC.out.glo) hg ((K.nd th : Nat) : Int)).mono ?_
  rw [HR.out]; rintro e w2 ⟨rfl, hK, hF⟩
  have HD := Lib.hid (HC.out.glob (hF) hK)
  have HFHD := Lib.hid (hF.mono (S' := CZ B K) (fun z hz => mem_CZ.2 (by simp at hz; omega)))
  clear hK hF
  go_wp2
  go_ret
  exact ⟨rfl, HD.out, (HFW.out.mono (S' := CZ B K) (by simp)).trans HFHD.out⟩
set_option maxRecDepth 100000 in
theorem co_in3n (h : CoAt w B K S) {th : Nat} (hj : th < K.n) (h0 : S.TS th 0 = 3) (hg : K.G.k = 4 → CPc K.G.n S.GS) (hR : fStepR K.G S.GS S.A ((K.nd th : Nat) : Int) = false) : Calls Tryz.prog 227 #[.pointer (some ⟨B.cb, 0, none⟩), .int .i64 th] w fun e w' => e = .returned (.int .i64 (3)) ∧ CoAt w' B K ({ S with A := fStepA K.G S.GS S.A ((K.nd th : Nat) : Int), GS := fStepS K.G S.GS S.A ((K.nd th : Nat) : Int) }) ∧ Frm (CZ B K) w w' := by
  have HJ := Lib.hid hj
  have hn32 := h.n32
  have HV := Lib.hid (h.nd_lt hj)
  have HOF := Lib.hid (coOf h hj)
  have c8 := h.box.cell (i := 8) rfl
  have l1 : (th : Int) < K.n := by omega
  have H := Lib.hid h
  have H0 := Lib.hid h0
  have HR := Lib.hid hR
  clear hR
  clear h h0 hj
  go_enter Tryz.func227, Tryz.ntmps227
  go_wp2_with fail
  refine HOF.out.mono ?_
  rintro e w1 ⟨rfl, hF⟩
  have hWX : Frm [] w1 (w1.alloc (.cells #[.pointer (some ⟨B.fb (K.nd th), 0, none⟩), .int .i64 (K.cn (K.nd th))] 203)) := (Frm.refl _ _).alloc _
  have hbx := HAt.new w1 #[.pointer (some ⟨B.fb (K.nd th), 0, none⟩), .int .i64 (K.cn (K.nd th))] 203
  have hC := H.out.same (hF.trans hWX)
  have k0 := hC.p0 HJ.out
  rw [H0.out] at k0
  have k1 := hC.p HJ.out (t := 1) (by omega)
  have b0 := hbx.cell (i := 0) rfl
  have b1 := hbx.cell (i := 1) rfl
  have d6 := hC.box.cell (i := 6) rfl
  have HFW := Lib.hid (hF.trans hWX)
  have HBX := Lib.hid hbx
  have HC := Lib.hid hC
  have hbw : w.heap.size ≤ w1.heap.size := hF.size
  clear hWX hbx hC hF
  go_wp2_with fail
  generalize w1.alloc (.cells #[.pointer (some ⟨B.fb (K.nd th), 0, none⟩), .int .i64 (K.cn (K.nd th))] 203) = W at *
  refine (fStep_any (HC.out.glo) hg ((K.nd th : Nat) : Int)).mono ?_
  rw [HR.out]; rintro e w2 ⟨rfl, hK, hF⟩
  have HD := Lib.hid (HC.out.glob (hF) hK)
  have HFHD := Lib.hid (hF.mono (S' := CZ B K) (fun z hz => mem_CZ.2 (by simp at hz; omega)))
  clear hK hF
  have kp := HD.out.p0 HJ.out
  have kq := H0.out
  rw [show S.TS th 0 = _ from kq] at kp
  clear kq
  go_wp2
  go_ret
  exact ⟨rfl, HD.out, (HFW.out.mono (S' := CZ B K) (by simp)).trans HFHD.out⟩
set_option maxRecDepth 100000 in
theorem co_in4 (h : CoAt w B K S) {th : Nat} (hj : th < K.n) (h0 : S.TS th 0 = 4) : Calls Tryz.prog 227 #[.pointer (some ⟨B.cb, 0, none⟩), .int .i64 th] w fun e w' => e = .returned (.int .i64 (10)) ∧ CoAt w' B K ({ S with A := S.A.store ((K.cn (K.nd th) : Nat) : Int) 1, TS := spPut S.TS th 1 1 }) ∧ Frm (CZ B K) w w' := by
  have HJ := Lib.hid hj
  have hn32 := h.n32
  have HV := Lib.hid (h.nd_lt hj)
  have HOF := Lib.hid (coOf h hj)
  have c8 := h.box.cell (i := 8) rfl
  have l1 : (th : Int) < K.n := by omega
  have H := Lib.hid h
  have H0 := Lib.hid h0
  clear h h0 hj
  go_enter Tryz.func227, Tryz.ntmps227
  go_wp2_with fail
  refine HOF.out.mono ?_
  rintro e w1 ⟨rfl, hF⟩
  have hWX : Frm [] w1 (w1.alloc (.cells #[.pointer (some ⟨B.fb (K.nd th), 0, none⟩), .int .i64 (K.cn (K.nd th))] 203)) := (Frm.refl _ _).alloc _
  have hbx := HAt.new w1 #[.pointer (some ⟨B.fb (K.nd th), 0, none⟩), .int .i64 (K.cn (K.nd th))] 203
  have hC := H.out.same (hF.trans hWX)
  have k0 := hC.p0 HJ.out
  rw [H0.out] at k0
  have k1 := hC.p HJ.out (t := 1) (by omega)
  have b0 := hbx.cell (i := 0) rfl
  have b1 := hbx.cell (i := 1) rfl
  have d6 := hC.box.cell (i := 6) rfl
  have HFW := Lib.hid (hF.trans hWX)
  have HBX := Lib.hid hbx
  have HC := Lib.hid hC
  have hbw : w.heap.size ≤ w1.heap.size := hF.size
  clear hWX hbx hC hF
  go_wp2_with fail
  generalize w1.alloc (.cells #[.pointer (some ⟨B.fb (K.nd th), 0, none⟩), .int .i64 (K.cn (K.nd th))] 203) = W at *
  obtain ⟨bn, hbn⟩ : ∃ bn, bn = w1.heap.size := ⟨_, rfl⟩
  rw [← hbn] at HBX b0 b1
  rw [← hbn]
  clear hbn
  have hne : Nonempty (HW (fun wx => Frm [B.ab, B.wb] W wx)) := ⟨⟨W, Frm.refl _ _⟩⟩
  have hz0 : ∀ q : HW (fun wx => Frm [B.ab, B.wb] W wx), q.w.cell? ⟨B.cb, 0, none⟩ = some (.pointer (some ⟨B.ab, 0, none⟩)) := fun q => (HC.out.box.frm q.h (((HC.out.mut.sub (Z' := [B.ab, B.wb]) (fun z hz => mem_CZ.2 (by simp at hz; omega))).not HC.out.box))).cell (i := 0) rfl
  have hz1 : ∀ q : HW (fun wx => Frm [B.ab, B.wb] W wx), q.w.cell? ⟨bn, 1, none⟩ = some (.int .i64 (K.cn (K.nd th))) := fun q => (HBX.out.frm q.h (((HC.out.mut.sub (Z' := [B.ab, B.wb]) (fun z hz => mem_CZ.2 (by simp at hz; omega))).not HBX.out))).cell (i := 1) rfl
  refine held_begin (S := fun wx => Frm [B.ab, B.wb] W wx) (by kernel_rfl) ?_
  refine held_row_at (fuel := 1) (is := [0, 1, 2, 3, 4, 5]) (.cons rfl (.cons rfl (.cons rfl (.cons rfl (.cons rfl (.cons rfl .nil)))))) (by kernel_rfl) (fun _ _ _ _ _ h => h) rfl (by kernel_rfl) (Frm.refl _ _).drew1 ?_
  intro Kq hK
  repeat (go_big_quiet_step (fail))
  refine wpQuiet_nil (hK _ ?_)
  clear hK Kq
  refine held_call (fuel := 0) (i := 6) rfl (by kernel_rfl) ?_
  go_wp2_with fail
  refine (Store_any ((HC.out.same ((Frm.refl [] W).drew1)).ar) ((K.cn (K.nd th) : Nat) : Int) (1)).mono ?_
  rintro e w2 ⟨rfl, hA, hF⟩
  have HF2 := Lib.hid (((Frm.refl [B.ab, B.wb] W).drew1).trans hF)
  have HD := Lib.hid (HC.out.arena HF2.out hA)
  clear hA hF
  go_wp2_with fail
  refine onNormal_mk ⟨HF2.out, ?_⟩
  refine held_end (by kernel_rfl) ?_
  have HFD := Lib.hid (HF2.out.mono (S' := CZ B K) (fun z hz => mem_CZ.2 (by simp at hz; omega)))
  have j0 := HD.out.p0 HJ.out
  have j1 := HD.out.p HJ.out (t := 1) (by omega)
  have jz := HD.out.row.frozen
  have g3 := HD.out.box.cell (i := 6) rfl
  have hnb : B.ab ≠ bn ∧ B.wb ≠ bn := ⟨HC.out.ar.box.differ HBX.out (by decide), HC.out.ar.row.differ HBX.out (by decide)⟩
  have hb2 := HBX.out.frm HF2.out (by simp; omega)
  have m0 := hb2.cell (i := 0) rfl
  clear hne hz0 hz1 HF2 b0 b1 k0 k1 d6 hb2 hnb
  go_wp2_with fail
  have HE := Lib.hid (HD.out.put th (t := 1) (by omega) 1)
  have HFE := Lib.hid (HFD.out.set ⟨B.cs, th * 4 + 1, none⟩ (.int .i64 1) (.inl (mem_CZ.2 (.inl rfl))))
  go_ret
  exact ⟨rfl, HE.out, (HFW.out.mono (S' := CZ B K) (by simp)).trans HFE.out⟩
end
end Go.Proofs.YteijjhahgabalaaGreat

/- A cohort lock: a step of any thread, Ask, Leave, Count, as functions of its state. -/
namespace Go.Proofs.YteijjhahgabalaaGreat
open Go.RowKit
def coIn (K : CK) (S : CS) (th : Nat) : CS × Int :=
  if S.TS th 0 = 1 then ({ S with A := fStepA (K.L (K.nd th)) (S.LS (K.nd th)) S.A (K.sl th : Nat), LS := upL S.LS (K.nd th) (fStepS (K.L (K.nd th)) (S.LS (K.nd th)) S.A (K.sl th : Nat)) }, if fStepR (K.L (K.nd th)) (S.LS (K.nd th)) S.A (K.sl th : Nat) then 2 else 1)
  else if S.TS th 0 = 2 then
    (if 0 < S.A.get (K.cn (K.nd th) : Nat) then ({ S with A := S.A.load (K.cn (K.nd th) : Nat), TS := spPut S.TS th 1 (S.A.get (K.cn (K.nd th) : Nat)) }, 10)
     else ({ S with A := S.A.load (K.cn (K.nd th) : Nat), TS := spPut S.TS th 1 (S.A.get (K.cn (K.nd th) : Nat)), GS := fAsk K.G S.GS (K.nd th : Nat) }, 3))
  else if S.TS th 0 = 3 then ({ S with A := fStepA K.G S.GS S.A (K.nd th : Nat), GS := fStepS K.G S.GS S.A (K.nd th : Nat) }, if fStepR K.G S.GS S.A (K.nd th : Nat) then 4 else 3)
  else ({ S with A := S.A.store (K.cn (K.nd th) : Nat) 1, TS := spPut S.TS th 1 1 }, 10)
def coOut (K : CK) (S : CS) (th : Nat) : CS × Int :=
  if S.TS th 0 = 11 then ({ S with A := S.A.load (K.cn (K.nd th) : Nat), TS := spPut S.TS th 1 (S.A.get (K.cn (K.nd th) : Nat)) }, if K.bud < S.A.get (K.cn (K.nd th) : Nat) then 14 else 12)
  else if S.TS th 0 = 12 then ({ S with A := fAlA (K.L (K.nd th)) (S.LS (K.nd th)) S.A (K.sl th : Nat) }, if passes (S.TS th 1) K.bud (fAlR (K.L (K.nd th)) (S.LS (K.nd th)) S.A (K.sl th : Nat)) then 13 else 14)
  else if S.TS th 0 = 13 then ({ S with A := S.A.store (K.cn (K.nd th) : Nat) (wrap64 (S.TS th 1 + 1)), LS := upL S.LS (K.nd th) (fLeave (K.L (K.nd th)) (S.LS (K.nd th)) (K.sl th : Nat)) }, 16)
  else if S.TS th 0 = 14 then ({ S with A := S.A.store (K.cn (K.nd th) : Nat) 0, GS := fLeave K.G S.GS (K.nd th : Nat) }, 15)
  else if S.TS th 0 = 15 then
    (if fStepR K.G S.GS S.A (K.nd th : Nat) then ({ S with A := fStepA K.G S.GS S.A (K.nd th : Nat), GS := fStepS K.G S.GS S.A (K.nd th : Nat), LS := upL S.LS (K.nd th) (fLeave (K.L (K.nd th)) (S.LS (K.nd th)) (K.sl th : Nat)) }, 16)
     else ({ S with A := fStepA K.G S.GS S.A (K.nd th : Nat), GS := fStepS K.G S.GS S.A (K.nd th : Nat) }, 15))
  else ({ S with A := fStepA (K.L (K.nd th)) (S.LS (K.nd th)) S.A (K.sl th : Nat), LS := upL S.LS (K.nd th) (fStepS (K.L (K.nd th)) (S.LS (K.nd th)) S.A (K.sl th : Nat)) }, if fStepR (K.L (K.nd th)) (S.LS (K.nd th)) S.A (K.sl th : Nat) then 0 else 16)
def coGo (K : CK) (S : CS) (th : Nat) : CS × Int := if S.TS th 0 < 10 then coIn K S th else coOut K S th
def coMoves (K : CK) (S : CS) (i : Int) : Bool := sHas K.n i && !(S.TS i.toNat 0 == 0) && !(S.TS i.toNat 0 == 10)
def coStepS (K : CK) (S : CS) (i : Int) : CS := if coMoves K S i then { (coGo K S i.toNat).1 with TS := spPut (coGo K S i.toNat).1.TS i.toNat 0 (coGo K S i.toNat).2 } else S
def coStepR (K : CK) (S : CS) (i : Int) : Bool := coMoves K S i && ((coGo K S i.toNat).2 == 10 || (coGo K S i.toNat).2 == 0)
/-- each thread is at a step that there is; each slot of mcs too -/
structure CoPc (K : CK) (S : CS) : Prop where
  th : ∀ t, t < K.n → (0 ≤ S.TS t 0 ∧ S.TS t 0 ≤ 4) ∨ (10 ≤ S.TS t 0 ∧ S.TS t 0 ≤ 16)
  lo : ∀ v, v < K.E → (K.L v).k = 4 → CPc (K.L v).n (S.LS v)
  gl : K.G.k = 4 → CPc K.G.n S.GS
section
variable {w w' : World} {B : CB} {K : CK} {S : CS}
theorem co_go {f : Nat} {th : Nat} {W : World} {S' : CS} {x : CS × Int} {res : Int} (e : x = (S', res))
    (h : Calls Tryz.prog f #[.pointer (some ⟨B.cb, 0, none⟩), .int .i64 th] W fun e w' => e = .returned (.int .i64 res) ∧ CoAt w' B K S' ∧ Frm (CZ B K) W w') :
    Calls Tryz.prog f #[.pointer (some ⟨B.cb, 0, none⟩), .int .i64 th] W fun e w' => e = .returned (.int .i64 x.2) ∧ CoAt w' B K x.1 ∧ Frm (CZ B K) W w' := by
  subst e; exact h
theorem coIn_any (h : CoAt w B K S) (hp : CoPc K S) {th : Nat} (hj : th < K.n) (hq : 1 ≤ S.TS th 0 ∧ S.TS th 0 ≤ 4) :
    Calls Tryz.prog 227 #[.pointer (some ⟨B.cb, 0, none⟩), .int .i64 th] w fun e w' => e = .returned (.int .i64 (coIn K S th).2) ∧ CoAt w' B K (coIn K S th).1 ∧ Frm (CZ B K) w w' := by
  rcases (by omega : S.TS th 0 = 1 ∨ S.TS th 0 = 2 ∨ S.TS th 0 = 3 ∨ S.TS th 0 = 4) with q | q | q | q
  · cases g : fStepR (K.L (K.nd th)) (S.LS (K.nd th)) S.A ((K.sl th : Nat) : Int) with
    | true => exact co_go (by unfold coIn; rw [if_pos q, if_pos g]) (co_in1y h hj q hp.lo g)
    | false => exact co_go (by unfold coIn; rw [if_pos q, if_neg (by simp [g])]) (co_in1n h hj q hp.lo g)
  · by_cases g : 0 < S.A.get ((K.cn (K.nd th) : Nat) : Int)
    · exact co_go (by unfold coIn; rw [if_neg (by omega), if_pos q, if_pos g]) (co_in2y h hj q g)
    · exact co_go (by unfold coIn; rw [if_neg (by omega), if_pos q, if_neg g]) (co_in2n h hj q g)
  · cases g : fStepR K.G S.GS S.A ((K.nd th : Nat) : Int) with
    | true => exact co_go (by unfold coIn; rw [if_neg (by omega), if_neg (by omega), if_pos q, if_pos g]) (co_in3y h hj q hp.gl g)
    | false => exact co_go (by unfold coIn; rw [if_neg (by omega), if_neg (by omega), if_pos q, if_neg (by simp [g])]) (co_in3n h hj q hp.gl g)
  · exact co_go (by unfold coIn; rw [if_neg (by omega), if_neg (by omega), if_neg (by omega)]) (co_in4 h hj q)
theorem coOut_any (h : CoAt w B K S) (hp : CoPc K S) {th : Nat} (hj : th < K.n) (hq : 11 ≤ S.TS th 0 ∧ S.TS th 0 ≤ 16) :
    Calls Tryz.prog 228 #[.pointer (some ⟨B.cb, 0, none⟩), .int .i64 th] w fun e w' => e = .returned (.int .i64 (coOut K S th).2) ∧ CoAt w' B K (coOut K S th).1 ∧ Frm (CZ B K) w w' := by
  rcases (by omega : S.TS th 0 = 11 ∨ S.TS th 0 = 12 ∨ S.TS th 0 = 13 ∨ S.TS th 0 = 14 ∨ S.TS th 0 = 15 ∨ S.TS th 0 = 16) with q | q | q | q | q | q
  · by_cases g : K.bud < S.A.get ((K.cn (K.nd th) : Nat) : Int)
    · exact co_go (by unfold coOut; rw [if_pos q, if_pos g]) (co_out11y h hj q g)
    · exact co_go (by unfold coOut; rw [if_pos q, if_neg g]) (co_out11n h hj q g)
  · cases g : passes (S.TS th 1) K.bud (fAlR (K.L (K.nd th)) (S.LS (K.nd th)) S.A ((K.sl th : Nat) : Int)) with
    | true => exact co_go (by unfold coOut; rw [if_neg (by omega), if_pos q, if_pos g]) (co_out12y h hj q g)
    | false => exact co_go (by unfold coOut; rw [if_neg (by omega), if_pos q, if_neg (by simp [g])]) (co_out12n h hj q g)
  · exact co_go (by unfold coOut; rw [if_neg (by omega), if_neg (by omega), if_pos q]) (co_out13 h hj q)
  · exact co_go (by unfold coOut; rw [if_neg (by omega), if_neg (by omega), if_neg (by omega), if_pos q]) (co_out14 h hj q)
  · cases g : fStepR K.G S.GS S.A ((K.nd th : Nat) : Int) with
    | true => exact co_go (by unfold coOut; rw [if_neg (by omega), if_neg (by omega), if_neg (by omega), if_neg (by omega), if_pos q, if_pos g]) (co_out15y h hj q hp.gl g)
    | false => exact co_go (by unfold coOut; rw [if_neg (by omega), if_neg (by omega), if_neg (by omega), if_neg (by omega), if_pos q, if_neg (by simp [g])]) (co_out15n h hj q hp.gl g)
  · cases g : fStepR (K.L (K.nd th)) (S.LS (K.nd th)) S.A ((K.sl th : Nat) : Int) with
    | true => exact co_go (by unfold coOut; rw [if_neg (by omega), if_neg (by omega), if_neg (by omega), if_neg (by omega), if_neg (by omega), if_pos g]) (co_out16y h hj q hp.lo g)
    | false => exact co_go (by unfold coOut; rw [if_neg (by omega), if_neg (by omega), if_neg (by omega), if_neg (by omega), if_neg (by omega), if_neg (by simp [g])]) (co_out16n h hj q hp.lo g)
set_option maxRecDepth 100000 in
theorem co_step_in (h : CoAt w B K S) {j : Nat} (hj : j < K.n) {pc res : Int} {S' : CS} (h0 : S.TS j 0 = pc) (hpc : 1 ≤ pc ∧ pc < 10)
    (HC : ∀ W, Frm [] w W → Calls Tryz.prog 227 #[.pointer (some ⟨B.cb, 0, none⟩), .int .i64 j] W fun e w' => e = .returned (.int .i64 res) ∧ CoAt w' B K S' ∧ Frm (CZ B K) W w') :
    Calls Tryz.prog 223 #[.pointer (some ⟨B.cb, 0, none⟩), .int .i64 j] w fun e w' => e = .returned (.bool (res == 10 || res == 0)) ∧ CoAt w' B K { S' with TS := spPut S'.TS j 0 res } ∧ Frm (CZ B K) w w' := by
  have HS := Lib.hid (coSpot h j)
  have fd := spotPcG
  have hr : spV K.n S.TS j = .agg #[.int .i64 pc, .int .i64 (S.TS j 1), .int .i64 (S.TS j 2), .int .i64 (S.TS j 3)] := by unfold spV; rw [sHas_nat hj, if_pos rfl, ← h0]; rfl
  rw [hr] at HS
  have HJ := Lib.hid hj
  have hn32 := h.n32
  have l1 : (j : Int) < K.n := by omega
  have d0 : (pc == 0) = false := by simp; omega
  have d1 : (pc == 10) = false := by simp; omega
  have d2 : decide (pc < 10) = true := by simp; omega
  have H := Lib.hid h
  have HCC := Lib.hid HC
  clear HC hr h h0 hpc hj
  cases r1 : (res == 10)
  all_goals
    cases r2 : (res == 0)
    all_goals
      first
        | (exfalso; simp at r1 r2; omega)
        | skip
  all_goals
    go_enter Tryz.func223, Tryz.ntmps223
    go_wp2_with fail
    refine HS.out.mono ?_
    rintro e W ⟨rfl, hF⟩
    have HFW := Lib.hid hF
    have HA := Lib.hid (H.out.same hF)
    clear hF
    have hne : Nonempty (HW (fun wx => Frm (CZ B K) W wx)) := ⟨⟨W, Frm.refl _ _⟩⟩
    have hz0 : ∀ q : HW (fun wx => Frm (CZ B K) W wx), q.w.cell? ⟨B.cb, 8, none⟩ = some (.slice (some ⟨B.cs, 0, none⟩) K.n K.n) := fun q => (HA.out.box.frm q.h (HA.out.mut.not HA.out.box)).cell (i := 8) rfl
    go_wp2_with fail
    refine held_begin (S := fun wx => Frm (CZ B K) W wx) (by kernel_rfl) ?_
    refine held_row_at (fuel := 4) (is := [0, 1, 2, 3, 4, 5, 6]) (.cons rfl (.cons rfl (.cons rfl (.cons rfl (.cons rfl (.cons rfl (.cons rfl .nil))))))) (by kernel_rfl) (fun _ _ _ _ _ h => h) rfl (by kernel_rfl) (Frm.refl _ _).drew1 ?_
    intro Kq hK
    repeat (go_big_quiet_step (fail))
    refine wpQuiet_nil (hK _ ?_)
    clear hK Kq
    refine held_call (fuel := 3) (i := 7) rfl (by kernel_rfl) ?_
    go_wp2_with fail
    refine (HCC.out _ (HFW.out.drew1)).mono ?_
    rintro e w2 ⟨rfl, hD, hF⟩
    have HD := Lib.hid hD
    have HF2 := Lib.hid (((Frm.refl (CZ B K) W).drew1).trans hF)
    have k0 := hD.p0 HJ.out
    have kz := hD.row.frozen
    clear hD hF
    go_wp2_with fail
    refine onNormal_mk ⟨HF2.out, ?_⟩
    refine held_row_at (fuel := 1) (is := [8, 9]) (.cons rfl (.cons rfl .nil)) (by kernel_rfl) (fun _ _ _ _ _ h => h) rfl (by kernel_rfl) HF2.out ?_
    intro Kq hK
    repeat (go_big_quiet_step (fail))
    refine wpQuiet_nil (hK _ ?_)
    clear hK Kq
    refine held_call (fuel := 0) (i := 10) rfl (by kernel_rfl) ?_
    go_wp2_with fail
    refine onNormal_mk ⟨HF2.out.set _ _ (.inl (mem_CZ.2 (.inl rfl))), ?_⟩
    refine held_end (by kernel_rfl) ?_
    have HE := Lib.hid (HD.out.put j (t := 0) (by omega) res)
    have HFE := Lib.hid (HF2.out.set ⟨B.cs, j * 4, none⟩ (.int .i64 res) (.inl (mem_CZ.2 (.inl rfl))))
    have e0 : (w2.setCell ⟨B.cs, j * 4, none⟩ (.int .i64 res)).cell? ⟨B.cs, j * 4, none⟩ = some (.int .i64 res) := (HE.out.p0 HJ.out).trans (by simp [spPut])
    have e8 := HE.out.box.cell (i := 8) rfl
    clear k0 kz hne hz0
    generalize w2.setCell ⟨B.cs, j * 4, none⟩ (.int .i64 res) = W3 at *
    go_wp2
    go_ret
    exact ⟨rfl, HE.out, (HFW.out.mono (by simp)).trans HFE.out⟩
set_option maxRecDepth 100000 in
theorem co_step_out (h : CoAt w B K S) {j : Nat} (hj : j < K.n) {pc res : Int} {S' : CS} (h0 : S.TS j 0 = pc) (hpc : 10 < pc)
    (HC : ∀ W, Frm [] w W → Calls Tryz.prog 228 #[.pointer (some ⟨B.cb, 0, none⟩), .int .i64 j] W fun e w' => e = .returned (.int .i64 res) ∧ CoAt w' B K S' ∧ Frm (CZ B K) W w') :
    Calls Tryz.prog 223 #[.pointer (some ⟨B.cb, 0, none⟩), .int .i64 j] w fun e w' => e = .returned (.bool (res == 10 || res == 0)) ∧ CoAt w' B K { S' with TS := spPut S'.TS j 0 res } ∧ Frm (CZ B K) w w' := by
  have HS := Lib.hid (coSpot h j)
  have fd := spotPcG
  have hr : spV K.n S.TS j = .agg #[.int .i64 pc, .int .i64 (S.TS j 1), .int .i64 (S.TS j 2), .int .i64 (S.TS j 3)] := by unfold spV; rw [sHas_nat hj, if_pos rfl, ← h0]; rfl
  rw [hr] at HS
  have HJ := Lib.hid hj
  have hn32 := h.n32
  have l1 : (j : Int) < K.n := by omega
  have d0 : (pc == 0) = false := by simp; omega
  have d1 : (pc == 10) = false := by simp; omega
  have d2 : decide (pc < 10) = false := by simp; omega
  have H := Lib.hid h
  have HCC := Lib.hid HC
  clear HC hr h h0 hpc hj
  cases r1 : (res == 10)
  all_goals
    cases r2 : (res == 0)
    all_goals
      first
        | (exfalso; simp at r1 r2; omega)
        | skip
  all_goals
    go_enter Tryz.func223, Tryz.ntmps223
    go_wp2_with fail
    refine HS.out.mono ?_
    rintro e W ⟨rfl, hF⟩
    have HFW := Lib.hid hF
    have HA := Lib.hid (H.out.same hF)
    clear hF
    have hne : Nonempty (HW (fun wx => Frm (CZ B K) W wx)) := ⟨⟨W, Frm.refl _ _⟩⟩
    have hz0 : ∀ q : HW (fun wx => Frm (CZ B K) W wx), q.w.cell? ⟨B.cb, 8, none⟩ = some (.slice (some ⟨B.cs, 0, none⟩) K.n K.n) := fun q => (HA.out.box.frm q.h (HA.out.mut.not HA.out.box)).cell (i := 8) rfl
    go_wp2_with fail
    refine held_begin (S := fun wx => Frm (CZ B K) W wx) (by kernel_rfl) ?_
    refine held_row_at (fuel := 4) (is := [0, 1, 2, 3, 4, 5, 6]) (.cons rfl (.cons rfl (.cons rfl (.cons rfl (.cons rfl (.cons rfl (.cons rfl .nil))))))) (by kernel_rfl) (fun _ _ _ _ _ h => h) rfl (by kernel_rfl) (Frm.refl _ _).drew1 ?_
    intro Kq hK
    repeat (go_big_quiet_step (fail))
    refine wpQuiet_nil (hK _ ?_)
    clear hK Kq
    refine held_call (fuel := 3) (i := 7) rfl (by kernel_rfl) ?_
    go_wp2_with fail
    refine (HCC.out _ (HFW.out.drew1)).mono ?_
    rintro e w2 ⟨rfl, hD, hF⟩
    have HD := Lib.hid hD
    have HF2 := Lib.hid (((Frm.refl (CZ B K) W).drew1).trans hF)
    have k0 := hD.p0 HJ.out
    have kz := hD.row.frozen
    clear hD hF
    go_wp2_with fail
    refine onNormal_mk ⟨HF2.out, ?_⟩
    refine held_row_at (fuel := 1) (is := [8, 9]) (.cons rfl (.cons rfl .nil)) (by kernel_rfl) (fun _ _ _ _ _ h => h) rfl (by kernel_rfl) HF2.out ?_
    intro Kq hK
    repeat (go_big_quiet_step (fail))
    refine wpQuiet_nil (hK _ ?_)
    clear hK Kq
    refine held_call (fuel := 0) (i := 10) rfl (by kernel_rfl) ?_
    go_wp2_with fail
    refine onNormal_mk ⟨HF2.out.set _ _ (.inl (mem_CZ.2 (.inl rfl))), ?_⟩
    refine held_end (by kernel_rfl) ?_
    have HE := Lib.hid (HD.out.put j (t := 0) (by omega) res)
    have HFE := Lib.hid (HF2.out.set ⟨B.cs, j * 4, none⟩ (.int .i64 res) (.inl (mem_CZ.2 (.inl rfl))))
    have e0 : (w2.setCell ⟨B.cs, j * 4, none⟩ (.int .i64 res)).cell? ⟨B.cs, j * 4, none⟩ = some (.int .i64 res) := (HE.out.p0 HJ.out).trans (by simp [spPut])
    have e8 := HE.out.box.cell (i := 8) rfl
    clear k0 kz hne hz0
    generalize w2.setCell ⟨B.cs, j * 4, none⟩ (.int .i64 res) = W3 at *
    go_wp2
    go_ret
    exact ⟨rfl, HE.out, (HFW.out.mono (by simp)).trans HFE.out⟩
theorem coIdle (h : CoAt w B K S) (i : Int) (hi : sHas K.n i = false ∨ S.TS i.toNat 0 = 0 ∨ S.TS i.toNat 0 = 10) : Calls Tryz.prog 223 #[.pointer (some ⟨B.cb, 0, none⟩), .int .i64 i] w fun e w' => e = .returned (.bool false) ∧ Frm [] w w' := by
  have HS := Lib.hid (coSpot h i)
  have fd := spotPcG
  have hv : ∃ a b c p : Int, (p = 0 ∨ p = 10) ∧ spV K.n S.TS i = .agg #[.int .i64 p, .int .i64 a, .int .i64 b, .int .i64 c] := by
    unfold spV
    by_cases hh : sHas K.n i = true
    · rw [if_pos hh]; exact ⟨_, _, _, _, hi.resolve_left (by simp [hh]), rfl⟩
    · rw [if_neg hh]; exact ⟨0, 0, 0, 0, .inl rfl, rfl⟩
  obtain ⟨a, b, c, p, hp, hv⟩ := hv
  rw [hv] at HS
  clear hv hi h
  rcases hp with rfl | rfl
  all_goals
    go_enter Tryz.func223, Tryz.ntmps223
    go_wp2_with fail
    refine HS.out.mono ?_
    rintro e w1 ⟨rfl, hF⟩
    have HF := Lib.hid hF
    clear hF
    go_wp2
    go_ret
    exact ⟨rfl, HF.out⟩
theorem coStep_any (h : CoAt w B K S) (hp : CoPc K S) (i : Int) : Calls Tryz.prog 223 #[.pointer (some ⟨B.cb, 0, none⟩), .int .i64 i] w fun e w' => e = .returned (.bool (coStepR K S i)) ∧ CoAt w' B K (coStepS K S i) ∧ Frm (CZ B K) w w' := by
  unfold coStepR coStepS
  cases hm : coMoves K S i with
  | false =>
    simp only [Bool.false_and, Bool.false_eq_true, if_false]
    refine (coIdle h i ?_).mono fun e w' ⟨h1, h2⟩ => ⟨h1, h.same h2, h2.mono (by simp)⟩
    unfold coMoves at hm
    cases g : sHas K.n i with
    | false => exact .inl rfl
    | true =>
      rw [g] at hm
      by_cases g0 : S.TS i.toNat 0 = 0
      · exact .inr (.inl g0)
      · by_cases g1 : S.TS i.toNat 0 = 10
        · exact .inr (.inr g1)
        · simp [g0, g1] at hm
  | true =>
    have hm' : sHas K.n i = true ∧ ¬ S.TS i.toNat 0 = 0 ∧ ¬ S.TS i.toNat 0 = 10 := by unfold coMoves at hm; simpa [and_assoc] using hm
    obtain ⟨hi, g0, g1⟩ := hm'
    have hi' : 0 ≤ i ∧ i < (K.n : Int) := by unfold sHas at hi; simpa using hi
    obtain ⟨j, rfl⟩ := Int.eq_ofNat_of_zero_le hi'.1
    have hj : j < K.n := by omega
    rw [Int.toNat_natCast] at g0 g1 ⊢
    have hpj := hp.th j hj
    simp only [Bool.true_and, if_true]
    unfold coGo
    by_cases q : S.TS j 0 < 10
    · simp only [if_pos q]
      exact co_step_in h hj rfl (by omega) fun W hf => coIn_any (h.same hf) hp hj (by omega)
    · simp only [if_neg q]
      exact co_step_out h hj rfl (by omega) fun W hf => coOut_any (h.same hf) hp hj (by omega)
end
end Go.Proofs.YteijjhahgabalaaGreat

/- A cohort lock: Ask, Leave, Count. -/
namespace Go.Proofs.YteijjhahgabalaaGreat
open Go.RowKit
def coAskS (K : CK) (S : CS) (i : Int) : CS := if kTurnOk K.n S.TS i 0 then { S with LS := upL S.LS (K.nd i.toNat) (fAsk (K.L (K.nd i.toNat)) (S.LS (K.nd i.toNat)) (K.sl i.toNat : Nat)), TS := spPut S.TS i.toNat 0 1 } else S
def coLeaveS (K : CK) (S : CS) (i : Int) : CS := { S with TS := kTurn K.n S.TS i 10 11 }
def coCountV (K : CK) (S : CS) (i : Int) : Int := if kTurnOk K.n S.TS i 10 then S.TS i.toNat 1 else 0
section
variable {w w' : World} {B : CB} {K : CK} {S : CS}
theorem coAsk_any (h : CoAt w B K S) (i : Int) : Calls Tryz.prog 219 #[.pointer (some ⟨B.cb, 0, none⟩), .int .i64 i] w fun e w' => e = .returned (.bool (kTurnOk K.n S.TS i 0)) ∧ CoAt w' B K (coAskS K S i) ∧ Frm (CZ B K) w w' := by
  have HH := Lib.hid (coHas h i)
  have hnot : ∀ (x : Bool) (w : World), (Op.unary .not (.bool x)).run Tryz.prog w = .ok (.bool (!x)) w := fun _ _ => rfl
  cases hi : sHas K.n i with
  | false =>
    have hr : kTurnOk K.n S.TS i 0 = false := by unfold kTurnOk; rw [hi]; rfl
    have hr2 : coAskS K S i = S := by unfold coAskS; rw [hr]; rfl
    rw [hr, hr2]
    rw [hi] at HH
    have H := Lib.hid h
    clear h hr hr2 hi
    go_enter Tryz.func219, Tryz.ntmps219
    go_wp2_with fail
    refine HH.out.mono ?_
    rintro e w' ⟨rfl, rfl⟩
    go_wp2
    go_ret
    exact ⟨rfl, H.out, Frm.refl _ _⟩
  | true =>
    have hi' : 0 ≤ i ∧ i < (K.n : Int) := by unfold sHas at hi; simpa using hi
    obtain ⟨th, rfl⟩ := Int.eq_ofNat_of_zero_le hi'.1
    have hj : th < K.n := by omega
    have c8 := h.box.cell (i := 8) rfl
    have j0 := h.p0 hj
    have l1 : (th : Int) < K.n := by omega
    have hn32 := h.n32
    rw [hi] at HH
    by_cases hq : S.TS th 0 = 0
    · have hr : kTurnOk K.n S.TS th 0 = true := by unfold kTurnOk; rw [hi, Int.toNat_natCast, hq]; rfl
      have hr2 : coAskS K S th = { S with LS := upL S.LS (K.nd th) (fAsk (K.L (K.nd th)) (S.LS (K.nd th)) (K.sl th : Nat)), TS := spPut S.TS th 0 1 } := by unfold coAskS; rw [hr, if_pos rfl, Int.toNat_natCast]
      rw [hr, hr2]
      rw [hq] at j0
      have HJ := Lib.hid hj
      have HV := Lib.hid (h.nd_lt hj)
      have HOF := Lib.hid (coOf h hj)
      have H := Lib.hid h
      clear h hr hr2 hi hi' hq hj
      go_enter Tryz.func219, Tryz.ntmps219
      go_wp2_with fail
      refine HH.out.mono ?_
      rintro e w' ⟨rfl, rfl⟩
      go_wp2_with fail
      refine HOF.out.mono ?_
      rintro e w1 ⟨rfl, hF⟩
      have hWX : Frm [] w1 (w1.alloc (.cells #[.pointer (some ⟨B.fb (K.nd th), 0, none⟩), .int .i64 (K.cn (K.nd th))] 203)) := (Frm.refl _ _).alloc _
      have HFW := Lib.hid (hF.trans hWX)
      have HC := Lib.hid (H.out.same (hF.trans hWX))
      clear hWX hF
      go_wp2_with fail
      generalize w1.alloc (.cells #[.pointer (some ⟨B.fb (K.nd th), 0, none⟩), .int .i64 (K.cn (K.nd th))] 203) = W at *
      refine (fAsk_any ((HC.out.loc _ HV.out)) ((K.sl th : Nat) : Int)).mono ?_
      rintro e w2 ⟨rfl, hK, hF⟩
      have HD := Lib.hid (HC.out.local HV.out (hF.mono (by simp)) hK)
      have HFD := Lib.hid (hF.mono (S' := CZ B K) (fun z hz => mem_CZ.2 (by
        simp at hz
        exact .inr (.inr (.inr (.inr ⟨_, HV.out, hz.symm⟩))))))
      clear hK hF
      have k0 := HD.out.p0 HJ.out
      have kz := HD.out.row.frozen
      have k8 := HD.out.box.cell (i := 8) rfl
      have HE := Lib.hid (HD.out.put th (t := 0) (by omega) 1)
      have HFE := Lib.hid (HFD.out.set ⟨B.cs, th * 4, none⟩ (.int .i64 1) (.inl (mem_CZ.2 (.inl rfl))))
      go_wp2
      go_ret
      exact ⟨rfl, HE.out, (HFW.out.mono (by simp)).trans HFE.out⟩
    · have hr : kTurnOk K.n S.TS th 0 = false := by unfold kTurnOk; rw [hi, Int.toNat_natCast]; simpa using hq
      have hr2 : coAskS K S th = S := by unfold coAskS; rw [hr]; rfl
      rw [hr, hr2]
      have d1 : (S.TS th 0 != 0) = true := by simpa using hq
      have H := Lib.hid h
      generalize S.TS th 0 = q at *
      clear h hr hr2 hi hi' hq hj
      go_enter Tryz.func219, Tryz.ntmps219
      go_wp2_with fail
      refine HH.out.mono ?_
      rintro e w' ⟨rfl, rfl⟩
      go_wp2
      go_ret
      exact ⟨rfl, H.out, Frm.refl _ _⟩
theorem coLeave_any (h : CoAt w B K S) (i : Int) : Calls Tryz.prog 221 #[.pointer (some ⟨B.cb, 0, none⟩), .int .i64 i] w fun e w' => e = .returned (.bool (kTurnOk K.n S.TS i 10)) ∧ CoAt w' B K (coLeaveS K S i) ∧ Frm (CZ B K) w w' := by
  have HS := Lib.hid (coSpot h i)
  have fd := spotPcG
  cases hq : kTurnOk K.n S.TS i 10 with
  | false =>
    have hr2 : coLeaveS K S i = S := by unfold coLeaveS kTurn; rw [hq]; rfl
    rw [hr2]
    have hv : ∃ a b c p : Int, (p != 10) = true ∧ spV K.n S.TS i = .agg #[.int .i64 p, .int .i64 a, .int .i64 b, .int .i64 c] := by
      unfold spV
      by_cases hh : sHas K.n i = true
      · rw [if_pos hh]; exact ⟨_, _, _, _, by unfold kTurnOk at hq; rw [hh] at hq; simpa using hq, rfl⟩
      · rw [if_neg hh]; exact ⟨0, 0, 0, 0, rfl, rfl⟩
    obtain ⟨a, b, c, p, hp, hv⟩ := hv
    rw [hv] at HS
    have H := Lib.hid h
    clear hv h hr2 hq
    go_enter Tryz.func221, Tryz.ntmps221
    go_wp2_with fail
    refine HS.out.mono ?_
    rintro e w1 ⟨rfl, hF⟩
    have HC := Lib.hid (H.out.same hF)
    have HF := Lib.hid hF
    clear hF
    go_wp2
    go_ret
    exact ⟨rfl, HC.out, HF.out.mono (by simp)⟩
  | true =>
    have hq' : sHas K.n i = true ∧ S.TS i.toNat 0 = 10 := by unfold kTurnOk at hq; simpa using hq
    have hi' : 0 ≤ i ∧ i < (K.n : Int) := by have := hq'.1; unfold sHas at this; simpa using this
    obtain ⟨th, rfl⟩ := Int.eq_ofNat_of_zero_le hi'.1
    have hj : th < K.n := by omega
    have hr2 : coLeaveS K S th = { S with TS := spPut S.TS th 0 11 } := by unfold coLeaveS kTurn; rw [hq, if_pos rfl, Int.toNat_natCast]
    rw [hr2]
    have hr : spV K.n S.TS th = .agg #[.int .i64 10, .int .i64 (S.TS th 1), .int .i64 (S.TS th 2), .int .i64 (S.TS th 3)] := by unfold spV; rw [hq'.1, if_pos rfl, ← hq'.2, Int.toNat_natCast]
    rw [hr] at HS
    have HJ := Lib.hid hj
    have l1 : (th : Int) < K.n := by omega
    have hn32 := h.n32
    have H := Lib.hid h
    clear h hr hr2 hq hq' hi' hj
    go_enter Tryz.func221, Tryz.ntmps221
    go_wp2_with fail
    refine HS.out.mono ?_
    rintro e w1 ⟨rfl, hF⟩
    have hC := H.out.same hF
    have k0 := hC.p0 HJ.out
    have kz := hC.row.frozen
    have k8 := hC.box.cell (i := 8) rfl
    have HE := Lib.hid (hC.put th (t := 0) (by omega) 11)
    have HFE := Lib.hid ((hF.mono (S' := CZ B K) (by simp)).set ⟨B.cs, th * 4, none⟩ (.int .i64 11) (.inl (mem_CZ.2 (.inl rfl))))
    clear hC hF
    go_wp2
    go_ret
    exact ⟨rfl, HE.out, HFE.out⟩
theorem coCount_any (h : CoAt w B K S) (i : Int) : Calls Tryz.prog 220 #[.pointer (some ⟨B.cb, 0, none⟩), .int .i64 i] w fun e w' => e = .returned (.int .i64 (coCountV K S i)) ∧ Frm [] w w' := by
  have HS := Lib.hid (coSpot h i)
  unfold coCountV
  cases hq : kTurnOk K.n S.TS i 10 with
  | false =>
    have hv : ∃ a b c p : Int, (p != 10) = true ∧ spV K.n S.TS i = .agg #[.int .i64 p, .int .i64 a, .int .i64 b, .int .i64 c] := by
      unfold spV
      by_cases hh : sHas K.n i = true
      · rw [if_pos hh]; exact ⟨_, _, _, _, by unfold kTurnOk at hq; rw [hh] at hq; simpa using hq, rfl⟩
      · rw [if_neg hh]; exact ⟨0, 0, 0, 0, rfl, rfl⟩
    obtain ⟨a, b, c, p, hp, hv⟩ := hv
    rw [hv] at HS
    clear hv h hq
    go_enter Tryz.func220, Tryz.ntmps220
    go_wp2_with fail
    refine HS.out.mono ?_
    rintro e w1 ⟨rfl, hF⟩
    have HF := Lib.hid (hF.alloc (.cells #[.int .i64 p, .int .i64 a, .int .i64 b, .int .i64 c] 138))
    clear hF
    go_wp2
    go_ret
    exact ⟨rfl, HF.out⟩
  | true =>
    have hq' : sHas K.n i = true ∧ S.TS i.toNat 0 = 10 := by unfold kTurnOk at hq; simpa using hq
    have hr : spV K.n S.TS i = .agg #[.int .i64 10, .int .i64 (S.TS i.toNat 1), .int .i64 (S.TS i.toNat 2), .int .i64 (S.TS i.toNat 3)] := by unfold spV; rw [hq'.1, if_pos rfl, ← hq'.2]
    rw [hr] at HS
    generalize S.TS i.toNat 1 = x at *
    generalize S.TS i.toNat 2 = y at *
    generalize S.TS i.toNat 3 = z at *
    clear h hr hq hq'
    go_enter Tryz.func220, Tryz.ntmps220
    go_wp2_with fail
    refine HS.out.mono ?_
    rintro e w1 ⟨rfl, hF⟩
    have HF := Lib.hid (hF.alloc (.cells #[.int .i64 10, .int .i64 x, .int .i64 y, .int .i64 z] 138))
    clear hF
    go_wp2
    go_ret
    exact ⟨rfl, HF.out⟩
end
end Go.Proofs.YteijjhahgabalaaGreat

/- The contracts of package locks, for a cohort: Spot, State, Reads, Count, Ask, Leave, Step. -/
namespace Go.Proofs.YteijjhahgabalaaGreat
open Go.RowKit
structure LoAt (w : World) (lk : Nat) (B : CB) (K : CK) (S : CS) : Prop where
  box : HAt w lk [.int .i64 6, .int .i64 K.n, .iface 171 (.agg #[.iface 167 (.pointer (some ⟨B.cb, 0, none⟩))])] 119
  co : CoAt w B K S
/-- what a thread is at -/
def coPc (K : CK) (S : CS) (i : Int) : Int := if sHas K.n i then S.TS i.toNat 0 else 0
def stOf (pc : Int) : Int := if pc = 0 then 0 else if pc < 10 then 1 else if pc = 10 then 2 else 3
section
variable {w w' : World} {lk : Nat} {B : CB} {K : CK} {S S' : CS}
theorem LoAt.next (h : LoAt w lk B K S) (hf : Frm (CZ B K) w w') (hc : CoAt w' B K S') : LoAt w' lk B K S' := ⟨h.box.frm hf (h.co.mut.not h.box), hc⟩
theorem LoAt.same (h : LoAt w lk B K S) (hf : Frm [] w w') : LoAt w' lk B K S := ⟨h.box.frm hf (by simp), h.co.same hf⟩
theorem loThreads (h : LoAt w lk B K S) : Calls Tryz.prog 41 #[.pointer (some ⟨lk, 0, none⟩)] w fun e w' => e = .returned (.int .i64 K.n) ∧ w = w' := by
  have c1 := h.box.cell (i := 1) rfl
  clear h
  go_enter Tryz.func41, Tryz.ntmps41
  go_wp2
  go_ret
  exact ⟨rfl, rfl⟩
theorem loHas (h : LoAt w lk B K S) (i : Int) : Calls Tryz.prog 59 #[.pointer (some ⟨lk, 0, none⟩), .int .i64 i] w fun e w' => e = .returned (.bool (sHas K.n i)) ∧ w = w' := by
  have HT := Lib.hid (loThreads h)
  clear h
  by_cases h1 : 0 ≤ i
  · have d1 : decide (0 ≤ i) = true := by simpa using h1
    have e : sHas K.n i = decide (i < (K.n : Int)) := by unfold sHas; simp [h1]
    rw [e]
    cases hd : decide (i < (K.n : Int))
    all_goals
      go_enter Tryz.func59, Tryz.ntmps59
      go_wp2_with fail
      refine HT.out.mono ?_
      rintro e w' ⟨rfl, rfl⟩
      go_wp2
      go_ret
      exact ⟨rfl, rfl⟩
  · have d1 : decide (0 ≤ i) = false := by simpa using h1
    have e : sHas K.n i = false := by unfold sHas; simp; omega
    rw [e]
    go_enter Tryz.func59, Tryz.ntmps59
    go_wp2
    go_ret
    exact ⟨rfl, rfl⟩
theorem loSpot (h : LoAt w lk B K S) (i : Int) : Calls Tryz.prog 60 #[.pointer (some ⟨lk, 0, none⟩), .int .i64 i] w fun e w' => e = .returned (spV K.n S.TS i) ∧ Frm [] w w' := by
  have hF0 : Frm [] w (w.alloc (.cells #[.int .i64 0, .int .i64 0, .int .i64 0, .int .i64 0] 138)) := (Frm.refl _ _).alloc _
  have hB : HAt (w.alloc (.cells #[.int .i64 0, .int .i64 0, .int .i64 0, .int .i64 0] 138)) w.heap.size [.int .i64 0, .int .i64 0, .int .i64 0, .int .i64 0] 138 := HAt.new w _ _
  have HH := Lib.hid (loHas (h.same hF0) i)
  have hnot : ∀ (x : Bool) (w : World), (Op.unary .not (.bool x)).run Tryz.prog w = .ok (.bool (!x)) w := fun _ _ => rfl
  cases hi : sHas K.n i with
  | false =>
    have hr : spV K.n S.TS i = .agg #[.int .i64 0, .int .i64 0, .int .i64 0, .int .i64 0] := by unfold spV; rw [hi]; rfl
    rw [hr]
    rw [hi] at HH
    clear h hr hi hF0 hB
    go_enter Tryz.func60, Tryz.ntmps60
    go_wp2_with fail
    refine HH.out.mono ?_
    rintro e w' ⟨rfl, rfl⟩
    go_wp2_with fail
    exact bodyPost_ret (v := .agg #[.int .i64 0, .int .i64 0, .int .i64 0, .int .i64 0]) (by simp [results, Tryz.results60, go_sem]) rfl ⟨rfl, (Frm.refl _ _).alloc _⟩
  | true =>
    rw [hi] at HH
    obtain ⟨a, b, c, d, hv⟩ := spV_form K.n S.TS i
    have hfin : ∀ w1 : World, Frm [] (w.alloc (.cells #[.int .i64 0, .int .i64 0, .int .i64 0, .int .i64 0] 138)) w1 → HAt ((((w1.setCell ⟨w.heap.size, 0, none⟩ (.int .i64 a)).setCell ⟨w.heap.size, 1, none⟩ (.int .i64 b)).setCell ⟨w.heap.size, 2, none⟩ (.int .i64 c)).setCell ⟨w.heap.size, 3, none⟩ (.int .i64 d)) w.heap.size [.int .i64 a, .int .i64 b, .int .i64 c, .int .i64 d] 138 ∧ Frm [] w ((((w1.setCell ⟨w.heap.size, 0, none⟩ (.int .i64 a)).setCell ⟨w.heap.size, 1, none⟩ (.int .i64 b)).setCell ⟨w.heap.size, 2, none⟩ (.int .i64 c)).setCell ⟨w.heap.size, 3, none⟩ (.int .i64 d)) := fun w1 hF =>
      ⟨((((hB.frm hF (by simp)).set 0 (.int .i64 a)).set 1 (.int .i64 b)).set 2 (.int .i64 c)).set 3 (.int .i64 d), ((((hF0.trans hF).set ⟨w.heap.size, 0, none⟩ (.int .i64 a) (.inr (Nat.le_refl _))).set ⟨w.heap.size, 1, none⟩ (.int .i64 b) (.inr (Nat.le_refl _))).set ⟨w.heap.size, 2, none⟩ (.int .i64 c) (.inr (Nat.le_refl _))).set ⟨w.heap.size, 3, none⟩ (.int .i64 d) (.inr (Nat.le_refl _))⟩
    have HB0 := Lib.hid hB
    have HFIN := Lib.hid hfin
    have h2 := h.same hF0
    have c2 := h2.box.cell (i := 2) rfl
    have hS := coSpot h2.co i
    rw [hv] at hS ⊢
    have HS := Lib.hid hS
    clear hfin h h2 hS hv hB hF0 hi
    go_enter Tryz.func60, Tryz.ntmps60
    go_wp2_with fail
    refine HH.out.mono ?_
    rintro e w' ⟨rfl, rfl⟩
    go_wp2_with (go_at_call 222; refine HS.out.mono ?_; rintro e w1 ⟨rfl, hF⟩; have hB1 := HB0.out.frm hF (by simp); have b0 := hB1.cell (i := 0) rfl; have b1 := hB1.cell (i := 1) rfl; have b2 := hB1.cell (i := 2) rfl; have b3 := hB1.cell (i := 3) rfl; have bz := hB1.frozen; have hlt := hB1.lt; have HF := Lib.hid hF; clear hF hB1)
    have HW2 := Lib.hid (HFIN.out w1 HF.out)
    generalize (((w1.setCell ⟨w.heap.size, 0, none⟩ (.int .i64 a)).setCell ⟨w.heap.size, 1, none⟩ (.int .i64 b)).setCell ⟨w.heap.size, 2, none⟩ (.int .i64 c)).setCell ⟨w.heap.size, 3, none⟩ (.int .i64 d) = W2 at *
    have k0 := HW2.out.1.cell (i := 0) rfl
    have k1 := HW2.out.1.cell (i := 1) rfl
    have k2 := HW2.out.1.cell (i := 2) rfl
    have k3 := HW2.out.1.cell (i := 3) rfl
    exact bodyPost_ret (v := .agg #[.int .i64 a, .int .i64 b, .int .i64 c, .int .i64 d]) (by simp [results, Tryz.results60, go_sem, k0, k1, k2, k3]) rfl ⟨rfl, HW2.out.2⟩
theorem spV_pc (K : CK) (S : CS) (i : Int) : ∃ a b c : Int, spV K.n S.TS i = .agg #[.int .i64 (coPc K S i), .int .i64 a, .int .i64 b, .int .i64 c] := by
  unfold spV coPc
  by_cases hh : sHas K.n i = true
  · rw [if_pos hh, if_pos hh]; exact ⟨_, _, _, rfl⟩
  · rw [if_neg hh, if_neg hh]; exact ⟨0, 0, 0, rfl⟩
theorem loState (h : LoAt w lk B K S) (i : Int) : Calls Tryz.prog 46 #[.pointer (some ⟨lk, 0, none⟩), .int .i64 i] w fun e w' => e = .returned (.int .i64 (stOf (coPc K S i))) ∧ Frm [] w w' := by
  obtain ⟨a, b, c, hv⟩ := spV_pc K S i
  have hS := loSpot h i
  rw [hv] at hS
  have HS := Lib.hid hS
  have fd := spotPcG
  unfold stOf
  generalize coPc K S i = p at *
  clear h hv hS
  by_cases p0 : p = 0
  · subst p0
    simp only [if_true]
    go_enter Tryz.func46, Tryz.ntmps46
    go_wp2_with fail
    refine HS.out.mono ?_
    rintro e w1 ⟨rfl, hF⟩
    have HF := Lib.hid hF
    clear hF
    go_wp2
    go_ret
    exact ⟨rfl, HF.out⟩
  · have d0 : (p == 0) = false := by simpa using p0
    rw [if_neg p0]
    by_cases p1 : p < 10
    · have d1 : decide (p < 10) = true := by simpa using p1
      rw [if_pos p1]
      clear p0 p1
      go_enter Tryz.func46, Tryz.ntmps46
      go_wp2_with fail
      refine HS.out.mono ?_
      rintro e w1 ⟨rfl, hF⟩
      have HF := Lib.hid hF
      clear hF
      go_wp2
      go_ret
      exact ⟨rfl, HF.out⟩
    · have d1 : decide (p < 10) = false := by simpa using p1
      rw [if_neg p1]
      by_cases p2 : p = 10
      · subst p2
        simp only [if_true]
        clear p0 p1
        go_enter Tryz.func46, Tryz.ntmps46
        go_wp2_with fail
        refine HS.out.mono ?_
        rintro e w1 ⟨rfl, hF⟩
        have HF := Lib.hid hF
        clear hF
        go_wp2
        go_ret
        exact ⟨rfl, HF.out⟩
      · have d2 : (p == 10) = false := by simpa using p2
        rw [if_neg p2]
        clear p0 p1 p2
        go_enter Tryz.func46, Tryz.ntmps46
        go_wp2_with fail
        refine HS.out.mono ?_
        rintro e w1 ⟨rfl, hF⟩
        have HF := Lib.hid hF
        clear hF
        go_wp2
        go_ret
        exact ⟨rfl, HF.out⟩
theorem loReads (h : LoAt w lk B K S) (i : Int) : Calls Tryz.prog 47 #[.pointer (some ⟨lk, 0, none⟩), .int .i64 i] w fun e w' => e = .returned (.bool false) ∧ Frm [] w w' := by
  have HS := Lib.hid (loState h i)
  have H := Lib.hid h
  generalize stOf (coPc K S i) = p at *
  have hmd : ∀ W, Calls Tryz.prog 11 #[.int .i64 6] W fun e w' => e = .returned (.bool false) ∧ W = w' := by
    intro W
    go_enter Tryz.func11, Tryz.ntmps11
    go_wp2
    go_ret
    exact ⟨rfl, rfl⟩
  have HM := Lib.hid hmd
  clear h hmd
  cases hp : (p != 0)
  · go_enter Tryz.func47, Tryz.ntmps47
    go_wp2_with fail
    refine HS.out.mono ?_
    rintro e w1 ⟨rfl, hF⟩
    have HF := Lib.hid hF
    clear hF
    go_wp2
    go_ret
    exact ⟨rfl, HF.out⟩
  · go_enter Tryz.func47, Tryz.ntmps47
    go_wp2_with fail
    refine HS.out.mono ?_
    rintro e w1 ⟨rfl, hF⟩
    have HF := Lib.hid hF
    have c0 := (H.out.same hF).box.cell (i := 0) rfl
    clear hF
    go_wp2_with fail
    refine (HM.out _).mono ?_
    rintro e w' ⟨rfl, rfl⟩
    go_wp2
    go_ret
    exact ⟨rfl, HF.out⟩
theorem kt_no {n : Nat} {T : Nat → Nat → Int} {i pc : Int} (hi : sHas n i = false) : kTurnOk n T i pc = false := by unfold kTurnOk; rw [hi]; rfl
theorem cm_no {K : CK} {S : CS} {i : Int} (hi : sHas K.n i = false) : coMoves K S i = false := by unfold coMoves; rw [hi]; rfl
theorem ctAsk (h : CoAt w B K S) (i : Int) : Calls Tryz.prog 232 #[.agg #[.iface 167 (.pointer (some ⟨B.cb, 0, none⟩))], .int .i64 i, .bool false] w fun e w' => e = .returned (.bool (kTurnOk K.n S.TS i 0)) ∧ CoAt w' B K (coAskS K S i) ∧ Frm (CZ B K) w w' := by
  have hF : Frm [] w (w.alloc (.cells #[.iface 167 (.pointer (some ⟨B.cb, 0, none⟩))] 171)) := (Frm.refl _ _).alloc _
  have HC := Lib.hid (coAsk_any (h.same hF) i)
  have HF := Lib.hid hF
  have hnot : ∀ (x : Bool) (w : World), (Op.unary .not (.bool x)).run Tryz.prog w = .ok (.bool (!x)) w := fun _ _ => rfl
  clear h hF
  go_enter Tryz.func232, Tryz.ntmps232
  go_wp2_with (go_at_call 219; refine HC.out.mono ?_; rintro e w1 ⟨rfl, hK, hF⟩; have HK := Lib.hid hK; have HF1 := Lib.hid ((HF.out.mono (S' := CZ B K) (by simp)).trans hF); clear hK hF)
  go_ret
  exact ⟨rfl, HK.out, HF1.out⟩
theorem loAsk (h : LoAt w lk B K S) (i : Int) : Calls Tryz.prog 44 #[.pointer (some ⟨lk, 0, none⟩), .int .i64 i, .bool false] w fun e w' => e = .returned (.bool (kTurnOk K.n S.TS i 0)) ∧ LoAt w' lk B K (coAskS K S i) ∧ Frm (CZ B K) w w' := by
  have HH := Lib.hid (loHas h i)
  have H := Lib.hid h
  have HC := Lib.hid (ctAsk h.co i)
  have hnot : ∀ (x : Bool) (w : World), (Op.unary .not (.bool x)).run Tryz.prog w = .ok (.bool (!x)) w := fun _ _ => rfl
  have c2 := h.box.cell (i := 2) rfl
  cases hi : sHas K.n i with
  | false =>
    rw [hi] at HH
    have hz := (show kTurnOk K.n S.TS i 0 = false ∧ coAskS K S i = S from ⟨kt_no hi, by unfold coAskS; rw [kt_no hi]; rfl⟩)
    rw [hz.1, hz.2]
    clear h HC c2 hi hz
    go_enter Tryz.func44, Tryz.ntmps44
    go_wp2_with fail
    refine HH.out.mono ?_
    rintro e w' ⟨rfl, rfl⟩
    go_wp2
    go_ret
    exact ⟨rfl, H.out, Frm.refl _ _⟩
  | true =>
    rw [hi] at HH
    clear h hi
    go_enter Tryz.func44, Tryz.ntmps44
    go_wp2_with fail
    refine HH.out.mono ?_
    rintro e w' ⟨rfl, rfl⟩
    go_wp2_with (go_at_call 232; refine HC.out.mono ?_; rintro e w1 ⟨rfl, hK, hF⟩; have HK := Lib.hid (H.out.next hF hK); have HF := Lib.hid hF; clear hK hF)
    go_ret
    exact ⟨rfl, HK.out, HF.out⟩
theorem loLeave (h : LoAt w lk B K S) (i : Int) : Calls Tryz.prog 45 #[.pointer (some ⟨lk, 0, none⟩), .int .i64 i] w fun e w' => e = .returned (.bool (kTurnOk K.n S.TS i 10)) ∧ LoAt w' lk B K (coLeaveS K S i) ∧ Frm (CZ B K) w w' := by
  have HH := Lib.hid (loHas h i)
  have H := Lib.hid h
  have HC := Lib.hid (coLeave_any h.co i)
  have hnot : ∀ (x : Bool) (w : World), (Op.unary .not (.bool x)).run Tryz.prog w = .ok (.bool (!x)) w := fun _ _ => rfl
  have c2 := h.box.cell (i := 2) rfl
  cases hi : sHas K.n i with
  | false =>
    rw [hi] at HH
    have hz := (show kTurnOk K.n S.TS i 10 = false ∧ coLeaveS K S i = S from ⟨kt_no hi, by unfold coLeaveS kTurn; rw [kt_no hi]; rfl⟩)
    rw [hz.1, hz.2]
    clear h HC c2 hi hz
    go_enter Tryz.func45, Tryz.ntmps45
    go_wp2_with fail
    refine HH.out.mono ?_
    rintro e w' ⟨rfl, rfl⟩
    go_wp2
    go_ret
    exact ⟨rfl, H.out, Frm.refl _ _⟩
  | true =>
    rw [hi] at HH
    clear h hi
    go_enter Tryz.func45, Tryz.ntmps45
    go_wp2_with fail
    refine HH.out.mono ?_
    rintro e w' ⟨rfl, rfl⟩
    go_wp2_with (go_at_call 221; refine HC.out.mono ?_; rintro e w1 ⟨rfl, hK, hF⟩; have HK := Lib.hid (H.out.next hF hK); have HF := Lib.hid hF; clear hK hF)
    go_ret
    exact ⟨rfl, HK.out, HF.out⟩
theorem loStep (h : LoAt w lk B K S) (hp : CoPc K S) (i : Int) : Calls Tryz.prog 42 #[.pointer (some ⟨lk, 0, none⟩), .int .i64 i] w fun e w' => e = .returned (.bool (coStepR K S i)) ∧ LoAt w' lk B K (coStepS K S i) ∧ Frm (CZ B K) w w' := by
  have HH := Lib.hid (loHas h i)
  have H := Lib.hid h
  have HC := Lib.hid (coStep_any h.co hp i)
  have hnot : ∀ (x : Bool) (w : World), (Op.unary .not (.bool x)).run Tryz.prog w = .ok (.bool (!x)) w := fun _ _ => rfl
  have c2 := h.box.cell (i := 2) rfl
  cases hi : sHas K.n i with
  | false =>
    rw [hi] at HH
    have hz := (show coStepR K S i = false ∧ coStepS K S i = S from ⟨by unfold coStepR; rw [cm_no hi]; rfl, by unfold coStepS; rw [cm_no hi]; rfl⟩)
    rw [hz.1, hz.2]
    clear h HC c2 hi hz hp
    go_enter Tryz.func42, Tryz.ntmps42
    go_wp2_with fail
    refine HH.out.mono ?_
    rintro e w' ⟨rfl, rfl⟩
    go_wp2
    go_ret
    exact ⟨rfl, H.out, Frm.refl _ _⟩
  | true =>
    rw [hi] at HH
    clear h hi
    go_enter Tryz.func42, Tryz.ntmps42
    go_wp2_with fail
    refine HH.out.mono ?_
    rintro e w' ⟨rfl, rfl⟩
    go_wp2_with (go_at_call 223; refine HC.out.mono ?_; rintro e w1 ⟨rfl, hK, hF⟩; have HK := Lib.hid (H.out.next hF hK); have HF := Lib.hid hF; clear hK hF)
    go_ret
    exact ⟨rfl, HK.out, HF.out⟩
theorem loCount (h : LoAt w lk B K S) (i : Int) : Calls Tryz.prog 43 #[.pointer (some ⟨lk, 0, none⟩), .int .i64 i] w fun e w' => e = .returned (.int .i64 (coCountV K S i)) ∧ LoAt w' lk B K (S) ∧ Frm (CZ B K) w w' := by
  have HH := Lib.hid (loHas h i)
  have H := Lib.hid h
  have HC := Lib.hid (coCount_any h.co i)
  have hnot : ∀ (x : Bool) (w : World), (Op.unary .not (.bool x)).run Tryz.prog w = .ok (.bool (!x)) w := fun _ _ => rfl
  have c2 := h.box.cell (i := 2) rfl
  cases hi : sHas K.n i with
  | false =>
    rw [hi] at HH
    have hz := (show coCountV K S i = 0 ∧ True from ⟨by unfold coCountV; rw [kt_no hi]; rfl, trivial⟩)
    rw [hz.1]
    clear h HC c2 hi hz
    go_enter Tryz.func43, Tryz.ntmps43
    go_wp2_with fail
    refine HH.out.mono ?_
    rintro e w' ⟨rfl, rfl⟩
    go_wp2
    go_ret
    exact ⟨rfl, H.out, Frm.refl _ _⟩
  | true =>
    rw [hi] at HH
    clear h hi
    go_enter Tryz.func43, Tryz.ntmps43
    go_wp2_with fail
    refine HH.out.mono ?_
    rintro e w' ⟨rfl, rfl⟩
    go_wp2_with (go_at_call 220; refine HC.out.mono ?_; rintro e w1 ⟨rfl, hF⟩; have HK := Lib.hid (H.out.same hF); have HF := Lib.hid (hF.mono (S' := CZ B K) (by simp)); clear hF)
    go_ret
    exact ⟨rfl, HK.out, HF.out⟩
end
end Go.Proofs.YteijjhahgabalaaGreat

/- A cohort lock while it is made. -/
namespace Go.Proofs.YteijjhahgabalaaGreat
open Go.RowKit
theorem nodeInfo : (Tryz.prog.info? 203).map (fun i => (i.zero, i.size, i.bytes)) = some (some (.agg #[.pointer none, .int .i64 0]), 2, 16) := by kernel_rfl
/-- the make of the local lock of node v, of an arena as it is then -/
def coMk (lk par : Nat) (T E : List Int) (v : Nat) (A : AR) : FK := ⟨lk, par, A.taken + 1, max 1 (T.count (E[v]?.getD 0))⟩
/-- the arena behind the making of v nodes -/
def coArs (lk par : Nat) (T E : List Int) (A : AR) : Nat → AR
  | 0 => A
  | v + 1 => { (fA0 (coMk lk par T E v (coArs lk par T E A v)) (coArs lk par T E A v)) with taken := (fA0 (coMk lk par T E v (coArs lk par T E A v)) (coArs lk par T E A v)).taken + 1 }
/-- the nodes' cells -/
def nodC (n : Nat) (fb cn : Nat → Nat) : List Value := (List.range (2 * n)).map fun j => if j % 2 = 0 then .pointer (some ⟨fb (j / 2), 0, none⟩) else .int .i64 (cn (j / 2))
theorem nodC_get {n : Nat} {fb cn : Nat → Nat} {v : Nat} (hv : v < n) : (nodC n fb cn)[v * 2]? = some (.pointer (some ⟨fb v, 0, none⟩)) ∧ (nodC n fb cn)[v * 2 + 1]? = some (.int .i64 (cn v)) := by
  unfold nodC
  constructor
  · rw [List.getElem?_map, List.getElem?_range (by omega)]
    simp only [Option.map_some]
    rw [show v * 2 % 2 = 0 by omega, if_pos rfl, show v * 2 / 2 = v by omega]
  · rw [List.getElem?_map, List.getElem?_range (by omega)]
    simp only [Option.map_some]
    rw [show (v * 2 + 1) % 2 = 1 by omega, if_neg (by omega), show (v * 2 + 1) / 2 = v by omega]
theorem nodC_succ (n : Nat) (fb cn fb' cn' : Nat → Nat) (h : ∀ u, u < n → fb' u = fb u ∧ cn' u = cn u) : nodC (n + 1) fb' cn' = nodC n fb cn ++ [.pointer (some ⟨fb' n, 0, none⟩), .int .i64 (cn' n)] := by
  unfold nodC
  rw [show 2 * (n + 1) = 2 * n + 1 + 1 by omega]
  simp only [List.range_succ, List.map_append, List.map_cons, List.map_nil, List.append_assoc, List.cons_append, List.nil_append]
  rw [show 2 * n / 2 = n by omega, show 2 * n % 2 = 0 by omega, show (2 * n + 1) / 2 = n by omega, show (2 * n + 1) % 2 = 1 by omega]
  simp only [if_true, Nat.one_ne_zero, if_false]
  congr 1
  apply List.map_congr_left
  intro j hj
  have hj' := List.mem_range.1 hj
  have := h (j / 2) (by omega)
  rw [this.1, this.2]
theorem cell_two_new (w : World) (a b : Value) (T : TypeId) : ∀ (j : Nat) (u : Value), [a, b][j]? = some u → (w.alloc (.cells #[a, b] T)).cell? ((⟨w.heap.size, 0, none⟩ : Addr).add j) = some u := by
  intro j u hu
  have h := HAt.new w #[a, b] T
  have e : (⟨w.heap.size, 0, none⟩ : Addr).add j = ⟨w.heap.size, j, none⟩ := by
    unfold Addr.add
    split
    · rename_i h0; subst h0; rfl
    · simp
  rw [e]
  exact h.cell hu
/-- blocks of other types are not among Z -/
def Oth (w : World) (Z : List Nat) : Prop := ∀ z ∈ Z, ∃ vs T, HAt w z vs T ∧ (T = 203 ∨ T = 201 ∨ T = 136)
theorem Oth.not {w : World} {Z : List Nat} (h : Oth w Z) {b : Nat} {vs : List Value} {T : TypeId} (hb : HAt w b vs T) (h1 : T ≠ 203 := by decide) (h2 : T ≠ 201 := by decide) (h3 : T ≠ 136 := by decide) : b ∉ Z := by
  intro hm
  obtain ⟨us, U, hu, ht⟩ := h b hm
  refine absurd rfl (hb.differ hu (fun e => ?_))
  subst e
  rcases ht with e | e | e
  · exact h1 e
  · exact h2 e
  · exact h3 e
theorem ArAt.oth {w w' : World} {ab wb : Nat} {A : AR} (h : ArAt w ab wb A) {Z : List Nat} (hf : Frm Z w w') (hz : Oth w Z) : ArAt w' ab wb A := h.frm hf (hz.not h.box) (hz.not h.row)
theorem FlAt.oth {w w' : World} {fb lb sb ab wb : Nat} {A : AR} {S : Nat → Nat → Int} {K : FK} (h : FlAt w fb lb sb ab wb A S K) {Z : List Nat} (hf : Frm Z w w') (hz : Oth w Z) : FlAt w' fb lb sb ab wb A S K := by
  obtain ⟨_, h1⟩ := h.fbox
  obtain ⟨_, h2⟩ := h.srow
  obtain ⟨_, T, h3, t1, t2, t3, t4, t5, t6, t7, t8⟩ := h.lbox
  exact h.re hf (hz.not h1) (hz.not h3 t6 t5 t7) (hz.not h2) (h.ar.oth hf hz)
theorem IR.oth {w w' : World} {g : Nat} {v : Value} {zs : List Int} (h : IR w g v zs) {Z : List Nat} (hf : Frm Z w w') (hz : Oth w Z) : IR w' g v zs := by
  have h0 := h
  obtain ⟨_, _, _, hh, _⟩ := h
  exact h0.frm hf (hz.not hh)
theorem TbF.keep {w w' : World} {tb : Nat} {P T : List Int} (h : TbF w tb P T) {Z : List Nat} (hf : Frm Z w w') (hz : Oth w Z) (ht : tb ∉ Z) : TbF w' tb P T := by
  obtain ⟨vp, vt, vup, vnode, vslot, vm, gt, gn, gs, gm, h1, h2, h3, h4, h5⟩ := h
  exact ⟨vp, vt, vup, vnode, vslot, vm, gt, gn, gs, gm, h1.frm hf ht, h2.oth hf hz, h3.oth hf hz, h4.oth hf hz, h5.oth hf hz⟩
def updN (f : Nat → Nat) (v x : Nat) : Nat → Nat := fun u => if u = v then x else f u
/-- none of the blocks that turn was there -/
def FreshB (n : Nat) (B : CB) (K : CK) : Prop := n ≤ B.cs ∧ n ≤ B.gs ∧ ∀ u, u < K.E → n ≤ B.sb u
theorem FreshB.mono {n m : Nat} {B : CB} {K : CK} (h : FreshB n B K) (hm : m ≤ n) : FreshB m B K := ⟨Nat.le_trans hm h.1, Nat.le_trans hm h.2.1, fun u hu => Nat.le_trans hm (h.2.2 u hu)⟩
/-- a cohort lock, v of whose nodes are made -/
structure CoN (w : World) (B : CB) (K : CK) (v : Nat) (A : AR) (vn : Value) (B0 bp : Nat) : Prop where
  box : HAt w B.cb [.pointer (some ⟨B.ab, 0, none⟩), .pointer (some ⟨B.tb, 0, none⟩), .int .i64 K.gk, .int .i64 K.lk, .int .i64 K.par, .int .i64 K.bud, .pointer (some ⟨B.gf, 0, none⟩), vn, .slice (some ⟨B.cs, 0, none⟩) K.n K.n] 201
  tab : TbF w B.tb K.P K.T
  glo : FlAt w B.gf B.gl B.gs B.ab B.wb A (fS0 K.G) K.G
  nod : w.ownsRow B0 203 2 vn v (nodC v B.fb K.cn)
  loc : ∀ u, u < v → FlAt w (B.fb u) (B.lb u) (B.sb u) B.ab B.wb A (fS0 (K.L u)) (K.L u)
  row : HAt w B.cs (spC K.n fun _ _ => 0) 138
  dif : B.cs ≠ B.gs ∧ (∀ u, u < v → B.sb u ≠ B.cs ∧ B.sb u ≠ B.gs) ∧ ∀ a b, a < v → b < v → B.sb a = B.sb b → a = b
  pair : HAt w bp [.int .i64 K.gk, .int .i64 K.lk, .int .i64 K.par, .int .i64 K.bud] 42
  lt : B.cb < B0
  new : bp ≤ B.cs + 1 ∧ bp ≤ B.gs + 1 ∧ ∀ u, u < v → bp ≤ B.sb u + 1
section
variable {w w' w1 : World} {B : CB} {K : CK} {v B0 bp : Nat} {A A' : AR} {vn v' : Value}
theorem CoN.mutA (h : CoN w B K v A vn B0 bp) : Mut w [B.ab, B.wb] := by
  intro z hz
  simp at hz
  rcases hz with e | e
  · subst e; exact ⟨_, _, h.glo.ar.box, .inr (.inl rfl)⟩
  · subst e; exact ⟨_, _, h.glo.ar.row, .inr (.inr rfl)⟩
theorem rowMut {w w' : World} {base size k : Nat} {v : Value} {xs : List Value} (h : w.ownsRow base 203 size v k xs) {S : List Nat} (hf : Frm S w w') (hs : Mut w S) : w'.ownsRow base 203 size v k xs := by
  refine rowFrm2 h hf (fun g hg hm => ?_)
  rcases h.2 with ⟨rfl, _⟩ | ⟨g', cap, cur, rfl, hb, hh, _⟩
  · simp [Value.ownBlock] at hg
  · have : g' = g := Option.some.inj hg
    subst this
    have hq : HAt w g' cur.toList 203 := by unfold HAt; simpa using hh
    exact (hs.not hq) hm
theorem CoN.arena (h : CoN w B K v A vn B0 bp) (hf : Frm [B.ab, B.wb] w w') (hA : ArAt w' B.ab B.wb A') : CoN w' B K v A' vn B0 bp := by
  have hm := h.mutA
  refine { box := h.box.frm hf (hm.not h.box), tab := h.tab.stay hf hm, glo := ?_, nod := rowMut h.nod hf hm, loc := fun u hu => ?_, row := ?_, dif := h.dif, pair := h.pair.frm hf (hm.not h.pair), lt := h.lt, new := h.new }
  · have := h.glo.apart; exact h.glo.re hf (h.glo.fnot hm).1 (h.glo.fnot hm).2 (by simp; omega) hA
  · have := (h.loc u hu).apart; exact (h.loc u hu).re hf ((h.loc u hu).fnot hm).1 ((h.loc u hu).fnot hm).2 (by simp; omega) hA
  · exact h.row.frm hf (by have := h.row.differ h.glo.ar.box (by decide); have := h.row.differ h.glo.ar.row (by decide); simp; omega)
theorem CoN.same (h : CoN w B K v A vn B0 bp) (hf : Frm [] w w') : CoN w' B K v A vn B0 bp := h.arena (hf.mono (by simp)) (h.glo.ar.frm hf (by simp) (by simp))
theorem CoN.othV (h : CoN w B K v A vn B0 bp) : Oth w (B.cb :: vn.ownBlock.toList) := by
  intro z hz
  rcases List.mem_cons.1 hz with e | hz
  · subst e; exact ⟨_, _, h.box, .inr (.inl rfl)⟩
  · have hz' : vn.ownBlock = some z := by simpa using hz
    rcases h.nod.2 with ⟨e, _⟩ | ⟨g', cap, cur, e, hb, hh, _⟩
    · rw [e] at hz'; simp [Value.ownBlock] at hz'
    · rw [e] at hz'
      have : g' = z := Option.some.inj hz'
      subst this
      exact ⟨cur.toList, _, by unfold HAt; simpa using hh, .inl rfl⟩
theorem CoN.box_at {o : Obj} (h : CoN w B K v A vn B0 bp) (hg : (w.alloc o).grownBy w1 vn.ownBlock) : HAt w1 B.cb [.pointer (some ⟨B.ab, 0, none⟩), .pointer (some ⟨B.tb, 0, none⟩), .int .i64 K.gk, .int .i64 K.lk, .int .i64 K.par, .int .i64 K.bud, .pointer (some ⟨B.gf, 0, none⟩), vn, .slice (some ⟨B.cs, 0, none⟩) K.n K.n] 201 :=
  h.box.frm (grown_frm hg) (fun hm => by have := ownLt h.nod B.cb (by simpa using hm); have := h.lt; omega)
theorem CoN.grow {o : Obj} (h : CoN w B K v A vn B0 bp) {f l s : Nat} (hL : FlAt w f l s B.ab B.wb A (fS0 (K.L v)) (K.L v)) (hs : s ≠ B.cs ∧ s ≠ B.gs ∧ ∀ u, u < v → s ≠ B.sb u) (hbp : bp ≤ s + 1)
    (hown : w1.ownsRow B0 203 2 v' (v + 1) (nodC v B.fb K.cn ++ [.pointer (some ⟨f, 0, none⟩), .int .i64 (K.cn v)])) (hg : (w.alloc o).grownBy w1 vn.ownBlock) :
    CoN (w1.setCell ⟨B.cb, 7, none⟩ v') { B with fb := updN B.fb v f, lb := updN B.lb v l, sb := updN B.sb v s } K (v + 1) A v' B0 bp := by
  have hf := grown_frm hg
  have hst : Frm [B.cb] w1 (w1.setCell ⟨B.cb, 7, none⟩ v') := (Frm.refl _ _).set _ _ (.inl (by simp))
  have hall : Frm (B.cb :: vn.ownBlock.toList) w (w1.setCell ⟨B.cb, 7, none⟩ v') := (hf.mono (by intro z hz; exact List.mem_cons_of_mem _ hz)).set _ _ (.inl (by simp))
  have ho := h.othV
  have hu : ∀ u, u < v → updN B.fb v f u = B.fb u ∧ updN B.lb v l u = B.lb u ∧ updN B.sb v s u = B.sb u := fun u hu => by unfold updN; rw [if_neg (by omega), if_neg (by omega), if_neg (by omega)]; exact ⟨rfl, rfl, rfl⟩
  have hv : updN B.fb v f v = f ∧ updN B.lb v l v = l ∧ updN B.sb v s v = s := by unfold updN; simp
  have htb : B.tb ∉ (B.cb :: vn.ownBlock.toList) := by
    have htab := h.tab
    obtain ⟨_, _, _, _, _, _, _, _, _, _, h1, _⟩ := htab
    intro hm
    rcases List.mem_cons.1 hm with e | hm
    · exact h1.differ h.box (by decide) e
    · have hz' : vn.ownBlock = some B.tb := by simpa using hm
      rcases h.nod.2 with ⟨e, _⟩ | ⟨g', cap, cur, e, hb, hh, _⟩
      · rw [e] at hz'; simp [Value.ownBlock] at hz'
      · rw [e] at hz'
        have e2 : g' = B.tb := Option.some.inj hz'
        have hq : HAt w B.tb cur.toList 203 := by rw [← e2]; unfold HAt; simpa using hh
        exact absurd rfl (h1.differ hq (by decide))
  obtain ⟨d1, d2, d3⟩ := h.dif
  refine { box := (h.box_at hg).set 7 v', tab := h.tab.keep hall ho htb, glo := h.glo.oth hall ho, nod := ?_, loc := fun u hu' => ?_, row := h.row.frm hall (ho.not h.row), dif := ⟨d1, fun u hu' => ?_, fun a b ha hb e => ?_⟩, pair := h.pair.frm hall (ho.not h.pair), lt := h.lt, new := ⟨h.new.1, h.new.2.1, fun u hu' => ?_⟩ }
  · have := rowFrm2 hown hst (fun g hgg hm => by have := (ownLt hown g hgg).1; have := h.lt; simp at hm; omega)
    rw [nodC_succ v B.fb K.cn (updN B.fb v f) K.cn (fun u hu' => ⟨(hu u hu').1, rfl⟩), hv.1]
    exact this
  · show FlAt _ (updN B.fb v f u) (updN B.lb v l u) (updN B.sb v s u) _ _ _ _ _
    by_cases e : u = v
    · subst e; rw [hv.1, hv.2.1, hv.2.2]; exact hL.oth hall ho
    · rw [(hu u (by omega)).1, (hu u (by omega)).2.1, (hu u (by omega)).2.2]; exact (h.loc u (by omega)).oth hall ho
  · show updN B.sb v s u ≠ _ ∧ updN B.sb v s u ≠ _
    by_cases e : u = v
    · subst e; rw [hv.2.2]; exact ⟨hs.1, hs.2.1⟩
    · rw [(hu u (by omega)).2.2]; exact d2 u (by omega)
  · have e' : updN B.sb v s a = updN B.sb v s b := e
    by_cases ea : a = v
    · by_cases eb : b = v
      · omega
      · subst ea; rw [hv.2.2, (hu b (by omega)).2.2] at e'; exact absurd e' (hs.2.2 b (by omega))
    · by_cases eb : b = v
      · subst eb; rw [hv.2.2, (hu a (by omega)).2.2] at e'; exact absurd e'.symm (hs.2.2 a (by omega))
      · rw [(hu a (by omega)).2.2, (hu b (by omega)).2.2] at e'; exact d3 a b (by omega) (by omega) e'
  · show bp ≤ updN B.sb v s u + 1
    by_cases e : u = v
    · subst e; rw [hv.2.2]; exact hbp
    · rw [(hu u (by omega)).2.2]; exact h.new.2.2 u (by omega)
theorem CoN.done (h : CoN w B K K.E A vn B0 bp) (hE : 1 ≤ K.E) (hs : TOk K.P K.T) : ∃ nb cap, CoAt w { B with nb := nb, ncap := cap } K ⟨A, fS0 K.G, fun u => fS0 (K.L u), fun _ _ => 0⟩ := by
  rcases h.nod.2 with ⟨_, e⟩ | ⟨g, cap, cur, hv, hb, hh, hk, hc1, hc2, htk⟩
  · omega
  · subst hv
    refine ⟨g, cap, { box := h.box, tab := h.tab, glo := h.glo, nod := ⟨cur.toList, by unfold HAt; simpa using hh, fun v hv => ?_⟩, loc := h.loc, row := h.row, dif := h.dif, ok := hs }⟩
    have h1 := (nodC_get (fb := B.fb) (cn := K.cn) hv).1
    have h2 := (nodC_get (fb := B.fb) (cn := K.cn) hv).2
    rw [← htk] at h1 h2
    rw [List.getElem?_take_of_lt (by omega)] at h1 h2
    exact ⟨h1, h2⟩
end
end Go.Proofs.YteijjhahgabalaaGreat

/- What is kept of a cohort lock: plain lemmas. -/
namespace Go.Proofs.YteijjhahgabalaaGreat
open Go.RowKit
/-- where its words lie, who its threads are -/
structure CoL (K : CK) (m : Nat) : Prop where
  gOk : K.G.Ok
  gb : K.G.b = 1
  gn : K.G.n = K.E
  gm : K.G.size ≤ m
  lOk : ∀ v, v < K.E → (K.L v).Ok
  lay : ∀ v, v < K.E → K.G.size + 1 ≤ (K.L v).b ∧ (K.L v).b + (K.L v).size ≤ K.cn v ∧ K.cn v ≤ m
  apart : ∀ u v, u < v → v < K.E → K.cn u < (K.L v).b
  nd : ∀ t, t < K.n → K.nd t < K.E ∧ K.sl t < (K.L (K.nd t)).n
  inj : ∀ t u, t < K.n → u < K.n → K.nd t = K.nd u → K.sl t = K.sl u → t = u
  bud : 0 ≤ K.bud ∧ K.bud ≤ 1000
/-- a thread that has its local lock -/
def hold (pc : Int) : Prop := (2 ≤ pc ∧ pc ≤ 4) ∨ (10 ≤ pc ∧ pc ≤ 15)
def LocP (pc q : Int) : Prop := (pc = 0 ∧ q = 0) ∨ (pc = 1 ∧ 1 ≤ q ∧ q ≤ 9) ∨ (hold pc ∧ q = 10) ∨ (pc = 16 ∧ 11 ≤ q)
def RestP (c g : Int) (b : Bool) : Prop := (0 < c → 2 ≤ c ∧ g = 10 ∧ b = false) ∧ (c ≤ 0 → g = 0)
def OwnP (bud pc a c g : Int) (b : Bool) : Prop :=
  (pc = 2 → RestP c g b) ∧ (pc = 3 → 1 ≤ g ∧ g ≤ 9 ∧ (g = 1 ∨ b = true)) ∧ (pc = 4 → g = 10 ∧ b = true) ∧ (10 ≤ pc ∧ pc ≤ 14 → g = 10) ∧ (10 ≤ pc ∧ pc ≤ 13 → b = false ∧ 1 ≤ c) ∧ (12 ≤ pc ∧ pc ≤ 13 → a = c ∧ a ≤ bud) ∧ (pc = 15 → 11 ≤ g ∧ c = 0)
/-- what stands at a node -/
def NodeP (K : CK) (S : CS) (tc : Nat → Bool) (v : Nat) : Option Nat → Prop
  | none => RestP (S.A.get (K.cn v : Nat)) (S.GS v 0) (tc v)
  | some t => OwnP K.bud (S.TS t 0) (S.TS t 1) (S.A.get (K.cn v : Nat)) (S.GS v 0) (tc v)
structure CI (K : CK) (S : CS) (tc : Nat → Bool) (O : Nat → Option Nat) : Prop where
  fit : S.A.Fit
  g : FI K.G S.GS S.A
  l : ∀ v, v < K.E → FI (K.L v) (S.LS v) S.A
  loc : ∀ t, t < K.n → LocP (S.TS t 0) (S.LS (K.nd t) (K.sl t) 0)
  own : ∀ t, t < K.n → (hold (S.TS t 0) ↔ O (K.nd t) = some t)
  ow : ∀ v t, O v = some t → t < K.n ∧ K.nd t = v
  st : ∀ v, v < K.E → NodeP K S tc v (O v)
def upO {α : Type} (f : Nat → α) (v : Nat) (x : α) : Nat → α := fun u => if u = v then x else f u
section
variable {K : CK} {S S' : CS} {tc : Nat → Bool} {O : Nat → Option Nat} {m : Nat}
theorem CI.pcs (h : CI K S tc O) {t : Nat} (ht : t < K.n) : (0 ≤ S.TS t 0 ∧ S.TS t 0 ≤ 4) ∨ (10 ≤ S.TS t 0 ∧ S.TS t 0 ≤ 16) := by
  rcases h.loc t ht with q | q | q | q
  · omega
  · omega
  · rcases q.1 with q | q <;> omega
  · omega
theorem CI.toCoPc (h : CI K S tc O) : CoPc K S := ⟨fun _ ht => h.pcs ht, fun v hv e => (h.l v hv).cpc e, fun e => h.g.cpc e⟩
/-- thread t of node v turns; nothing of the others does -/
theorem CI.turn (h : CI K S tc O) {t : Nat} (ht : t < K.n) (b : Bool) (o : Option Nat)
    (hfit : S'.A.Fit) (hg : FI K.G S'.GS S'.A) (hl : ∀ v, v < K.E → FI (K.L v) (S'.LS v) S'.A)
    (hts : ∀ u, u ≠ t → ∀ k, S'.TS u k = S.TS u k) (hlo : ∀ v, v ≠ K.nd t → S'.LS v = S.LS v) (hls : ∀ s, s ≠ K.sl t → S'.LS (K.nd t) s 0 = S.LS (K.nd t) s 0)
    (hgs : ∀ v, v ≠ K.nd t → S'.GS v 0 = S.GS v 0) (hcn : ∀ v, v < K.E → v ≠ K.nd t → S'.A.get (K.cn v : Nat) = S.A.get (K.cn v : Nat))
    (hloc : LocP (S'.TS t 0) (S'.LS (K.nd t) (K.sl t) 0)) (ho : hold (S'.TS t 0) ↔ o = some t) (hoth : ∀ u, u ≠ t → (O (K.nd t) = some u ↔ o = some u))
    (hst : NodeP K S' (upO tc (K.nd t) b) (K.nd t) o) (hinj : ∀ u, u < K.n → K.nd t = K.nd u → K.sl t = K.sl u → t = u) : CI K S' (upO tc (K.nd t) b) (upO O (K.nd t) o) := by
  have hu : ∀ v, v ≠ K.nd t → upO O (K.nd t) o v = O v := fun v hv => by unfold upO; rw [if_neg hv]
  have hv' : upO O (K.nd t) o (K.nd t) = o := by unfold upO; rw [if_pos rfl]
  refine { fit := hfit, g := hg, l := hl, loc := fun u hu' => ?_, own := fun u hu' => ?_, ow := fun v u e => ?_, st := fun v hv => ?_ }
  · by_cases e : u = t
    · subst e; exact hloc
    · rw [hts u e 0]
      have hx := h.loc u hu'
      by_cases e2 : K.nd u = K.nd t
      · rw [e2] at hx ⊢
        rw [hls (K.sl u) (fun e3 => e (hinj u hu' e2.symm e3.symm).symm)]
        exact hx
      · rw [hlo _ e2]; exact hx
  · by_cases e : u = t
    · subst e; rw [hv']; exact ho
    · rw [hts u e 0, h.own u hu']
      by_cases e2 : K.nd u = K.nd t
      · rw [e2, hv']; exact hoth u e
      · rw [hu _ e2]
  · by_cases e2 : v = K.nd t
    · subst e2
      rw [hv'] at e
      by_cases e3 : u = t
      · subst e3; exact ⟨ht, rfl⟩
      · exact h.ow _ _ ((hoth u e3).2 e)
    · rw [hu _ e2] at e; exact h.ow _ _ e
  · by_cases e2 : v = K.nd t
    · subst e2; rw [hv']; exact hst
    · rw [hu _ e2]
      have hb : upO tc (K.nd t) b v = tc v := by unfold upO; rw [if_neg e2]
      have hx := h.st v hv
      cases ho' : O v with
      | none =>
        rw [ho'] at hx
        show RestP _ _ _
        rw [hcn v hv e2, hgs v e2, hb]; exact hx
      | some u =>
        rw [ho'] at hx
        show OwnP _ _ _ _ _ _
        have hne : u ≠ t := by
          rintro rfl
          exact e2 (h.ow v u ho').2.symm
        rw [hcn v hv e2, hgs v e2, hb, hts u hne 0, hts u hne 1]; exact hx
end
end Go.Proofs.YteijjhahgabalaaGreat

/- Where a cohort's words lie: plain lemmas. -/
namespace Go.Proofs.YteijjhahgabalaaGreat
open Go.RowKit
def coK (P T : List Int) (gk lk par bud : Nat) (A : AR) : CK where
  P := P
  T := T
  G := ⟨gk, par, A.taken + 1, (tE P).length⟩
  L := fun u => coMk lk par T (tE P) u (coArs lk par T (tE P) (fA0 ⟨gk, par, A.taken + 1, (tE P).length⟩ A) u)
  cn := fun u => (fA0 (coMk lk par T (tE P) u (coArs lk par T (tE P) (fA0 ⟨gk, par, A.taken + 1, (tE P).length⟩ A) u)) (coArs lk par T (tE P) (fA0 ⟨gk, par, A.taken + 1, (tE P).length⟩ A) u)).taken + 1
  gk := gk
  lk := lk
  par := par
  bud := bud
/-- what may be asked for -/
structure CoArg (P T : List Int) (gk lk par bud : Nat) (A : AR) : Prop where
  ok : TOk P T
  g1 : 1 ≤ gk
  g5 : gk ≤ 5
  l1 : 1 ≤ lk
  l5 : lk ≤ 5
  p1 : 1 ≤ par
  p32 : par ≤ 32
  b : bud ≤ 1000
  az : AZ A
  fit : A.Fit
  ops : A.ops ≤ 1000
  room : A.taken + 65 + 66 * (tE P).length ≤ A.ws.length
section
variable {P T : List Int} {gk lk par bud : Nat} {A : AR}
theorem CoArg.ne (h : CoArg P T gk lk par bud A) : 1 ≤ (tE P).length ∧ (tE P).length ≤ 32 := by
  have hs := h.ok.size
  obtain ⟨s1, s2, s3, s4⟩ := hs
  have hle := tE_le P
  refine ⟨?_, by omega⟩
  have hx : T[0]?.getD 0 ∈ T := by
    rw [List.getElem?_eq_getElem (by omega)]; exact List.getElem_mem (by omega)
  have := List.length_pos_of_mem (tE_mem h.ok hx)
  omega
theorem size_le {K : FK} (h : K.Ok) : 1 ≤ K.size ∧ K.size ≤ 65 := by
  have := h.n1; have := h.n32; have := h.p1; have := h.p32
  rcases h.five with e | e | e | e | e
  · rw [sz1 e]; omega
  · rw [sz2 e]; omega
  · rw [sz3 e]; omega
  · rw [sz4 e]; omega
  · rw [sz5 e]; omega
theorem CoArg.gOk (h : CoArg P T gk lk par bud A) : (coK P T gk lk par bud A).G.Ok :=
  ⟨h.g1, h.g5, Nat.le_add_left _ _, h.ne.1, h.ne.2, h.p1, h.p32⟩
theorem CoArg.lOk (h : CoArg P T gk lk par bud A) (v : Nat) (B : AR) : (coMk lk par T (tE P) v B).Ok := by
  obtain ⟨s1, s2, s3, s4⟩ := h.ok.size
  have := List.count_le_length (a := (tE P)[v]?.getD 0) (l := T)
  exact ⟨h.l1, h.l5, Nat.le_add_left _ _, Nat.le_max_left _ _, by show max 1 _ ≤ 32; omega, h.p1, h.p32⟩
/-- the arena as it is behind the making of v nodes -/
structure ArsOk (A0 B : AR) (v : Nat) : Prop where
  az : AZ B
  fit : B.Fit
  len : B.ws.length = A0.ws.length
  t1 : A0.taken + 1 ≤ B.taken
  t2 : B.taken ≤ A0.taken + 65 + 66 * v
  o1 : A0.ops ≤ B.ops
  o2 : B.ops ≤ A0.ops + 1 + v
theorem CoArg.glob (h : CoArg P T gk lk par bud A) : (Grew (coK P T gk lk par bud A).G A (fA0 (coK P T gk lk par bud A).G A) ∧ FI (coK P T gk lk par bud A).G (fS0 (coK P T gk lk par bud A).G) (fA0 (coK P T gk lk par bud A).G A)) ∧ ArsOk A (fA0 (coK P T gk lk par bud A).G A) 0 := by
  have hsz := size_le h.gOk
  have hr := h.room; have hf := h.fit; have ho := h.ops
  obtain ⟨f1, f2, f3, f4⟩ := hf
  have hg := fA0_grew (K := (coK P T gk lk par bud A).G) (A := A) h.gOk rfl (by omega) h.az h.fit
  refine ⟨hg, ?_⟩
  obtain ⟨g, _⟩ := hg
  have gt := g.taken; have gl := g.len; have go := g.ops
  exact ⟨g.az, ⟨by omega, by omega, by omega, by omega⟩, gl, by omega, by omega, by omega, by omega⟩
theorem CoArg.step (h : CoArg P T gk lk par bud A) {v : Nat} (hv : v < (tE P).length) {B : AR} (hB : ArsOk A B v) :
    (Grew (coMk lk par T (tE P) v B) B (fA0 (coMk lk par T (tE P) v B) B) ∧ FI (coMk lk par T (tE P) v B) (fS0 (coMk lk par T (tE P) v B)) (fA0 (coMk lk par T (tE P) v B) B)) ∧ B.taken + (coMk lk par T (tE P) v B).size + 1 ≤ B.ws.length ∧ ArsOk A { (fA0 (coMk lk par T (tE P) v B) B) with taken := (fA0 (coMk lk par T (tE P) v B) B).taken + 1 } (v + 1) := by
  have hok := h.lOk v B
  have hsz := size_le hok
  have hr := h.room; have ho := h.ops
  have bt := hB.t2; have bl := hB.len; have b1 := hB.t1; have bo := hB.o1; have bo2 := hB.o2
  obtain ⟨f1, f2, f3, f4⟩ := hB.fit
  have hroom : B.taken + (coMk lk par T (tE P) v B).size + 1 ≤ B.ws.length := by omega
  have hg := fA0_grew (K := coMk lk par T (tE P) v B) (A := B) hok rfl (by omega) hB.az hB.fit
  refine ⟨hg, hroom, ?_⟩
  obtain ⟨g, _⟩ := hg
  have gt := g.taken; have gl := g.len; have go := g.ops; have ga := g.az
  generalize fA0 (coMk lk par T (tE P) v B) B = C at *
  obtain ⟨f1', f2', f3', f4'⟩ := h.fit
  exact ⟨fun k hk => ga k (by have : C.taken + 1 ≤ k := hk; omega), ⟨by show C.taken + 1 ≤ C.ws.length; omega, by show C.ws.length ≤ 4096; omega, by show 0 ≤ C.ops; omega, by show C.ops ≤ 1000000000; have := h.ne.2; omega⟩, by show C.ws.length = _; omega, by show _ ≤ C.taken + 1; omega, by show C.taken + 1 ≤ _; omega, by show _ ≤ C.ops; omega, by show C.ops ≤ _; omega⟩
theorem CoArg.ars (h : CoArg P T gk lk par bud A) : ∀ v, v ≤ (tE P).length → ArsOk A (coArs lk par T (tE P) (fA0 (coK P T gk lk par bud A).G A) v) v
  | 0, _ => h.glob.2
  | v + 1, hv => (h.step (v := v) (by omega) (CoArg.ars h v (by omega))).2.2
end
/-- how a cohort is made: the makes of its locks, and the arena behind each -/
structure CoSch (K : CK) (Av : Nat → AR) (A : AR) : Prop where
  ok : TOk K.P K.T
  bud : 0 ≤ K.bud ∧ K.bud ≤ 1000
  gk : (K.G.k : Int) = K.gk
  gp : (K.G.p : Int) = K.par
  gn : K.G.n = (tE K.P).length
  gOk : K.G.Ok
  gb : K.G.b = A.taken + 1
  gr : A.taken + K.G.size ≤ A.ws.length
  a0 : Av 0 = fA0 K.G A
  lk : ∀ v, v < (tE K.P).length → ((K.L v).k : Int) = K.lk
  lp : ∀ v, v < (tE K.P).length → ((K.L v).p : Int) = K.par
  ln : ∀ v, v < (tE K.P).length → (K.L v).n = max 1 (K.T.count ((tE K.P)[v]?.getD 0))
  lOk : ∀ v, v < (tE K.P).length → (K.L v).Ok
  lb : ∀ v, v < (tE K.P).length → (K.L v).b = (Av v).taken + 1
  lr : ∀ v, v < (tE K.P).length → (Av v).taken + (K.L v).size ≤ (Av v).ws.length
  t0 : ∀ v, v < (tE K.P).length → (fA0 (K.L v) (Av v)).takeE 1 = 0
  t1 : ∀ v, v < (tE K.P).length → (fA0 (K.L v) (Av v)).takeN 1 = ((K.cn v : Nat) : Int)
  t2 : ∀ v, v < (tE K.P).length → (fA0 (K.L v) (Av v)).take 1 = Av (v + 1)
theorem CoArg.sch {P T : List Int} {gk lk par bud : Nat} {A : AR} (h : CoArg P T gk lk par bud A) : CoSch (coK P T gk lk par bud A) (fun v => coArs lk par T (tE P) (fA0 (coK P T gk lk par bud A).G A) v) A := by
  have hsz := size_le h.gOk
  have hr := h.room
  have key : ∀ v B, v < (tE P).length → ArsOk A B v → (fA0 (coMk lk par T (tE P) v B) B).taken + 1 ≤ (fA0 (coMk lk par T (tE P) v B) B).ws.length := by
    intro v B hv hB
    obtain ⟨⟨g, _⟩, g3, _⟩ := h.step hv hB
    have g1 := g.taken; have g2 := g.len
    omega
  have hrm : ∀ v, v < (tE P).length → (fA0 ((coK P T gk lk par bud A).L v) (coArs lk par T (tE P) (fA0 (coK P T gk lk par bud A).G A) v)).taken + 1 ≤ (fA0 ((coK P T gk lk par bud A).L v) (coArs lk par T (tE P) (fA0 (coK P T gk lk par bud A).G A) v)).ws.length := fun v hv => key v _ hv (h.ars v (Nat.le_of_lt hv))
  have he : ∀ v, v < (tE P).length → (fA0 ((coK P T gk lk par bud A).L v) (coArs lk par T (tE P) (fA0 (coK P T gk lk par bud A).G A) v)).takeE 1 = 0 := fun v hv => takeE0 (m := 1) (hrm v hv) rfl
  refine { ok := h.ok, bud := ⟨Int.natCast_nonneg _, by have := h.b; show ((bud : Nat) : Int) ≤ 1000; omega⟩, gk := rfl, gp := rfl, gn := rfl, gOk := h.gOk, gb := rfl, gr := by omega, a0 := rfl, lk := fun _ _ => rfl, lp := fun _ _ => rfl, ln := fun _ _ => rfl, lOk := fun v _ => h.lOk v _, lb := fun _ _ => rfl, lr := fun v hv => Nat.le_of_succ_le (h.step hv (h.ars v (by exact Nat.le_of_lt hv))).2.1, t0 := he, t1 := fun v hv => ?_, t2 := fun v hv => ?_ }
  · unfold AR.takeN; rw [if_pos (he v hv)]; rfl
  · exact take_is (m := 1) (hrm v hv) rfl
end Go.Proofs.YteijjhahgabalaaGreat

/- A cohort lock: New. -/
namespace Go.Proofs.YteijjhahgabalaaGreat
open Go.RowKit
section
variable {w : World} {b1 b2 ab wb : Nat} {v u : Value} {A : AR}
set_option maxRecDepth 100000 in
set_option maxHeartbeats 4000000 in
theorem coNew_ok {K : CK} {Av : Nat → AR} (hx : RowAt w b1 v K.P) (hy : RowAt w b2 u K.T) (h : CoSch K Av A) (hA : ArAt w ab wb A) :
    Calls Tryz.prog 72 #[.pointer (some ⟨ab, 0, none⟩), .agg #[v, u], .agg #[.int .i64 K.gk, .int .i64 K.lk, .int .i64 K.par, .int .i64 K.bud]] w fun e w' => ∃ B : CB, e = .returned (.tuple #[.pointer (some ⟨B.cb, 0, none⟩), .int .i64 0]) ∧ (B.ab = ab ∧ B.wb = wb ∧ FreshB w.heap.size B K) ∧ CoAt w' B K ⟨Av (tE K.P).length, fS0 K.G, fun v => fS0 (K.L v), fun _ _ => 0⟩ ∧ Frm [ab, wb] w w' := by
  have hs := h.ok
  have hbud := h.bud
  have HCA := Lib.hid h
  obtain ⟨s1, s2, s3, s4⟩ := hs.size
  have hEl := tE_le K.P
  have mk := mkSpots K.T.length (by omega)
  obtain ⟨i0, ia, ib, ic, id_⟩ := info_parts nodeInfo
  have HIN := Lib.hid (And.intro ia (And.intro ib (And.intro ic id_)))
  have HPN := Lib.hid (fun (W : World) (hf : Frm [] w W) => pathNew_ok (hx.frm hf (by simp)) (hy.frm hf (by simp)) hs)
  have HBR := Lib.hid (fun (W : World) => budRight K.bud W)
  have hbr : (decide ((0 : Int) ≤ K.bud) && decide (K.bud ≤ 1000)) = true := by simp; omega
  rw [hbr] at HBR
  have HF0 := Lib.hid (((Frm.refl [] w).alloc (.cells #[v, u] 24)).alloc (.cells #[.int .i64 K.gk, .int .i64 K.lk, .int .i64 K.par, .int .i64 K.bud] 42))
  have hbp := HAt.new (w.alloc (.cells #[v, u] 24)) #[.int .i64 K.gk, .int .i64 K.lk, .int .i64 K.par, .int .i64 K.bud] 42
  rw [World.size_alloc] at hbp
  have HBP := Lib.hid hbp
  clear hbp
  have hnot : ∀ (x : Bool) (w : World), (Op.unary .not (.bool x)).run Tryz.prog w = .ok (.bool (!x)) w := fun _ _ => rfl
  have HAR := Lib.hid hA
  have HOK := Lib.hid hs
  have hablt := hA.box.lt
  have hwblt := hA.row.lt
  obtain ⟨a1, cap1, rfl, -, -⟩ := hx
  obtain ⟨a2, cap2, rfl, -, -⟩ := hy
  clear hbr ia ib ic id_ hA hs h
  go_enter Tryz.func72, Tryz.ntmps72
  go_wp2_with fail
  refine (HPN.out _ HF0.out).mono ?_
  rintro e w1 ⟨tb, rfl, htb, hTb, hF⟩
  have HF1 := Lib.hid (HF0.out.trans hF)
  have HT1 := Lib.hid hTb
  have hbp1 := HBP.out.frm hF (by simp)
  have p0 := hbp1.cell (i := 0) rfl
  have p1 := hbp1.cell (i := 1) rfl
  have p2 := hbp1.cell (i := 2) rfl
  have p3 := hbp1.cell (i := 3) rfl
  have HBP1 := Lib.hid hbp1
  clear hF hTb hbp1
  go_wp2_with fail
  refine (HBR.out _).mono ?_
  rintro e w' ⟨rfl, rfl⟩
  have hne : Nonempty (HW (fun wx => Frm [] w1 wx)) := ⟨⟨w1, Frm.refl _ _⟩⟩
  have hz0 : ∀ q : HW (fun wx => Frm [] w1 wx), q.w.cell? ⟨w.heap.size + 1, 0, none⟩ = some (.int .i64 K.gk) := fun q => (HBP1.out.frm q.h (by simp)).cell (i := 0) rfl
  have hz1 : ∀ q : HW (fun wx => Frm [] w1 wx), q.w.cell? ⟨w.heap.size + 1, 1, none⟩ = some (.int .i64 K.lk) := fun q => (HBP1.out.frm q.h (by simp)).cell (i := 1) rfl
  have hz2 : ∀ q : HW (fun wx => Frm [] w1 wx), q.w.cell? ⟨w.heap.size + 1, 2, none⟩ = some (.int .i64 K.par) := fun q => (HBP1.out.frm q.h (by simp)).cell (i := 2) rfl
  have hz3 : ∀ q : HW (fun wx => Frm [] w1 wx), q.w.cell? ⟨w.heap.size + 1, 3, none⟩ = some (.int .i64 K.bud) := fun q => (HBP1.out.frm q.h (by simp)).cell (i := 3) rfl
  go_wp2_with fail
  refine held_begin (S := fun wx => Frm [] w1 wx) (by kernel_rfl) ?_
  refine held_row_at (fuel := 5) (is := [0, 1, 2, 3]) (.cons rfl (.cons rfl (.cons rfl (.cons rfl .nil)))) (by kernel_rfl) (fun _ _ _ _ _ h => h) rfl (by kernel_rfl) (Frm.refl _ _).drew1 ?_
  intro Kq hK
  repeat (go_big_quiet_step (fail))
  refine wpQuiet_nil (hK _ ?_)
  clear hK Kq
  refine held_call (fuel := 4) (i := 4) rfl (by kernel_rfl) ?_
  go_wp2_with fail
  refine (tThreads_n (HT1.out.stay (Z := []) ((Frm.refl _ _).drew1) (Mut.nil _))).mono ?_
  rintro e w' ⟨rfl, rfl⟩
  go_wp2_with fail
  refine onNormal_mk ⟨(Frm.refl _ _).drew1, ?_⟩
  refine held_call (fuel := 3) (i := 5) rfl (by kernel_rfl) ?_
  go_wp2_with fail
  refine onNormal_mk ⟨?_, ?_⟩
  · repeat (first | exact Frm.refl _ _ | apply Frm.drew1 | apply Frm.alloc)
  refine held_row_at (fuel := 2) (is := [6]) (.cons rfl .nil) (by kernel_rfl) (fun _ _ _ _ _ h => h) rfl (by kernel_rfl) (by repeat (first | exact Frm.refl _ _ | apply Frm.drew1 | apply Frm.alloc)) ?_
  intro Kq hK
  repeat (go_big_quiet_step (fail))
  refine wpQuiet_nil (hK _ ?_)
  clear hK Kq
  refine held_call (fuel := 1) (i := 7) rfl (by kernel_rfl) ?_
  go_wp2_with fail
  refine onNormal_mk ⟨(by repeat (first | exact Frm.refl _ _ | apply Frm.drew1 | apply Frm.alloc)), ?_⟩
  refine held_row_at (fuel := 0) (is := [8]) (.cons rfl .nil) (by kernel_rfl) (fun _ _ _ _ _ h => h) rfl (by kernel_rfl) (by repeat (first | exact Frm.refl _ _ | apply Frm.drew1 | apply Frm.alloc)) ?_
  intro Kq hK
  repeat (go_big_quiet_step (fail))
  refine wpQuiet_nil (hK _ ?_)
  clear hK Kq
  refine held_end (by kernel_rfl) ?_
  have hcs := ((HAt.new w1 (spC K.T.length fun _ _ => 0).toArray 138).alloc (.cells #[.pointer (some ⟨ab, 0, none⟩), .pointer (some ⟨tb, 0, none⟩), .int .i64 K.gk, .int .i64 K.lk, .int .i64 K.par, .int .i64 K.bud, .pointer none, .slice none 0 0, .slice (some ⟨w1.heap.size, 0, none⟩) K.T.length K.T.length] 201)).drew1
  have hcb := (HAt.new (w1.alloc (.cells (spC K.T.length fun _ _ => 0).toArray 138)) #[.pointer (some ⟨ab, 0, none⟩), .pointer (some ⟨tb, 0, none⟩), .int .i64 K.gk, .int .i64 K.lk, .int .i64 K.par, .int .i64 K.bud, .pointer none, .slice none 0 0, .slice (some ⟨w1.heap.size, 0, none⟩) K.T.length K.T.length] 201).drew1
  rw [World.size_alloc] at hcb
  have hF2 : Frm [] w1 (((w1.alloc (.cells (spC K.T.length fun _ _ => 0).toArray 138)).alloc (.cells #[.pointer (some ⟨ab, 0, none⟩), .pointer (some ⟨tb, 0, none⟩), .int .i64 K.gk, .int .i64 K.lk, .int .i64 K.par, .int .i64 K.bud, .pointer none, .slice none 0 0, .slice (some ⟨w1.heap.size, 0, none⟩) K.T.length K.T.length] 201)).drew) := ((Frm.refl _ _).alloc _).alloc _ |>.drew1
  have hsz2 : (((w1.alloc (.cells (spC K.T.length fun _ _ => 0).toArray 138)).alloc (.cells #[.pointer (some ⟨ab, 0, none⟩), .pointer (some ⟨tb, 0, none⟩), .int .i64 K.gk, .int .i64 K.lk, .int .i64 K.par, .int .i64 K.bud, .pointer none, .slice none 0 0, .slice (some ⟨w1.heap.size, 0, none⟩) K.T.length K.T.length] 201)).drew).heap.size = w1.heap.size + 2 := by show (World.alloc _ _).heap.size = _; rw [World.size_alloc, World.size_alloc]
  have HX2 := Lib.hid (And.intro hcs (And.intro hcb (And.intro hF2 hsz2)))
  have hsz1 := HF1.out.size
  clear hcs hcb hF2 hsz2 hne hz0 hz1 hz2 hz3 p0 p1 p2 p3
  generalize ((w1.alloc (.cells (spC K.T.length fun _ _ => 0).toArray 138)).alloc (.cells #[.pointer (some ⟨ab, 0, none⟩), .pointer (some ⟨tb, 0, none⟩), .int .i64 K.gk, .int .i64 K.lk, .int .i64 K.par, .int .i64 K.bud, .pointer none, .slice none 0 0, .slice (some ⟨w1.heap.size, 0, none⟩) K.T.length K.T.length] 201)).drew = W2 at *
  obtain ⟨cs, hcs⟩ : ∃ cs, cs = w1.heap.size := ⟨_, rfl⟩
  obtain ⟨cb, hcb⟩ : ∃ cb, cb = w1.heap.size + 1 := ⟨_, rfl⟩
  rw [← hcb, ← hcs] at HX2
  rw [← hcb, ← hcs]
  have hcc : w.heap.size ≤ cs ∧ w.heap.size ≤ cb ∧ cs < W2.heap.size ∧ cb < W2.heap.size ∧ cs < cb := by have := HX2.out.2.2.2; omega
  clear hcs hcb
  have HBP2 := Lib.hid (HBP1.out.frm HX2.out.2.2.1 (by simp))
  have HT2 := Lib.hid (HT1.out.stay HX2.out.2.2.1 (Mut.nil _))
  have HA2 := Lib.hid (HAR.out.frm (S := []) (HF1.out.trans HX2.out.2.2.1) (by simp) (by simp))
  have HFA := Lib.hid (HF1.out.trans HX2.out.2.2.1)
  have hntb : tb ≠ ab ∧ tb ≠ wb ∧ tb ≠ cb ∧ w.heap.size + 1 ≠ tb ∧ w.heap.size + 1 ≠ cb := by
    obtain ⟨_, _, _, _, h1, _⟩ := HT2.out
    exact ⟨h1.differ HA2.out.box (by decide), h1.differ HA2.out.row (by decide), h1.differ HX2.out.2.1 (by decide), HBP2.out.differ h1 (by decide), HBP2.out.differ HX2.out.2.1 (by decide)⟩
  have HNT := Lib.hid hntb
  have hpn : w.heap.size + 1 ∉ [tb, ab, wb, cb] := by have := HNT.out; simp; omega
  have hne : Nonempty (HW (fun wx => Frm [tb, ab, wb, cb] W2 wx)) := ⟨⟨W2, Frm.refl _ _⟩⟩
  have hz0 : ∀ q : HW (fun wx => Frm [tb, ab, wb, cb] W2 wx), q.w.cell? ⟨w.heap.size + 1, 0, none⟩ = some (.int .i64 K.gk) := fun q => (HBP2.out.frm q.h hpn).cell (i := 0) rfl
  have hz2 : ∀ q : HW (fun wx => Frm [tb, ab, wb, cb] W2 wx), q.w.cell? ⟨w.heap.size + 1, 2, none⟩ = some (.int .i64 K.par) := fun q => (HBP2.out.frm q.h hpn).cell (i := 2) rfl
  clear hntb
  go_wp2_with fail
  refine held_begin (S := fun wx => Frm [tb, ab, wb, cb] W2 wx) (by kernel_rfl) ?_
  refine held_row_at (fuel := 9) (is := [0, 1, 2, 3, 4, 6, 7]) (.cons rfl (.cons rfl (.cons rfl (.cons rfl (.cons rfl (.cons rfl (.cons rfl .nil))))))) (by kernel_rfl) (fun _ _ _ _ _ h => h) rfl (by kernel_rfl) (Frm.refl _ _).drew1 ?_
  intro Kq hK
  repeat (go_big_quiet_step (fail))
  refine wpQuiet_nil (hK _ ?_)
  clear hK Kq
  refine held_call (fuel := 8) (i := 5) rfl (by kernel_rfl) ?_
  go_wp2_with fail
  refine (tNodes_n (HT2.out.stay (Z := []) ((Frm.refl _ _).drew1) (Mut.nil _)) HOK.out).mono ?_
  rintro e w3 ⟨rfl, hT3, hF⟩
  have HF3 := Lib.hid (((Frm.refl [tb] W2).drew1).trans hF)
  have HT3 := Lib.hid hT3
  have HA3 := Lib.hid (HA2.out.frm HF3.out (by have := HNT.out; simp; omega) (by have := HNT.out; simp; omega))
  clear hF hT3
  go_wp2_with fail
  refine onNormal_mk ⟨HF3.out.mono (by simp), ?_⟩
  refine held_call (fuel := 7) (i := 8) rfl (by kernel_rfl) ?_
  go_wp2_with fail
  have hfn := fNew_ok HA3.out K.G HCA.out.gOk HCA.out.gb HCA.out.gr
  rw [HCA.out.gk, HCA.out.gp, HCA.out.gn] at hfn
  refine hfn.mono ?_
  clear hfn
  rintro e w4 ⟨gf, gl, gs, rfl, hgf, hgl, hgs, hG, hF⟩
  have HG4 := Lib.hid hG
  have HF4 := Lib.hid hF
  have HT4 := Lib.hid (HT3.out.stay (Z := [ab, wb]) hF (by
    intro z hz
    simp at hz
    rcases hz with e | e
    · subst e; exact ⟨_, _, HA3.out.box, .inr (.inl rfl)⟩
    · subst e; exact ⟨_, _, HA3.out.row, .inr (.inr rfl)⟩))
  have hcba : cb ≠ ab ∧ cb ≠ wb := ⟨HX2.out.2.1.differ HA2.out.box (by decide), HX2.out.2.1.differ HA2.out.row (by decide)⟩
  have hcb4 := (HX2.out.2.1.frm HF3.out (by have := HNT.out; simp; omega)).frm hF (by simp; omega)
  have c6 := hcb4.cell (i := 6) rfl
  have cz := hcb4.frozen
  have HCB4 := Lib.hid hcb4
  clear hG hF hcb4
  go_wp2_with fail
  refine onNormal_mk ⟨(HF3.out.mono (by simp)).trans (HF4.out.mono (by simp)), ?_⟩
  refine held_row_at (fuel := 2) (is := [9, 10, 11, 12, 13]) (.cons rfl (.cons rfl (.cons rfl (.cons rfl (.cons rfl .nil))))) (by kernel_rfl) (fun _ _ _ _ _ h => h) rfl (by kernel_rfl) ((HF3.out.mono (by simp)).trans (HF4.out.mono (by simp))) ?_
  intro Kq hK
  repeat (go_big_quiet_step (fail))
  refine wpQuiet_nil (hK _ ?_)
  clear hK Kq
  refine held_call (fuel := 1) (i := 14) rfl (by kernel_rfl) ?_
  go_wp2_with fail
  refine onNormal_mk ⟨((HF3.out.mono (by simp)).trans (HF4.out.mono (by simp))).set _ _ (.inl (by simp)), ?_⟩
  refine held_row_at (fuel := 0) (is := [15]) (.cons rfl .nil) (by kernel_rfl) (fun _ _ _ _ _ h => h) rfl (by kernel_rfl) (((HF3.out.mono (by simp)).trans (HF4.out.mono (by simp))).set _ _ (.inl (by simp))) ?_
  intro Kq hK
  repeat (go_big_quiet_step (fail))
  refine wpQuiet_nil (hK _ ?_)
  clear hK Kq
  refine held_end (by kernel_rfl) ?_
  have hst : Frm [cb] w4 (w4.setCell ⟨cb, 6, none⟩ (.pointer (some ⟨gf, 0, none⟩))) := (Frm.refl _ _).set _ _ (.inl (by simp))
  have hoth : Oth w4 [cb] := fun z hz => by
    simp at hz; subst hz; exact ⟨_, _, HCB4.out, .inr (.inl rfl)⟩
  have hszz := HF3.out.size
  have hszz4 := HF4.out.size
  have htb0 : w.heap.size ≤ tb := by have := HF0.out.size; omega
  have hfr34 : Frm [ab, wb] w w4 := ((HFA.out.mono (S' := [ab, wb]) (by simp)).widen HF3.out (fun z hz => .inr (by simp at hz; omega))).trans HF4.out
  have hcs4 := (HX2.out.1.frm HF3.out (by have := HX2.out.1.differ HBP2.out (by decide); obtain ⟨_, _, _, _, h1, _⟩ := HT2.out; have := HX2.out.1.differ h1 (by decide); simp; omega)).frm HF4.out (by have := HX2.out.1.differ HA2.out.box (by decide); have := HX2.out.1.differ HA2.out.row (by decide); simp; omega)
  have hpr4 := (HBP2.out.frm HF3.out (by have := HNT.out; simp; omega)).frm HF4.out (by have := HBP2.out.differ HA2.out.box (by decide); have := HBP2.out.differ HA2.out.row (by decide); simp; omega)
  have hN : CoN (w4.setCell ⟨cb, 6, none⟩ (.pointer (some ⟨gf, 0, none⟩))) ⟨cb, tb, gf, gl, gs, ab, wb, cs, 0, 0, fun _ => 0, fun _ => 0, fun _ => 0⟩ K 0 (Av 0) (.slice none 0 0) (w4.setCell ⟨cb, 6, none⟩ (.pointer (some ⟨gf, 0, none⟩))).heap.size (w.heap.size + 1) :=
    { box := HCB4.out.set 6 _, tab := HT4.out.keep hst hoth (by have := HNT.out; simp; omega), glo := by rw [HCA.out.a0]; exact HG4.out.oth hst hoth, nod := World.ownsRow_nil _ _ _ _, loc := fun u hu => by omega, row := hcs4.frm hst (hoth.not hcs4), dif := ⟨by show cs ≠ gs; omega, fun u hu => by omega, fun a b ha => by omega⟩, pair := hpr4.frm hst (hoth.not hpr4), lt := by show cb < (World.setCell _ _ _).heap.size; simp [World.setCell]; omega, new := ⟨by show _ ≤ cs + 1; omega, by show _ ≤ gs + 1; omega, fun u hu => by omega⟩ }
  have hfr5 : Frm [ab, wb] w (w4.setCell ⟨cb, 6, none⟩ (.pointer (some ⟨gf, 0, none⟩))) := hfr34.set _ _ (.inr (by show w.heap.size ≤ cb; omega))
  have HN5 := Lib.hid hN
  have HF5 := Lib.hid hfr5
  have hw5 : w.heap.size + 1 < (w4.setCell ⟨cb, 6, none⟩ (.pointer (some ⟨gf, 0, none⟩))).heap.size := by simp [World.setCell]; omega
  clear hst hoth hfr34 hcs4 hpr4 hN hfr5 c6 cz hne hz0 hz2
  generalize w4.setCell ⟨cb, 6, none⟩ (.pointer (some ⟨gf, 0, none⟩)) = W5 at *
  clear HCB4 HT4 HG4 HF4 HT3 HA3 HF3 HBP2 HT2 HX2 HA2
  go_wp2_with fail
  refine (tNodes_f (P := K.P) (T := K.T) HN5.out.tab).mono ?_
  rintro e w' ⟨rfl, rfl⟩
  obtain ⟨E, hE⟩ : ∃ E, E = (tE K.P).length := ⟨_, rfl⟩
  have hE32 : E ≤ 32 := by omega
  have HEE := Lib.hid hE
  clear hE
  go_wp2_with fail
  go_loopw [56] (fun iv wr => ∃ (v : Nat) (fb lb sb : Nat → Nat) (vn : Value), iv = .int .i64 v ∧ v ≤ (tE K.P).length ∧ W5.heap.size ≤ wr.heap.size ∧ CoN wr ⟨cb, tb, gf, gl, gs, ab, wb, cs, 0, 0, fb, lb, sb⟩ K v (Av v) vn W5.heap.size (w.heap.size + 1) ∧ Frm [ab, wb] w wr) (fun iv _ => (tE K.P).length - (intOf iv).toNat)
  case atStart => exact ⟨0, _, _, _, _, rfl, Nat.zero_le _, Nat.le_refl _, HN5.out, HF5.out⟩
  case round =>
    obtain ⟨v, fb, lb, sb, vn, rfl, hv, hsW, hN, hF⟩ := hrel
    have HN := Lib.hid hN
    have HF := Lib.hid hF
    have hszr := hF.size
    clear hN hF
    by_cases hlt : v < (tE K.P).length
    · have l1 : (v : Int) < (tE K.P).length := by omega
      have hpa : w.heap.size + 1 ∉ [ab, wb] := by
        have := HN.out.pair.differ HN.out.glo.ar.box (by decide); have := HN.out.pair.differ HN.out.glo.ar.row (by decide); simp; omega
      have hne : Nonempty (HW (fun wx => Frm [ab, wb] wr wx)) := ⟨⟨wr, Frm.refl _ _⟩⟩
      have hz1 : ∀ q : HW (fun wx => Frm [ab, wb] wr wx), q.w.cell? ⟨w.heap.size + 1, 1, none⟩ = some (.int .i64 K.lk) := fun q => (HN.out.pair.frm q.h hpa).cell (i := 1) rfl
      have hz2 : ∀ q : HW (fun wx => Frm [ab, wb] wr wx), q.w.cell? ⟨w.heap.size + 1, 2, none⟩ = some (.int .i64 K.par) := fun q => (HN.out.pair.frm q.h hpa).cell (i := 2) rfl
      go_wp2_with fail
      refine held_begin (S := fun wx => Frm [ab, wb] wr wx) (by kernel_rfl) ?_
      refine held_row_at (fuel := 8) (is := [0, 1, 2, 3, 4, 7, 8]) (.cons rfl (.cons rfl (.cons rfl (.cons rfl (.cons rfl (.cons rfl (.cons rfl .nil))))))) (by kernel_rfl) (fun _ _ _ _ _ h => h) rfl (by kernel_rfl) (Frm.refl _ _).drew1 ?_
      intro Kq hK
      repeat (go_big_quiet_step (fail))
      refine wpQuiet_nil (hK _ ?_)
      clear hK Kq
      refine held_call (fuel := 7) (i := 5) rfl (by kernel_rfl) ?_
      go_wp2_with fail
      refine (tMates_f (P := K.P) (T := K.T) ((HN.out.same ((Frm.refl [] wr).drew1)).tab) hlt).mono ?_
      rintro e w' ⟨rfl, rfl⟩
      obtain ⟨c, hc⟩ : ∃ c, c = K.T.count ((tE K.P)[v]?.getD 0) := ⟨_, rfl⟩
      rw [← hc]
      have HC := Lib.hid hc
      clear hc
      go_wp2_with fail
      refine onNormal_mk ⟨(Frm.refl _ _).drew1, ?_⟩
      refine held_row_at (fuel := 6) (is := [6]) (.cons rfl .nil) (by kernel_rfl) (fun _ _ _ _ _ h => h) rfl (by kernel_rfl) (Frm.refl _ _).drew1 ?_
      intro Kq hK
      repeat (go_big_quiet_step (fail))
      refine wpQuiet_nil (hK _ ?_)
      clear hK Kq
      have hFN := fNew_ok ((HN.out.same ((Frm.refl [] wr).drew1)).glo.ar) (K.L v) (HCA.out.lOk v hlt) (HCA.out.lb v hlt) (HCA.out.lr v hlt)
      have hmc : ((K.L v).n : Int) = if c ≤ 1 then 1 else (c : Int) := by
        rw [HCA.out.ln v hlt, ← HC.out]
        split <;> omega
      generalize hm : ((K.L v).n : Int) = m at hFN hmc
      clear hm
      rw [HCA.out.lk v hlt, HCA.out.lp v hlt] at hFN
      have HFN := Lib.hid hFN
      have HMC := Lib.hid hmc
      clear hFN hmc
      refine held_call (fuel := 5) (i := 9) rfl (by kernel_rfl) ?_
      go_wp2_with fail
      all_goals
        have hmc := HMC.out
        first
          | (have e : m = (c : Int) := (by rw [hmc, if_neg (by omega)]); rw [e] at HFN)
          | (have e : m = 1 := (by rw [hmc, if_pos (by omega)]); rw [e] at HFN)
        clear hmc HMC
        refine HFN.out.mono ?_
        rintro e w2 ⟨f, l, s, rfl, hf, hl, hs', hL, hF2⟩
        have HF2 := Lib.hid (((Frm.refl [ab, wb] wr).drew1).trans hF2)
        have HN2 := Lib.hid ((HN.out.same ((Frm.refl [] wr).drew1)).arena hF2 hL.ar)
        have hT := Take_any hL.ar 1
        rw [HCA.out.t0 v hlt, HCA.out.t1 v hlt, HCA.out.t2 v hlt] at hT
        have HT := Lib.hid hT
        have HL2 := Lib.hid hL
        have hsn : s ≠ cs ∧ s ≠ gs ∧ ∀ u, u < v → s ≠ sb u := by
          have q1 := HN.out.row.lt
          obtain ⟨_, q2⟩ := HN.out.glo.srow
          have q3 := q2.lt
          have q1' : cs < wr.heap.size := q1
          have q3' : gs < wr.heap.size := q3
          have hs2 : wr.heap.size ≤ s := hs'
          refine ⟨by omega, by omega, fun u hu => ?_⟩
          obtain ⟨_, q4⟩ := (HN.out.loc u hu).srow
          have q5 : sb u < wr.heap.size := q4.lt
          omega
        have HSN := Lib.hid hsn
        have hbps : w.heap.size + 1 ≤ s + 1 := by
          have hs2 : wr.heap.size ≤ s := hs'
          have := HF.out.size
          omega
        have HBPS := Lib.hid hbps
        have hszr2 := HF2.out.size
        clear hF2 hL hT hsn hbps hz1 hz2 hpa hf hl hs'
        go_wp2_with fail
        refine onNormal_mk ⟨HF2.out, ?_⟩
        refine held_row_at (fuel := 0) (is := [10, 11, 12, 13, 14]) (.cons rfl (.cons rfl (.cons rfl (.cons rfl (.cons rfl .nil))))) (by kernel_rfl) (fun _ _ _ _ _ h => h) rfl (by kernel_rfl) HF2.out ?_
        intro Kq hK
        repeat (go_big_quiet_step (fail))
        refine wpQuiet_nil (hK _ ?_)
        clear hK Kq
        refine held_end (by kernel_rfl) ?_
        clear hne
        go_wp2_with fail
        refine HT.out.mono ?_
        rintro e w3 ⟨rfl, hA3, hF3⟩
        have HN3 := Lib.hid (HN2.out.arena hF3 hA3)
        have HL3 := Lib.hid (HL2.out.re hF3 (by have := HL2.out.apart; simp; omega) (by have := HL2.out.apart; simp; omega) (by have := HL2.out.apart; simp; omega) hA3)
        have HF3 := Lib.hid (HF2.out.trans hF3)
        have c7 := HN3.out.box.cell (i := 7) rfl
        have hszr3 := hF3.size
        clear hA3 hF3
        go_wp2_with (at_builtin; go_must (refine wpList_append_own _ rfl _ _ 199 rfl W5.heap.size 203 i0 (.agg #[.pointer none, .int .i64 0]) 2 16 Tryz.underlying199 HIN.out.1 HIN.out.2.1 HIN.out.2.2.1 HIN.out.2.2.2 rfl (by decide) vn v _ rfl (HN3.out.nod.alloc _) ⟨w3.heap.size, 0, none⟩ 1 1 [.pointer (some ⟨f, 0, none⟩), .int .i64 (K.cn v : Nat)] rfl rfl (cell_two_new _ _ _ _) (by simp [Value.oneCell']) (by unfold maxLen; omega) (by omega) (by rw [World.size_alloc]; omega) ?_; intro v' wA hown hgrow _; obtain ⟨va, vl, vc, rfl⟩ := rowSlice hown; have hbx := HN3.out.box_at hgrow; have bc := hbx.cell (i := 7) rfl; have bz := hbx.frozen; have HG := Lib.hid (HN3.out.grow HL3.out HSN.out HBPS.out hown hgrow); have HFA := Lib.hid ((grown_frm hgrow)); have HOW := Lib.hid (ownLt HN3.out.nod); clear hown hgrow hbx))
        go_roundw
        case rel => exact ⟨v + 1, _, _, _, _, by go_num, by omega, (by show W5.heap.size ≤ (World.setCell _ _ _).heap.size; have := HFA.out.size; simp [World.setCell]; omega), HG.out, ((HF.out.trans HF3.out).widen HFA.out (fun z hz => .inr (by have := (HOW.out z (by simpa using hz)).1; have := HF5.out.size; omega))).set _ _ (.inr (by show w.heap.size ≤ cb; omega))⟩
        case measure => simp [intOf]; omega
    · have hve : v = (tE K.P).length := by omega
      subst hve
      have hE1 : 1 ≤ K.E := by have := HCA.out.gOk.n1; rw [HCA.out.gn] at this; exact this
      have HDN := Lib.hid (HN.out.done hE1 HOK.out)
      have HNW := Lib.hid HN.out.new
      clear hE1
      go_wp2
      go_ret2
      obtain ⟨nb, cap, hD⟩ := HDN.out
      exact ⟨_, rfl, ⟨rfl, rfl, ⟨Nat.le_of_succ_le_succ HNW.out.1, Nat.le_of_succ_le_succ HNW.out.2.1, fun u hu => Nat.le_of_succ_le_succ (HNW.out.2.2 u hu)⟩⟩, hD, HF.out⟩
end
end Go.Proofs.YteijjhahgabalaaGreat

/- The contracts of locks.New, for a cohort. -/
namespace Go.Proofs.YteijjhahgabalaaGreat
open Go.RowKit
set_option maxRecDepth 100000 in
theorem name6 (w : World) : Calls Tryz.prog 55 #[.int .i64 6] w fun e w' => e = .returned (.string ⟨#[99, 111, 104, 111, 114, 116]⟩) ∧ Frm [] w w' := by
  go_enter Tryz.func55, Tryz.ntmps55
  go_wp2
  go_ret
  exact ⟨rfl, (Frm.refl _ _).alloc _⟩
end Go.Proofs.YteijjhahgabalaaGreat

/- locks.make for a cohort; what a cohort is in stays while the box of the lock that wraps it turns. -/
namespace Go.Proofs.YteijjhahgabalaaGreat
open Go.RowKit
section
variable {w w' : World} {lk : Nat} {vs : List Value}
theorem FlAt.lockNot {fb lb sb ab wb : Nat} {A : AR} {F : Nat → Nat → Int} {M : FK} (h : FlAt w fb lb sb ab wb A F M) (hk : HAt w lk vs 119) : fb ≠ lk ∧ lb ≠ lk ∧ sb ≠ lk := by
  obtain ⟨_, h1⟩ := h.fbox
  obtain ⟨_, h2⟩ := h.srow
  refine ⟨h1.differ hk (by decide), ?_, h2.differ hk (by decide)⟩
  cases h with
  | tas e hb h hA => exact h.box.differ hk (by decide)
  | ticket e hb h hA => exact h.box.differ hk (by decide)
  | parted e hb h => exact h.box.differ hk (by decide)
  | mcs e hb h => exact h.box.differ hk (by decide)
  | clh X e hb h => exact h.box.differ hk (by decide)
theorem ArAt.lockNot {ab wb : Nat} {A : AR} (h : ArAt w ab wb A) (hk : HAt w lk vs 119) : ab ≠ lk ∧ wb ≠ lk :=
  ⟨h.box.differ hk (by decide), h.row.differ hk (by decide)⟩
theorem IR.lockFrm {g : Nat} {v : Value} {zs : List Int} (h : IR w g v zs) (hk : HAt w lk vs 119) (hf : Frm [lk] w w') : IR w' g v zs := by
  have h0 := h
  obtain ⟨_, _, _, hh, _⟩ := h
  exact h0.frm hf (by simp; exact hh.differ hk (by decide))
theorem TbF.lockFrm {tb : Nat} {P T : List Int} (h : TbF w tb P T) (hk : HAt w lk vs 119) (hf : Frm [lk] w w') : TbF w' tb P T := by
  obtain ⟨vp, vt, vup, vnode, vslot, vm, gt, gn, gs, gm, h1, h2, h3, h4, h5⟩ := h
  exact ⟨vp, vt, vup, vnode, vslot, vm, gt, gn, gs, gm, h1.frm hf (by simp; exact h1.differ hk (by decide)), h2.lockFrm hk hf, h3.lockFrm hk hf, h4.lockFrm hk hf, h5.lockFrm hk hf⟩
theorem FlAt.lockFrm {fb lb sb ab wb : Nat} {A : AR} {F : Nat → Nat → Int} {M : FK} (h : FlAt w fb lb sb ab wb A F M) (hk : HAt w lk vs 119) (hf : Frm [lk] w w') : FlAt w' fb lb sb ab wb A F M := by
  have n1 := h.lockNot hk
  have n2 := h.ar.lockNot hk
  exact h.frm hf (by simp; omega)
theorem CoAt.lockFrm {B : CB} {K : CK} {S : CS} (h : CoAt w B K S) (hk : HAt w lk vs 119) (hf : Frm [lk] w w') : CoAt w' B K S := by
  obtain ⟨cells, hn, hc⟩ := h.nod
  exact { box := h.box.frm hf (by simp; exact h.box.differ hk (by decide)), tab := h.tab.lockFrm hk hf, glo := h.glo.lockFrm hk hf, nod := ⟨cells, hn.frm hf (by simp; exact hn.differ hk (by decide)), hc⟩, loc := fun v hv => (h.loc v hv).lockFrm hk hf, row := h.row.frm hf (by simp; exact h.row.differ hk (by decide)), dif := h.dif, ok := h.ok }
end
section
variable {w : World} {b1 b2 ab wb lk : Nat} {v u : Value} {A : AR}
def firstS (K : CK) (Av : Nat → AR) : CS := ⟨Av (tE K.P).length, fS0 K.G, fun v => fS0 (K.L v), fun _ _ => 0⟩
set_option maxRecDepth 100000 in
set_option maxHeartbeats 4000000 in
theorem loMake_ok {K : CK} {Av : Nat → AR} (hx : RowAt w b1 v K.P) (hy : RowAt w b2 u K.T) (h : CoSch K Av A) (hA : ArAt w ab wb A) (hL : HAt w lk [.int .i64 6, .int .i64 K.n, .nilIface] 119) :
    Calls Tryz.prog 57 #[.pointer (some ⟨lk, 0, none⟩), .pointer (some ⟨ab, 0, none⟩), .agg #[v, u], .agg #[.int .i64 K.gk, .int .i64 K.lk, .int .i64 K.par, .int .i64 K.bud]] w fun e w' => ∃ B : CB, e = .returned (.int .i64 0) ∧ (B.ab = ab ∧ B.wb = wb ∧ FreshB w.heap.size B K) ∧ LoAt w' lk B K (firstS K Av) ∧ Frm [ab, wb, lk] w w' := by
  have n1 := hA.lockNot hL
  have HF0 := Lib.hid (((Frm.refl [] w).alloc (.cells #[v, u] 24)).alloc (.cells #[.int .i64 K.gk, .int .i64 K.lk, .int .i64 K.par, .int .i64 K.bud] 42))
  have HN := Lib.hid (coNew_ok (hx.frm HF0.out (by simp)) (hy.frm HF0.out (by simp)) h (hA.frm HF0.out (by simp) (by simp)))
  have HB1 := Lib.hid ((HAt.new w #[v, u] 24).frm ((Frm.refl [] _).alloc (.cells #[.int .i64 K.gk, .int .i64 K.lk, .int .i64 K.par, .int .i64 K.bud] 42)) (by simp))
  have HB2 := Lib.hid (HAt.new (w.alloc (.cells #[v, u] 24)) #[.int .i64 K.gk, .int .i64 K.lk, .int .i64 K.par, .int .i64 K.bud] 42)
  have HL := Lib.hid (hL.frm HF0.out (by simp))
  have c0 := HL.out.cell (i := 0) rfl
  have HLL := Lib.hid hL
  obtain ⟨a1, cap1, rfl, -, -⟩ := hx
  obtain ⟨a2, cap2, rfl, -, -⟩ := hy
  clear hA hL h
  go_enter Tryz.func57, Tryz.ntmps57
  go_wp2_with fail
  refine HN.out.mono ?_
  rintro e w1 ⟨B, rfl, hab, hC, hF⟩
  have hL1 := HL.out.frm hF (by simp; omega)
  have l0 := hL1.cell (i := 2) rfl
  have lz := hL1.frozen
  have HL1 := Lib.hid hL1
  have HC := Lib.hid hC
  have HF := Lib.hid ((HF0.out.mono (S' := [ab, wb]) (by simp)).trans hF)
  clear hF hC hL1
  go_wp2
  go_ret
  exact ⟨B, rfl, ⟨hab.1, hab.2.1, hab.2.2.mono (by simp; omega)⟩, ⟨HL1.out.set 2 _, HC.out.lockFrm HL1.out ((Frm.refl _ _).set _ _ (.inl (by simp)))⟩, (HF.out.mono (S' := [ab, wb, lk]) (by simp)).set _ _ (.inl (by simp))⟩
set_option maxRecDepth 100000 in
set_option maxHeartbeats 4000000 in
theorem loNew_ok {K : CK} {Av : Nat → AR} (hx : RowAt w b1 v K.P) (hy : RowAt w b2 u K.T) (h : CoSch K Av A) (hA : ArAt w ab wb A) :
    Calls Tryz.prog 38 #[.pointer (some ⟨ab, 0, none⟩), .agg #[v, u], .agg #[.int .i64 6, .int .i64 K.gk, .int .i64 K.lk, .int .i64 K.par, .int .i64 K.bud]] w fun e w' => ∃ (lk : Nat) (B : CB), e = .returned (.tuple #[.pointer (some ⟨lk, 0, none⟩), .int .i64 0]) ∧ (B.ab = ab ∧ B.wb = wb ∧ FreshB w.heap.size B K) ∧ LoAt w' lk B K (firstS K Av) ∧ Frm [ab, wb] w w' := by
  have HF0 := Lib.hid (((Frm.refl [] w).alloc (.cells #[v, u] 24)).alloc (.cells #[.int .i64 6, .int .i64 K.gk, .int .i64 K.lk, .int .i64 K.par, .int .i64 K.bud] 44))
  have HB1 := Lib.hid ((HAt.new w #[v, u] 24).frm ((Frm.refl [] _).alloc (.cells #[.int .i64 6, .int .i64 K.gk, .int .i64 K.lk, .int .i64 K.par, .int .i64 K.bud] 44)) (by simp))
  have hb2 := HAt.new (w.alloc (.cells #[v, u] 24)) #[.int .i64 6, .int .i64 K.gk, .int .i64 K.lk, .int .i64 K.par, .int .i64 K.bud] 44
  rw [World.size_alloc] at hb2
  have HB2 := Lib.hid hb2
  have HCK := Lib.hid (fun (W : World) (hf : Frm [] w W) => pCheck_ok W (hx.frm hf (by simp)) (hy.frm hf (by simp)) h.ok)
  have HMK := Lib.hid (fun (W : World) (lk : Nat) (hf : Frm [] w W) (hl : HAt W lk [.int .i64 6, .int .i64 K.n, .nilIface] 119) => loMake_ok (hx.frm hf (by simp)) (hy.frm hf (by simp)) h (hA.frm hf (by simp) (by simp)) hl)
  obtain ⟨s1, s2, s3, s4⟩ := h.ok.size
  have HN := Lib.hid (rfl : K.n = K.T.length)
  obtain ⟨a1, cap1, rfl, -, -⟩ := hx
  obtain ⟨a2, cap2, rfl, -, -⟩ := hy
  clear hA h hb2
  go_enter Tryz.func38, Tryz.ntmps38
  go_wp2_with fail
  refine (name6 _).mono ?_
  rintro e w1 ⟨rfl, hF1⟩
  have HF1 := Lib.hid (HF0.out.trans hF1)
  have HB1' := Lib.hid (HB1.out.frm hF1 (by simp))
  have HB2' := Lib.hid (HB2.out.frm hF1 (by simp))
  have t0 := HB1'.out.cell (i := 0) rfl
  have t1 := HB1'.out.cell (i := 1) rfl
  have s0 := HB2'.out.cell (i := 0) rfl
  have s1' := HB2'.out.cell (i := 1) rfl
  have s2' := HB2'.out.cell (i := 2) rfl
  have s3' := HB2'.out.cell (i := 3) rfl
  have s4' := HB2'.out.cell (i := 4) rfl
  clear hF1 HB1 HB2
  go_wp2_with fail
  refine (HCK.out w1 HF1.out).mono ?_
  rintro e w2 ⟨rfl, hF2⟩
  have HF2 := Lib.hid (HF1.out.trans hF2)
  have HT := Lib.hid (HB1'.out.frm hF2 (by simp))
  have HS := Lib.hid (HB2'.out.frm hF2 (by simp))
  clear hF2 HB1' HB2' t0 t1 s0 s1' s2' s3' s4' HF1 HF0 HCK
  have t0 := HT.out.cell (i := 0) rfl
  have t1 := HT.out.cell (i := 1) rfl
  have s0 := HS.out.cell (i := 0) rfl
  have s1' := HS.out.cell (i := 1) rfl
  have s2' := HS.out.cell (i := 2) rfl
  have s3' := HS.out.cell (i := 3) rfl
  have s4' := HS.out.cell (i := 4) rfl
  have q1 := HT.out.lt
  have q2 := HS.out.lt
  go_wp2_with fail
  refine (HMK.out _ w2.heap.size (HF2.out.alloc _) (HAt.new w2 _ _)).mono ?_
  rintro e w3 ⟨B, rfl, hab, hL, hF3⟩
  have HL := Lib.hid hL
  have HF3 := Lib.hid (HF2.out.alloc (.cells #[.int .i64 6, .int .i64 K.n, .nilIface] 119) |>.mono (S' := [ab, wb]) (by simp) |>.widen hF3 (fun z hz => by simp at hz; rcases hz with e | e | e; exact .inl (by simp [e]); exact .inl (by simp [e]); exact .inr (by rw [e]; exact HF2.out.size)))
  clear hL hF3
  go_wp2
  go_ret2
  exact ⟨_, B, rfl, ⟨hab.1, hab.2.1, hab.2.2.mono (by have := HF2.out.size; simp; omega)⟩, HL.out, HF3.out⟩
end
end Go.Proofs.YteijjhahgabalaaGreat

/- The world of a cohort lock: New, Threads, Ops, Last, State. -/
namespace Go.Proofs.YteijjhahgabalaaGreat
open Go.RowKit
structure WoAt (w : World) (wo tb lk : Nat) (B : CB) (K : CK) (S : CS) : Prop where
  box : HAt w wo [.pointer (some ⟨B.ab, 0, none⟩), .pointer (some ⟨tb, 0, none⟩), .pointer (some ⟨lk, 0, none⟩), .bool false] 82
  lo : LoAt w lk B K S
section
variable {w w' : World} {rb : Nat} {vs : List Value}
theorem FlAt.evNot {fb lb sb ab wb : Nat} {A : AR} {F : Nat → Nat → Int} {M : FK} (h : FlAt w fb lb sb ab wb A F M) (hk : HAt w rb vs 35) : fb ≠ rb ∧ lb ≠ rb ∧ sb ≠ rb := by
  obtain ⟨_, h1⟩ := h.fbox
  obtain ⟨_, h2⟩ := h.srow
  refine ⟨h1.differ hk (by decide), ?_, h2.differ hk (by decide)⟩
  cases h with
  | tas e hb h hA => exact h.box.differ hk (by decide)
  | ticket e hb h hA => exact h.box.differ hk (by decide)
  | parted e hb h => exact h.box.differ hk (by decide)
  | mcs e hb h => exact h.box.differ hk (by decide)
  | clh X e hb h => exact h.box.differ hk (by decide)
theorem ArAt.evNot {ab wb : Nat} {A : AR} (h : ArAt w ab wb A) (hk : HAt w rb vs 35) : ab ≠ rb ∧ wb ≠ rb :=
  ⟨h.box.differ hk (by decide), h.row.differ hk (by decide)⟩
theorem IR.evFrm {g : Nat} {v : Value} {zs : List Int} (h : IR w g v zs) (hk : HAt w rb vs 35) (hf : Frm [rb] w w') : IR w' g v zs := by
  have h0 := h
  obtain ⟨_, _, _, hh, _⟩ := h
  exact h0.frm hf (by simp; exact hh.differ hk (by decide))
theorem TbF.evFrm {tb : Nat} {P T : List Int} (h : TbF w tb P T) (hk : HAt w rb vs 35) (hf : Frm [rb] w w') : TbF w' tb P T := by
  obtain ⟨vp, vt, vup, vnode, vslot, vm, gt, gn, gs, gm, h1, h2, h3, h4, h5⟩ := h
  exact ⟨vp, vt, vup, vnode, vslot, vm, gt, gn, gs, gm, h1.frm hf (by simp; exact h1.differ hk (by decide)), h2.evFrm hk hf, h3.evFrm hk hf, h4.evFrm hk hf, h5.evFrm hk hf⟩
theorem FlAt.evFrm {fb lb sb ab wb : Nat} {A : AR} {F : Nat → Nat → Int} {M : FK} (h : FlAt w fb lb sb ab wb A F M) (hk : HAt w rb vs 35) (hf : Frm [rb] w w') : FlAt w' fb lb sb ab wb A F M := by
  have n1 := h.evNot hk
  have n2 := h.ar.evNot hk
  exact h.frm hf (by simp; omega)
theorem CoAt.evFrm {B : CB} {K : CK} {S : CS} (h : CoAt w B K S) (hk : HAt w rb vs 35) (hf : Frm [rb] w w') : CoAt w' B K S := by
  obtain ⟨cells, hn, hc⟩ := h.nod
  exact { box := h.box.frm hf (by simp; exact h.box.differ hk (by decide)), tab := h.tab.evFrm hk hf, glo := h.glo.evFrm hk hf, nod := ⟨cells, hn.frm hf (by simp; exact hn.differ hk (by decide)), hc⟩, loc := fun v hv => (h.loc v hv).evFrm hk hf, row := h.row.frm hf (by simp; exact h.row.differ hk (by decide)), dif := h.dif, ok := h.ok }
theorem WoAt.evs {wo tb lk : Nat} {B : CB} {K : CK} {S : CS} (h : WoAt w wo tb lk B K S) (hk : HAt w rb vs 35) (hf : Frm [rb] w w') : WoAt w' wo tb lk B K S :=
  ⟨h.box.frm hf (by simp; exact h.box.differ hk (by decide)), h.lo.box.frm hf (by simp; exact h.lo.box.differ hk (by decide)), h.lo.co.evFrm hk hf⟩
end
section
variable {w w' : World} {wo tb lk : Nat} {B : CB} {K : CK} {S S' : CS}
theorem WoAt.next (h : WoAt w wo tb lk B K S) (hf : Frm (CZ B K) w w') (hc : LoAt w' lk B K S') : WoAt w' wo tb lk B K S' := ⟨h.box.frm hf (h.lo.co.mut.not h.box), hc⟩
theorem WoAt.same (h : WoAt w wo tb lk B K S) (hf : Frm [] w w') : WoAt w' wo tb lk B K S := ⟨h.box.frm hf (by simp), h.lo.same hf⟩
theorem shares6 (W : World) : Calls Tryz.prog 11 #[.int .i64 6] W fun e w' => e = .returned (.bool false) ∧ W = w' := by
  go_enter Tryz.func11, Tryz.ntmps11
  go_wp2
  go_ret
  exact ⟨rfl, rfl⟩
theorem woThreads (h : WoAt w wo tb lk B K S) : Calls Tryz.prog 24 #[.pointer (some ⟨wo, 0, none⟩)] w fun e w' => e = .returned (.int .i64 K.n) ∧ w = w' := by
  have c2 := h.box.cell (i := 2) rfl
  have HT := Lib.hid (loThreads h.lo)
  clear h
  go_enter Tryz.func24, Tryz.ntmps24
  go_wp2_with fail
  refine HT.out.mono ?_
  rintro e w' ⟨rfl, rfl⟩
  go_wp2
  go_ret
  exact ⟨rfl, rfl⟩
theorem woOps (h : WoAt w wo tb lk B K S) : Calls Tryz.prog 15 #[.pointer (some ⟨wo, 0, none⟩)] w fun e w' => e = .returned (.int .i64 S.A.ops) ∧ w = w' := by
  have c2 := h.box.cell (i := 0) rfl
  have HT := Lib.hid (Ops_any h.lo.co.ar)
  clear h
  go_enter Tryz.func15, Tryz.ntmps15
  go_wp2_with fail
  refine HT.out.mono ?_
  rintro e w' ⟨rfl, rfl⟩
  go_wp2
  go_ret
  exact ⟨rfl, rfl⟩
def lastV (A : AR) : Value := .agg #[.int .i64 A.k, .int .i64 A.at_, .bool A.wr]
theorem Last_ar {ab wb : Nat} {A : AR} (h : ArAt w ab wb A) : Calls Tryz.prog 35 #[.pointer (some ⟨ab, 0, none⟩)] w fun e w' => e = .returned (lastV A) ∧ Frm [] w w' := by
  have hF : Frm [] w (w.alloc (.cells #[.int .i64 0, .int .i64 0, .bool false] 53)) := (Frm.refl _ _).alloc _
  have hB := HAt.new w #[.int .i64 0, .int .i64 0, .bool false] 53
  have h2 := h.frm hF (by simp) (by simp)
  have c3 := h2.box.cell (i := 3) rfl
  have c4 := h2.box.cell (i := 4) rfl
  have c5 := h2.box.cell (i := 5) rfl
  unfold lastV
  clear h h2
  go_enter Tryz.func35, Tryz.ntmps35
  go_wp2_with fail
  refine bodyPost_ret (v := .agg #[.int .i64 A.k, .int .i64 A.at_, .bool A.wr]) (by simp [results, Tryz.results35, go_sem]) rfl ⟨rfl, ?_⟩
  exact (Frm.refl _ _).alloc _
theorem woLast (h : WoAt w wo tb lk B K S) : Calls Tryz.prog 17 #[.pointer (some ⟨wo, 0, none⟩)] w fun e w' => e = .returned (lastV S.A) ∧ Frm [] w w' := by
  have hF : Frm [] w (w.alloc (.cells #[.int .i64 0, .int .i64 0, .bool false] 53)) := (Frm.refl _ _).alloc _
  have hB := HAt.new w #[.int .i64 0, .int .i64 0, .bool false] 53
  have h2 := h.same hF
  have c0 := h2.box.cell (i := 0) rfl
  have HT := Lib.hid (Last_ar h2.lo.co.ar)
  have HB := Lib.hid hB
  have HF := Lib.hid hF
  clear h h2 hF hB
  go_enter Tryz.func17, Tryz.ntmps17
  go_wp2_with fail
  refine HT.out.mono ?_
  rintro e w1 ⟨rfl, hF⟩
  have hb := HB.out.frm hF (by simp)
  have b0 := hb.cell (i := 0) rfl
  have b1 := hb.cell (i := 1) rfl
  have b2 := hb.cell (i := 2) rfl
  have bz := hb.frozen
  have hlt := hb.lt
  have HF1 := Lib.hid (HF.out.trans hF)
  have hfin : HAt (((w1.setCell ⟨w.heap.size, 0, none⟩ (.int .i64 S.A.k)).setCell ⟨w.heap.size, 1, none⟩ (.int .i64 S.A.at_)).setCell ⟨w.heap.size, 2, none⟩ (.bool S.A.wr)) w.heap.size [.int .i64 S.A.k, .int .i64 S.A.at_, .bool S.A.wr] 53 ∧ Frm [] w (((w1.setCell ⟨w.heap.size, 0, none⟩ (.int .i64 S.A.k)).setCell ⟨w.heap.size, 1, none⟩ (.int .i64 S.A.at_)).setCell ⟨w.heap.size, 2, none⟩ (.bool S.A.wr)) :=
    ⟨((hb.set 0 (.int .i64 S.A.k)).set 1 (.int .i64 S.A.at_)).set 2 (.bool S.A.wr), ((HF1.out.set _ _ (.inr (Nat.le_refl _))).set _ _ (.inr (Nat.le_refl _))).set _ _ (.inr (Nat.le_refl _))⟩
  have HW2 := Lib.hid hfin
  clear hF hb hfin
  unfold lastV
  go_wp2_with fail
  generalize ((w1.setCell ⟨w.heap.size, 0, none⟩ (.int .i64 S.A.k)).setCell ⟨w.heap.size, 1, none⟩ (.int .i64 S.A.at_)).setCell ⟨w.heap.size, 2, none⟩ (.bool S.A.wr) = W2 at *
  have k0 := HW2.out.1.cell (i := 0) rfl
  have k1 := HW2.out.1.cell (i := 1) rfl
  have k2 := HW2.out.1.cell (i := 2) rfl
  exact bodyPost_ret (v := .agg #[.int .i64 S.A.k, .int .i64 S.A.at_, .bool S.A.wr]) (by simp [results, Tryz.results17, go_sem, k0, k1, k2]) rfl ⟨rfl, HW2.out.2⟩
theorem woState (h : WoAt w wo tb lk B K S) (i : Int) : Calls Tryz.prog 28 #[.pointer (some ⟨wo, 0, none⟩), .int .i64 i] w fun e w' => e = .returned (.tuple #[.int .i64 (stOf (coPc K S i)), .bool false]) ∧ Frm [] w w' := by
  have HW1 := Lib.hid h
  have HST := Lib.hid (fun (W : World) (hf : Frm [] w W) => loState (h.lo.same hf) i)
  have HRD := Lib.hid (fun (W : World) (hf : Frm [] w W) => loReads (h.lo.same hf) i)
  have hne : Nonempty (HW (fun wx => Frm [] w wx)) := ⟨⟨w, Frm.refl _ _⟩⟩
  have hz0 : ∀ q : HW (fun wx => Frm [] w wx), q.w.cell? ⟨wo, 2, none⟩ = some (.pointer (some ⟨lk, 0, none⟩)) := fun q => (HW1.out.same q.h).box.cell (i := 2) rfl
  generalize stOf (coPc K S i) = st at *
  clear h
  go_enter Tryz.func28, Tryz.ntmps28
  go_wp2_with fail
  refine held_begin (S := fun wx => Frm [] w wx) (by kernel_rfl) ?_
  refine held_row_at (fuel := 4) (is := [0, 1, 2, 3, 4, 6, 7, 8, 9, 10]) (.cons rfl (.cons rfl (.cons rfl (.cons rfl (.cons rfl (.cons rfl (.cons rfl (.cons rfl (.cons rfl (.cons rfl .nil)))))))))) (by kernel_rfl) (fun _ _ _ _ _ h => h) rfl (by kernel_rfl) (Frm.refl _ _).drew1 ?_
  intro K hK
  repeat (go_big_quiet_step (fail))
  refine wpQuiet_nil (hK _ ?_)
  clear hK K
  refine held_call (fuel := 3) (i := 5) rfl (by kernel_rfl) ?_
  go_wp2_with fail
  refine (HST.out _ ((Frm.refl [] w).drew1)).mono ?_
  rintro e w1 ⟨rfl, hF1⟩
  have HF1 := Lib.hid (((Frm.refl [] w).drew1).trans hF1)
  clear hF1
  go_wp2_with fail
  refine onNormal_mk ⟨HF1.out, ?_⟩
  refine held_call (fuel := 2) (i := 11) rfl (by kernel_rfl) ?_
  go_wp2_with fail
  refine (HRD.out _ HF1.out).mono ?_
  rintro e w2 ⟨rfl, hF2⟩
  have HF2 := Lib.hid (HF1.out.trans hF2)
  clear hF2
  go_wp2_with fail
  refine onNormal_mk ⟨HF2.out, ?_⟩
  refine held_row_at (fuel := 0) (is := [12, 13]) (.cons rfl (.cons rfl .nil)) (by kernel_rfl) (fun _ _ _ _ _ h => h) rfl (by kernel_rfl) HF2.out ?_
  intro K hK
  repeat (go_big_quiet_step (fail))
  refine wpQuiet_nil (hK _ ?_)
  clear hK K
  refine held_end (by kernel_rfl) ?_
  go_wp2
  go_ret2
  exact ⟨rfl, HF2.out⟩
end
end Go.Proofs.YteijjhahgabalaaGreat

/- world.New for a cohort lock. -/
namespace Go.Proofs.YteijjhahgabalaaGreat
open Go.RowKit
section
variable {w : World} {b1 b2 : Nat} {v u : Value}
set_option maxRecDepth 100000 in
set_option maxHeartbeats 4000000 in
theorem woNew_ok {K : CK} {Av : Nat → AR} (hx : RowAt w b1 v K.P) (hy : RowAt w b2 u K.T) (h : CoSch K Av (AR.fresh 4096)) :
    Calls Tryz.prog 21 #[.agg #[v, u], .agg #[.int .i64 6, .int .i64 K.gk, .int .i64 K.lk, .int .i64 K.par, .int .i64 K.bud]] w fun e w' => ∃ (wo tb lk : Nat) (B : CB), e = .returned (.tuple #[.pointer (some ⟨wo, 0, none⟩), .int .i64 0]) ∧ WoAt w' wo tb lk B K (firstS K Av) ∧ (∀ z ∈ CZ B K, w.heap.size ≤ z) ∧ Frm [] w w' := by
  have HF0 := Lib.hid (((Frm.refl [] w).alloc (.cells #[v, u] 24)).alloc (.cells #[.int .i64 6, .int .i64 K.gk, .int .i64 K.lk, .int .i64 K.par, .int .i64 K.bud] 44))
  have HB1 := Lib.hid ((HAt.new w #[v, u] 24).frm ((Frm.refl [] _).alloc (.cells #[.int .i64 6, .int .i64 K.gk, .int .i64 K.lk, .int .i64 K.par, .int .i64 K.bud] 44)) (by simp))
  have hb2 := HAt.new (w.alloc (.cells #[v, u] 24)) #[.int .i64 6, .int .i64 K.gk, .int .i64 K.lk, .int .i64 K.par, .int .i64 K.bud] 44
  rw [World.size_alloc] at hb2
  have HB2 := Lib.hid hb2
  have HLN := Lib.hid (fun (W : World) (ab wb : Nat) (hf : Frm [] w W) (ha : ArAt W ab wb (AR.fresh 4096)) => loNew_ok (hx.frm hf (by simp)) (hy.frm hf (by simp)) h ha)
  have HPN := Lib.hid (fun (W : World) (hf : Frm [] w W) => pathNew_ok (hx.frm hf (by simp)) (hy.frm hf (by simp)) h.ok)
  obtain ⟨a1, cap1, rfl, -, -⟩ := hx
  obtain ⟨a2, cap2, rfl, -, -⟩ := hy
  clear h hb2
  go_enter Tryz.func21, Tryz.ntmps21
  go_wp2_with fail
  refine (New_any 4096 _).mono ?_
  rintro e w1 ⟨rfl, hA, hF1⟩
  have e4 : roomOf 4096 = 4096 := by decide
  rw [e4] at hA
  generalize hab : (((w.alloc (.cells #[.slice a1 K.P.length cap1, .slice a2 K.T.length cap2] 24)).alloc (.cells #[.int .i64 6, .int .i64 K.gk, .int .i64 K.lk, .int .i64 K.par, .int .i64 K.bud] 44))).heap.size = ab at hA ⊢
  have hlo : w.heap.size + 2 ≤ ab := by rw [← hab, World.size_alloc, World.size_alloc]; omega
  clear hab
  have HA := Lib.hid hA
  have HF1 := Lib.hid (HF0.out.trans hF1)
  have HB1' := Lib.hid (HB1.out.frm hF1 (by simp))
  have HB2' := Lib.hid (HB2.out.frm hF1 (by simp))
  have t0 := HB1'.out.cell (i := 0) rfl
  have t1 := HB1'.out.cell (i := 1) rfl
  have s0 := HB2'.out.cell (i := 0) rfl
  have s1' := HB2'.out.cell (i := 1) rfl
  have s2' := HB2'.out.cell (i := 2) rfl
  have s3' := HB2'.out.cell (i := 3) rfl
  have s4' := HB2'.out.cell (i := 4) rfl
  clear hF1 HB1 HB2 hA
  go_wp2_with fail
  refine (HLN.out w1 _ _ HF1.out HA.out).mono ?_
  rintro e w2 ⟨lk, B, rfl, ⟨hB1, hB2, hFB⟩, hL, hF2⟩
  have HFB := Lib.hid (hFB.mono HF1.out.size)
  clear hFB
  have HT := Lib.hid (HB1'.out.frm hF2 (by simp; omega))
  have HS := Lib.hid (HB2'.out.frm hF2 (by simp; omega))
  have HF2 := Lib.hid (HF1.out.widen hF2 (fun z hz => .inr (by simp at hz; omega)))
  have HL := Lib.hid hL
  clear hF2 hL HB1' HB2' t0 t1 s0 s1' s2' s3' s4' HA HLN
  have t0 := HT.out.cell (i := 0) rfl
  have t1 := HT.out.cell (i := 1) rfl
  go_wp2_with fail
  refine (HPN.out w2 HF2.out).mono ?_
  rintro e w3 ⟨tb, rfl, htb, hTb, hF3⟩
  have HS3 := Lib.hid (HS.out.frm hF3 (by simp))
  have HF3 := Lib.hid (HF2.out.trans hF3)
  have HL3 := Lib.hid (HL.out.same hF3)
  clear hF3 hTb htb
  have s0 := HS3.out.cell (i := 0) rfl
  go_wp2_with fail
  refine (shares6 _).mono ?_
  rintro e w' ⟨rfl, rfl⟩
  go_wp2
  go_ret2
  have hz : ∀ z ∈ CZ B K, w.heap.size ≤ z := by
    intro z hz
    rcases mem_CZ.1 hz with e | e | e | e | ⟨v, hv, e⟩
    · rw [e]; exact HFB.out.1
    · rw [e]; exact HFB.out.2.1
    · omega
    · omega
    · rw [← e]; exact HFB.out.2.2 v hv
  rw [← hB1]
  exact ⟨_, tb, lk, B, rfl, ⟨HAt.new _ _ _, HL3.out.same ((Frm.refl _ _).alloc _)⟩, hz, HF3.out.alloc _⟩
end
end Go.Proofs.YteijjhahgabalaaGreat
