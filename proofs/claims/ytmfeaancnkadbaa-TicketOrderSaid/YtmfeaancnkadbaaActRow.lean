/- Rows of acts of one's own, and the arena's last op. -/
import Derived.Test.YtmfeaancnkadbaaTicketLive
import Derived.Test.YtmfeaancnkadbaaTicketOne
import Derived.Deep.CutBlock
import Derived.Deep.DeepCutAuto
import Derived.Deep.DeepMust
import Derived.Laws.AppendOwnNone
namespace Go.Proofs.Ytmfeaancnkadbaa
open Go.ChangeShapes Go.WideShapes Go.RowKit Go.Deep

theorem actInfo : (Try.prog.info? 46).map (fun i => (i.zero, i.size, i.bytes)) = some (some (.agg #[.int .i64 0, .int .i64 0]), 2, 16) := by kernel_rfl
theorem opKind (a b : Int) (c : Bool) (W : World) : (Instr.field 49 (.agg #[.int .i64 a, .int .i64 b, .bool c]) 0).run Try.prog W = .ok (.int .i64 a) W := by kernel_rfl

theorem Last_any {w : World} {ab wb : Nat} {A : AR} (h : ArAt w ab wb A) : Calls Try.prog 27 #[.pointer (some ⟨ab, 0, none⟩)] w fun e w' => e = .returned (.agg #[.int .i64 A.k, .int .i64 A.at_, .bool A.wr]) ∧ Frm [] w w' := by
  have hF : Frm [] w (w.alloc (.cells #[.int .i64 0, .int .i64 0, .bool false] 49)) := (Frm.refl _ _).alloc _
  have hb := h.box.frm hF (by simp)
  have c3 := hb.cell (i := 3) rfl
  have c4 := hb.cell (i := 4) rfl
  have c5 := hb.cell (i := 5) rfl
  generalize A.k = k at *
  generalize A.at_ = t at *
  generalize A.wr = wr at *
  clear h hb hF
  go_enter Try.func27, Try.ntmps27
  go_wp2_with fail
  refine bodyPost_ret (v := .agg #[.int .i64 k, .int .i64 t, .bool wr]) (by simp [results, Try.results27, go_sem]) rfl ⟨rfl, ?_⟩
  exact (Frm.refl _ _).alloc _

/-- the cells of a row of acts -/
def actsC : List (Int × Int) → List Value
  | [] => []
  | x :: l => .int .i64 x.1 :: .int .i64 x.2 :: actsC l
theorem actsC_append : ∀ l m, actsC (l ++ m) = actsC l ++ actsC m
  | [], _ => rfl
  | x :: l, m => by simp [actsC, actsC_append l m]
theorem actsC_len : ∀ l, (actsC l).length = l.length * 2
  | [] => rfl
  | x :: l => by simp [actsC, actsC_len l]; omega
theorem actsC_get : ∀ {l : List (Int × Int)} {i : Nat} {x : Int × Int}, l[i]? = some x → (actsC l)[i * 2]? = some (.int .i64 x.1) ∧ (actsC l)[i * 2 + 1]? = some (.int .i64 x.2)
  | [], i, x, h => by simp at h
  | y :: l, 0, x, h => by simp at h; subst h; exact ⟨rfl, rfl⟩
  | y :: l, i + 1, x, h => by
    have := actsC_get (l := l) (i := i) (x := x) (by simpa using h)
    rw [show (i + 1) * 2 = i * 2 + 1 + 1 by omega]
    simpa [actsC] using this
theorem actsC_inv : ∀ {l : List (Int × Int)} {j : Nat} {u : Value}, (actsC l)[j]? = some u → ∃ i x, l[i]? = some x ∧ ((j = i * 2 ∧ u = .int .i64 x.1) ∨ (j = i * 2 + 1 ∧ u = .int .i64 x.2))
  | [], j, u, h => by simp [actsC] at h
  | y :: l, 0, u, h => by simp [actsC] at h; exact ⟨0, y, rfl, .inl ⟨rfl, h.symm⟩⟩
  | y :: l, 1, u, h => by simp [actsC] at h; exact ⟨0, y, rfl, .inr ⟨rfl, h.symm⟩⟩
  | y :: l, j + 2, u, h => by
    obtain ⟨i, x, hx, hj⟩ := actsC_inv (l := l) (j := j) (u := u) (by simpa [actsC] using h)
    exact ⟨i + 1, x, by simpa using hx, hj.imp (fun ⟨a, b⟩ => ⟨by omega, b⟩) (fun ⟨a, b⟩ => ⟨by omega, b⟩)⟩
theorem actsC_one (l : List (Int × Int)) : ∀ u ∈ actsC l, u.oneCell' = true := by
  intro u hu
  obtain ⟨j, hj⟩ := List.mem_iff_getElem?.1 hu
  obtain ⟨i, x, -, h | h⟩ := actsC_inv hj
  · rw [h.2]; simp [Value.oneCell']
  · rw [h.2]; simp [Value.oneCell']
theorem cell_two_new (w : World) (a b : Value) (T : TypeId) : ∀ (j : Nat) (u : Value), [a, b][j]? = some u → (w.alloc (.cells #[a, b] T)).cell? ((⟨w.heap.size, 0, none⟩ : Addr).add j) = some u := by
  intro j u hu
  have h := HAt.new w #[a, b] T
  have e : (⟨w.heap.size, 0, none⟩ : Addr).add j = ⟨w.heap.size, j, none⟩ := by
    unfold Addr.add
    split
    · rename_i h0; subst h0; rfl
    · simp
  rw [e]
  exact h.cell hu

/-- slice v, whose row lies in a block from base on, reads as the acts l -/
def OwnA (w : World) (base : Nat) (v : Value) (l : List (Int × Int)) : Prop := w.ownsRow base 46 2 v l.length (actsC l)
theorem OwnA.nil (w : World) (base : Nat) : OwnA w base (.slice none 0 0) [] := ⟨by simp [actsC], .inl ⟨rfl, rfl⟩⟩
theorem OwnA.frm {w w' : World} {base : Nat} {v : Value} {l : List (Int × Int)} (h : OwnA w base v l) {S : List Nat} (hf : Frm S w w') (hs : ∀ k ∈ S, k < base) : OwnA w' base v l := by
  obtain ⟨h1, h2⟩ := h
  refine ⟨h1, ?_⟩
  rcases h2 with h2 | ⟨g, cap, cur, hv, hg, hh, r⟩
  · exact .inl h2
  · refine .inr ⟨g, cap, cur, hv, hg, ?_, r⟩
    rw [hf.block g (Array.getElem?_eq_some_iff.1 hh).1 (fun hm => by have := hs g hm; omega)]
    exact hh
theorem OwnA.form {w : World} {base : Nat} {v : Value} {l : List (Int × Int)} (h : OwnA w base v l) : ∃ a cap, v = .slice a l.length cap := by
  rcases h.2 with ⟨rfl, h0⟩ | ⟨g, cap, cur, rfl, -⟩
  · exact ⟨none, 0, by rw [h0]⟩
  · exact ⟨_, _, rfl⟩
theorem OwnA.blk {w : World} {base : Nat} {v : Value} {l : List (Int × Int)} (h : OwnA w base v l) {g : Nat} (hg : v.ownBlock = some g) : base ≤ g := by
  rcases h.2 with ⟨rfl, _⟩ | ⟨g', cap, cur, rfl, hb, hh, _⟩
  · simp [Value.ownBlock] at hg
  · obtain rfl : g' = g := by simpa [Value.ownBlock] using hg
    exact hb
theorem OwnA.cells {w : World} {base : Nat} {v : Value} {l : List (Int × Int)} (h : OwnA w base v l) (h0 : 0 < l.length) : ∃ g cap, v = .slice (some ⟨g, 0, none⟩) l.length cap ∧ base ≤ g ∧ g < w.heap.size ∧
    ∀ i x, l[i]? = some x → w.cell? ⟨g, i * 2, none⟩ = some (.int .i64 x.1) ∧ w.cell? ⟨g, i * 2 + 1, none⟩ = some (.int .i64 x.2) := by
  obtain ⟨h1, h2⟩ := h
  rcases h2 with ⟨rfl, h2⟩ | ⟨g, cap, cur, hv, hg, hh, hn, hc, hcur, ht⟩
  · omega
  · refine ⟨g, cap, hv, hg, (Array.getElem?_eq_some_iff.1 hh).1, fun i x hx => ?_⟩
    have key : ∀ j u, (actsC l)[j]? = some u → w.cell? ⟨g, j, none⟩ = some u := by
      intro j u hu
      have hj : j < l.length * 2 := by have := (List.getElem?_eq_some_iff.1 hu).1; rw [actsC_len] at this; omega
      unfold World.cell?
      simp only
      rw [hh]
      show cur[j]? = _
      have h3 : (cur.toList.take (l.length * 2))[j]? = (actsC l)[j]? := by rw [ht]
      rw [List.getElem?_take_of_lt (by omega)] at h3
      rw [← Array.getElem?_toList, h3, hu]
    exact ⟨key _ _ (actsC_get hx).1, key _ _ (actsC_get hx).2⟩
/-- what an append leaves -/
theorem OwnA.step {w0 w w1 : World} {base : Nat} {v v' : Value} {l m : List (Int × Int)} {S : List Nat} {n : Nat} {c : List Value} (h : OwnA w base v l) (hn : l.length + m.length = n) (hc : actsC m = c)
    (hown : w1.ownsRow base 46 2 v' n (actsC l ++ c)) (hg : w.grownBy w1 v.ownBlock) (hf : Frm S w0 w) (hb : w0.heap.size ≤ base) : OwnA w1 base v' (l ++ m) ∧ Frm S w0 w1 := by
  subst hc hn
  refine ⟨by unfold OwnA; rw [actsC_append, List.length_append]; exact hown, ?_⟩
  exact hf.widen (S' := v.ownBlock.toList) (Frm.of_grown hg (fun k hk => .inl (by simp [hk]))) (fun k hk => .inr (by have := h.blk (by simpa using hk); omega))

/-- as ActsAt, and a slice that is nil has no room -/
def ActsAtN (w : World) (v : Value) (acts : List (Int × Int)) : Prop := ActsAt w v acts ∧ ∀ len cap, v = .slice none len cap → cap = 0
section
variable {H : Type} {enc : TypeId × Value → H} {P : Program} {w : World} {base : Nat} {held : Bool} {t : TypeId} {v : Value} {r : Reach}
theorem open_actsN {e : TypeId} {f0 f1 : Field} {b0 : Nat} {d : DataW H} {p : List MemPlace} (ht : P.underlying t = some (.slice e)) (he : P.underlying e = some (.struct #[f0, f1]))
    (hone : oneCellFields P #[f0, f1] = true) (hC : P.cellsOf e = 2) (h0 : P.underlying f0.type = some (.int .i64)) (h1 : P.underlying f1.type = some (.int .i64))
    (hv : Value.okWide P w r b0 t v) (h : DataW.Trod enc P w base (fun _ => true) held t v d p) : ∃ acts, ActsAtN w v acts := by
  obtain ⟨acts, ha⟩ := open_acts ht he hone hC h0 h1 hv h
  refine ⟨acts, ha, ?_⟩
  intro len cap e
  subst e
  obtain ⟨fuel, hf⟩ := h
  rcases open_slice ht hf with ⟨hcs, _⟩ | ⟨x, l, c, m, n, D, Pl, hcs, _⟩
  · simp [Value.cells] at hcs; exact hcs.2
  · simp [Value.cells] at hcs
end
end Go.Proofs.Ytmfeaancnkadbaa
