/- The contracts of package tas. -/
import Derived.Deep.RegionHeld3
import Derived.Deep.RegionWith
import Derived.Deep.DeepCutAuto
import Derived.Deep.CutBlock
import Derived.Test.YteijjhahgabalaaGreatQ05
import Derived.Test.YteijjhahgabalaaGreatQ01
namespace Go.Proofs.YteijjhahgabalaaGreat
open Go.RowKit

/-- slots' spots: field t of slot i -/
def spC (n : Nat) (S : Nat → Nat → Int) : List Value := (List.range (4 * n)).map fun j => Value.int .i64 (S (j / 4) (j % 4))
def spPut (S : Nat → Nat → Int) (i t : Nat) (v : Int) : Nat → Nat → Int := fun i' t' => if i' = i ∧ t' = t then v else S i' t'
theorem spC_get (n : Nat) (S : Nat → Nat → Int) {i t : Nat} (hi : i < n) (ht : t < 4) : (spC n S)[4 * i + t]? = some (.int .i64 (S i t)) := by
  unfold spC
  rw [List.getElem?_map, List.getElem?_range (by omega)]
  simp only [Option.map_some]
  rw [show (4 * i + t) / 4 = i from by omega, show (4 * i + t) % 4 = t from by omega]
theorem spC_put (n : Nat) (S : Nat → Nat → Int) {i t : Nat} (ht : t < 4) (v : Int) : (spC n S).set (4 * i + t) (.int .i64 v) = spC n (spPut S i t v) := by
  apply List.ext_getElem?
  intro j
  rw [List.getElem?_set]
  by_cases h : 4 * i + t = j
  · subst h
    by_cases h8 : 4 * i + t < 4 * n
    · rw [if_pos rfl, if_pos (by unfold spC; simpa using h8)]
      unfold spC
      rw [List.getElem?_map, List.getElem?_range h8]
      simp only [Option.map_some]
      rw [show (4 * i + t) / 4 = i from by omega, show (4 * i + t) % 4 = t from by omega]
      unfold spPut; simp
    · rw [if_pos rfl, if_neg (by unfold spC; simpa using h8), List.getElem?_eq_none (by unfold spC; simp; omega)]
  · rw [if_neg h]
    unfold spC
    by_cases h8 : j < 4 * n
    · rw [List.getElem?_map, List.getElem?_map, List.getElem?_range h8]
      simp only [Option.map_some]
      unfold spPut
      rw [if_neg (by omega)]
    · rw [List.getElem?_eq_none (by simp; omega), List.getElem?_eq_none (by simp; omega)]

structure LkAt (w : World) (lb ab sb word n : Nat) (most : Int) (S : Nat → Nat → Int) : Prop where
  box : HAt w lb [.pointer (some ⟨ab, 0, none⟩), .int .i64 word, .int .i64 most, .slice (some ⟨sb, 0, none⟩) n n] 144
  row : HAt w sb (spC n S) 138
  ne : lb ≠ sb
  n1 : 1 ≤ n
  n32 : n ≤ 32
  m1 : 1 ≤ most
  m2 : most ≤ 1024
theorem LkAt.frm {w w' : World} {lb ab sb word n : Nat} {most : Int} {S : Nat → Nat → Int} (h : LkAt w lb ab sb word n most S) {Z : List Nat} (hf : Frm Z w w') (h1 : lb ∉ Z) (h2 : sb ∉ Z) : LkAt w' lb ab sb word n most S :=
  { h with box := h.box.frm hf h1, row := h.row.frm hf h2 }
/-- is there a slot of that number? -/
def sHas (n : Nat) (i : Int) : Bool := decide (0 ≤ i ∧ i < (n : Int))
theorem LkAt.put {w : World} {lb ab sb word n : Nat} {most : Int} {S : Nat → Nat → Int} (h : LkAt w lb ab sb word n most S) (i : Nat) {t : Nat} (ht : t < 4) (v : Int) :
    LkAt (w.setCell ⟨sb, 4 * i + t, none⟩ (.int .i64 v)) lb ab sb word n most (spPut S i t v) := by
  have hr := h.row.set (4 * i + t) (.int .i64 v)
  rw [spC_put n S ht v] at hr
  exact { h with box := h.box.other _ _ h.ne, row := hr }

section
variable {w : World} {lb ab wb sb word n : Nat} {most : Int} {S : Nat → Nat → Int} {A : AR}

theorem lSlots_any (h : LkAt w lb ab sb word n most S) : Calls Tryz.prog 161 #[.pointer (some ⟨lb, 0, none⟩)] w fun e w' => e = .returned (.int .i64 n) ∧ w = w' := by
  have c3 := h.box.cell (i := 3) rfl
  clear h
  go_enter Tryz.func161, Tryz.ntmps161
  go_wp2
  go_ret
  exact ⟨rfl, rfl⟩

theorem lspot_no (h : LkAt w lb ab sb word n most S) {i : Int} (hi : sHas n i = false) : Calls Tryz.prog 164 #[.pointer (some ⟨lb, 0, none⟩), .int .i64 i] w fun e w' => e = .returned (.pointer none) ∧ w = w' := by
  have HS := Lib.hid (lSlots_any h)
  clear h
  by_cases hneg : i < 0
  · have d1 : decide (i < 0) = true := by simpa using hneg
    clear hi
    go_enter Tryz.func164, Tryz.ntmps164
    go_wp2
    go_ret
    exact ⟨rfl, rfl⟩
  · have d1 : decide (i < 0) = false := by simpa using hneg
    have d2 : decide ((n : Int) ≤ i) = true := by unfold sHas at hi; simp at hi; simp; omega
    clear hi
    go_enter Tryz.func164, Tryz.ntmps164
    go_wp2_with fail
    refine HS.out.mono ?_
    rintro e w' ⟨rfl, rfl⟩
    go_wp2
    go_ret
    exact ⟨rfl, rfl⟩
theorem lspot_yes (h : LkAt w lb ab sb word n most S) {i : Nat} (hi : i < n) : Calls Tryz.prog 164 #[.pointer (some ⟨lb, 0, none⟩), .int .i64 i] w fun e w' => e = .returned (.pointer (some ⟨sb, 4 * i, none⟩)) ∧ w = w' := by
  have HS := Lib.hid (lSlots_any h)
  have c3 := h.box.cell (i := 3) rfl
  have hn := h.n32
  clear h
  have d1 : decide ((i : Int) < 0) = false := by simp
  have d2 : decide ((n : Int) ≤ i) = false := by simp; omega
  have d3 : decide (n ≤ i) = false := by simp; omega
  have l1 : (i : Int) < n := by omega
  have e1 : i * 4 = 4 * i := by omega
  go_enter Tryz.func164, Tryz.ntmps164
  go_wp2_with fail
  refine HS.out.mono ?_
  rintro e w' ⟨rfl, rfl⟩
  go_wp2
  go_ret
  exact ⟨by simp [e1], rfl⟩

/-- what a slot's spot is, as a value -/
def spV (n : Nat) (S : Nat → Nat → Int) (i : Int) : Value := if sHas n i then .agg #[.int .i64 (S i.toNat 0), .int .i64 (S i.toNat 1), .int .i64 (S i.toNat 2), .int .i64 (S i.toNat 3)] else .agg #[.int .i64 0, .int .i64 0, .int .i64 0, .int .i64 0]

theorem lSpot_any (h : LkAt w lb ab sb word n most S) (i : Int) : Calls Tryz.prog 162 #[.pointer (some ⟨lb, 0, none⟩), .int .i64 i] w fun e w' => e = .returned (spV n S i) ∧ Frm [] w w' := by
  cases hi : sHas n i with
  | false =>
    have HS := Lib.hid (fun (W : World) (hf : Frm [] w W) => lspot_no (h.frm hf (by simp) (by simp)) hi)
    have hr : spV n S i = .agg #[.int .i64 0, .int .i64 0, .int .i64 0, .int .i64 0] := by unfold spV; rw [hi]; rfl
    rw [hr]
    clear h hr hi
    go_enter Tryz.func162, Tryz.ntmps162
    go_wp2_with fail
    refine (HS.out _ ((Frm.refl _ _).alloc _)).mono ?_
    rintro e w' ⟨rfl, rfl⟩
    go_wp2_with fail
    refine bodyPost_ret (v := .agg #[.int .i64 0, .int .i64 0, .int .i64 0, .int .i64 0]) (by simp [results, Tryz.results162, go_sem]) rfl ⟨rfl, (Frm.refl _ _).alloc _⟩
  | true =>
    have hi' : 0 ≤ i ∧ i < (n : Int) := by unfold sHas at hi; simpa using hi
    obtain ⟨j, rfl⟩ := Int.eq_ofNat_of_zero_le hi'.1
    have hj : j < n := by omega
    have HS := Lib.hid (fun (W : World) (hf : Frm [] w W) => lspot_yes (h.frm hf (by simp) (by simp)) hj)
    have hr : spV n S j = .agg #[.int .i64 (S j 0), .int .i64 (S j 1), .int .i64 (S j 2), .int .i64 (S j 3)] := by unfold spV; rw [hi]; rfl
    rw [hr]
    have hkk : ∀ wx, Frm [] w wx → wx.cell? ⟨sb, 4 * j, none⟩ = some (.int .i64 (S j 0)) ∧ wx.cell? ⟨sb, 4 * j + 1, none⟩ = some (.int .i64 (S j 1)) ∧ wx.cell? ⟨sb, 4 * j + 2, none⟩ = some (.int .i64 (S j 2)) ∧ wx.cell? ⟨sb, 4 * j + 3, none⟩ = some (.int .i64 (S j 3)) := fun wx hf =>
      ⟨(h.row.frm hf (by simp)).cell (spC_get n S (t := 0) hj (by omega)), (h.row.frm hf (by simp)).cell (spC_get n S (t := 1) hj (by omega)), (h.row.frm hf (by simp)).cell (spC_get n S (t := 2) hj (by omega)), (h.row.frm hf (by simp)).cell (spC_get n S (t := 3) hj (by omega))⟩
    have KK := Lib.hid hkk
    clear h hr hi hkk hi'
    go_enter Tryz.func162, Tryz.ntmps162
    go_wp2_with fail
    refine (HS.out _ ((Frm.refl _ _).alloc _)).mono ?_
    rintro e w' ⟨rfl, rfl⟩
    obtain ⟨c0, c1, c2, c3⟩ := KK.out _ ((Frm.refl [] w).alloc (.cells #[.int .i64 0, .int .i64 0, .int .i64 0, .int .i64 0] 138))
    go_wp2_with fail
    trace_state
    refine bodyPost_ret (v := .agg #[.int .i64 (S j 0), .int .i64 (S j 1), .int .i64 (S j 2), .int .i64 (S j 3)]) (by simp [results, Tryz.results162, go_sem]) rfl ⟨rfl, ?_⟩
    exact (Frm.refl _ _).alloc _
end

end Go.Proofs.YteijjhahgabalaaGreat

/- Spots, beside tas: the cells of a slice of spots, the index as i * 4 + t. -/
namespace Go.Proofs.YteijjhahgabalaaGreat
open Go.RowKit
theorem spC_getT (n : Nat) (S : Nat → Nat → Int) {i t : Nat} (hi : i < n) (ht : t < 4) : (spC n S)[i * 4 + t]? = some (.int .i64 (S i t)) := by
  rw [Nat.mul_comm i 4]; exact spC_get n S hi ht
theorem spC_putT (n : Nat) (S : Nat → Nat → Int) {i t : Nat} (ht : t < 4) (v : Int) : (spC n S).set (i * 4 + t) (.int .i64 v) = spC n (spPut S i t v) := by
  rw [Nat.mul_comm i 4]; exact spC_put n S ht v
end Go.Proofs.YteijjhahgabalaaGreat

/- The invariant of a row of slots that wait for words of their own (mcs), in plain Lean. -/
namespace Go.Proofs.YteijjhahgabalaaGreat
open Go.RowKit

def upd (f : Nat → Int) (j : Nat) (v : Int) : Nat → Int := fun k => if k = j then v else f k
theorem upd_eq (f : Nat → Int) (j : Nat) (v : Int) : upd f j v j = v := by simp [upd]
theorem upd_ne (f : Nat → Int) {j k : Nat} (v : Int) (h : k ≠ j) : upd f j v k = f k := by simp [upd, h]
theorem sp_eq (S : Nat → Nat → Int) (i t : Nat) (v : Int) : spPut S i t v i t = v := by simp [spPut]
theorem sp_ne (S : Nat → Nat → Int) {i j : Nat} (t t' : Nat) (v : Int) (h : j ≠ i) : spPut S i t v j t' = S j t' := by simp [spPut, h]
theorem sp_ot (S : Nat → Nat → Int) (i j : Nat) {t t' : Nat} (v : Int) (h : t' ≠ t) : spPut S i t v j t' = S j t' := by simp [spPut, h]
def lst : List Nat → Int
  | [] => 0
  | [z] => (z : Int) + 1
  | _ :: q :: r => lst (q :: r)
theorem lst_append : ∀ (Q : List Nat) (j : Nat), lst (Q ++ [j]) = (j : Int) + 1
  | [], _ => rfl
  | [_], _ => rfl
  | _ :: q :: r, j => lst_append (q :: r) j
theorem lst_mem : ∀ (Q : List Nat), Q ≠ [] → ∃ z ∈ Q, lst Q = (z : Int) + 1
  | [], h => absurd rfl h
  | [z], _ => ⟨z, by simp, rfl⟩
  | p :: q :: r, _ => by obtain ⟨z, hz, e⟩ := lst_mem (q :: r) (by simp); exact ⟨z, List.mem_cons_of_mem _ hz, e⟩
theorem lst_nil {Q : List Nat} : lst Q = 0 ↔ Q = [] := by
  constructor
  · intro h
    by_cases hq : Q = []
    · exact hq
    · obtain ⟨z, _, e⟩ := lst_mem Q hq; omega
  · rintro rfl; rfl
theorem lst_one {x : Nat} {r : List Nat} (hnd : (x :: r).Nodup) (h : lst (x :: r) = (x : Int) + 1) : r = [] := by
  cases r with
  | nil => rfl
  | cons q r =>
    obtain ⟨z, hz, e⟩ := lst_mem (q :: r) (by simp)
    have h2 : lst (x :: q :: r) = lst (q :: r) := rfl
    have : z = x := by omega
    subst this
    exact absurd hz (List.nodup_cons.1 hnd).1
/-- a row: each behind the first one has noted who is ahead of it, or is known to that one -/
def QL (S : Nat → Nat → Int) (nx : Nat → Int) : List Nat → Prop
  | [] => True
  | [z] => nx z = 0
  | p :: q :: r => ((S q 0 = 4 ∧ S q 1 = (p : Int) + 1 ∧ nx p = 0) ∨ (S q 0 = 5 ∧ nx p = (q : Int) + 1)) ∧ QL S nx (q :: r)
theorem QL.congr {S S' : Nat → Nat → Int} {nx nx' : Nat → Int} : ∀ {Q : List Nat}, QL S nx Q → (∀ j ∈ Q, nx' j = nx j) → (∀ j ∈ Q.tail, S' j 0 = S j 0 ∧ S' j 1 = S j 1) → QL S' nx' Q
  | [], _, _, _ => trivial
  | [z], h, hn, _ => by have := hn z (by simp); unfold QL at h ⊢; omega
  | p :: q :: r, h, hn, hs => by
    obtain ⟨h1, h2⟩ := h
    have e1 := hn p (by simp)
    have e2 := hs q (by simp)
    refine ⟨?_, QL.congr h2 (fun j hj => hn j (List.mem_cons_of_mem _ hj)) (fun j hj => hs j (by simp at hj ⊢; exact .inr hj))⟩
    rw [e1, e2.1, e2.2]
    exact h1
theorem QL.append {S : Nat → Nat → Int} {nx : Nat → Int} {j : Nat} : ∀ {Q : List Nat}, QL S nx Q → Q ≠ [] → S j 0 = 4 → S j 1 = lst Q → nx j = 0 → QL S nx (Q ++ [j])
  | [], _, h, _, _, _ => absurd rfl h
  | [z], h, _, h4, h1, h0 => ⟨.inl ⟨h4, h1, h⟩, h0⟩
  | p :: q :: r, h, _, h4, h1, h0 => ⟨h.1, QL.append (Q := q :: r) h.2 (by simp) h4 h1 h0⟩
theorem QL.link {S : Nat → Nat → Int} {nx : Nat → Int} {j : Nat} : ∀ {Q : List Nat}, QL S nx Q → Q.Nodup → j ∈ Q.tail → S j 0 = 4 →
    ∃ p ∈ Q, p ≠ j ∧ S j 1 = (p : Int) + 1 ∧ nx p = 0 ∧ QL (spPut S j 0 5) (upd nx p ((j : Int) + 1)) Q
  | [], _, _, hj, _ => by simp at hj
  | [z], _, _, hj, _ => by simp at hj
  | p :: q :: r, h, hnd, hj, h4 => by
    obtain ⟨h1, h2⟩ := h
    have hnd' := List.nodup_cons.1 hnd
    have hnd2 := List.nodup_cons.1 hnd'.2
    by_cases e : j = q
    · subst e
      have hp : p ≠ j := fun e => hnd'.1 (by simp [e])
      rcases h1 with h1 | h1
      · refine ⟨p, by simp, hp, h1.2.1, h1.2.2, .inr ⟨sp_eq _ _ _ _, upd_eq _ _ _⟩, h2.congr (fun k hk => upd_ne _ _ fun e => hnd'.1 (e ▸ hk)) fun k hk => ?_⟩
        have hk' : k ∈ r := by simpa using hk
        have : k ≠ j := fun e => hnd2.1 (e ▸ hk')
        exact ⟨sp_ne _ _ _ _ this, sp_ne _ _ _ _ this⟩
      · omega
    · have hj' : j ∈ (q :: r).tail := by simp at hj ⊢; exact hj.resolve_left e
      obtain ⟨p', hp', hne, ha, h0, hql⟩ := QL.link h2 hnd'.2 hj' h4
      have hpp : p ≠ p' := fun e => hnd'.1 (e ▸ hp')
      refine ⟨p', List.mem_cons_of_mem _ hp', hne, ha, h0, ?_, hql⟩
      rw [sp_ne _ _ _ _ (fun e' => e e'.symm), sp_ne _ _ _ _ (fun e' => e e'.symm), upd_ne _ _ hpp]
      exact h1
theorem QL.second {S : Nat → Nat → Int} {nx : Nat → Int} {x : Nat} {r : List Nat} (h : QL S nx (x :: r)) (h0 : nx x ≠ 0) : ∃ q r', r = q :: r' ∧ nx x = (q : Int) + 1 ∧ S q 0 = 5 := by
  cases r with
  | nil => exact absurd h h0
  | cons q r =>
    rcases h.1 with h1 | h1
    · exact absurd h1.2.2 h0
    · exact ⟨q, r, rfl, h1.2, h1.1⟩
theorem QL.tail {S : Nat → Nat → Int} {nx : Nat → Int} {x : Nat} {r : List Nat} (h : QL S nx (x :: r)) : QL S nx r := by
  cases r with
  | nil => trivial
  | cons q r => exact h.2

/-- what the words say -/
structure CV where
  tl : Int
  nx : Nat → Int
  wt : Nat → Int
/-- who stands where: the row Q, its first one o if it holds or goes out -/
structure MC (n : Nat) (w : CV) (S : Nat → Nat → Int) (Q : List Nat) (o : Option Nat) : Prop where
  nd : Q.Nodup
  lt : ∀ j ∈ Q, j < n
  mem : ∀ j, j < n → S j 0 = 4 ∨ S j 0 = 5 → j ∈ Q
  idle : ∀ j ∈ Q, o ≠ some j → S j 0 = 4 ∨ S j 0 = 5
  ownr : ∀ j, j < n → 10 ≤ S j 0 → o = some j
  own2 : ∀ x, o = some x → (∃ r, Q = x :: r) ∧ ((S x 0 = 10 ∨ S x 0 = 11 ∨ S x 0 = 12) ∨ (S x 0 = 13 ∧ Q ≠ [x]) ∨ (S x 0 = 14 ∧ ∃ q r, Q = x :: q :: r ∧ S x 1 = (q : Int) + 1 ∧ S q 0 = 5))
  non : o = none → ∀ h r, Q = h :: r → S h 0 = 5 ∧ w.wt h = 0
  pcs : ∀ j, j < n → (0 ≤ S j 0 ∧ S j 0 ≤ 5) ∨ (10 ≤ S j 0 ∧ S j 0 ≤ 14)
  tl : w.tl = lst Q
  ql : QL S w.nx Q
  w1 : ∀ j ∈ Q.tail, w.wt j = 1
  p2 : ∀ j, j < n → S j 0 = 2 → w.nx j = 0
  p3 : ∀ j, j < n → S j 0 = 3 → w.nx j = 0 ∧ w.wt j = 1
section
variable {n : Nat} {w w' : CV} {S S' : Nat → Nat → Int} {Q : List Nat} {o : Option Nat}
theorem MC.out {j : Nat} (h : MC n w S Q o) (h3 : S j 0 ≤ 3) : j ∉ Q ∧ o ≠ some j := by
  have ho : o ≠ some j := fun e => by have := (h.own2 j e).2; omega
  exact ⟨fun hm => by have := h.idle j hm ho; omega, ho⟩
theorem MC.own_lt {x : Nat} (h : MC n w S Q (some x)) : x < n ∧ 10 ≤ S x 0 := by
  obtain ⟨⟨r, rfl⟩, h2⟩ := h.own2 x rfl
  exact ⟨h.lt x (by simp), by omega⟩
theorem MC.head4 (h : MC n w S Q o) : ∀ a r, Q = a :: r → S a 0 ≠ 4 := by
  intro a r e
  cases o with
  | none => have := (h.non rfl a r e).1; omega
  | some x =>
    obtain ⟨⟨r', e'⟩, h2⟩ := h.own2 x rfl
    rw [e] at e'
    have := (List.cons.inj e').1
    subst this
    omega
/-- what o knows stands while another one steps and the row grows -/
theorem MC.keep {x : Nat} (h : MC n w S Q (some x)) (z : List Nat) (hx : ∀ t, S' x t = S x t) (h5 : ∀ q, S q 0 = 5 → S' q 0 = 5) :
    (∃ r, Q ++ z = x :: r) ∧ ((S' x 0 = 10 ∨ S' x 0 = 11 ∨ S' x 0 = 12) ∨ (S' x 0 = 13 ∧ Q ++ z ≠ [x]) ∨ (S' x 0 = 14 ∧ ∃ q r, Q ++ z = x :: q :: r ∧ S' x 1 = (q : Int) + 1 ∧ S' q 0 = 5)) := by
  obtain ⟨⟨r, rfl⟩, h2⟩ := h.own2 x rfl
  rw [hx, hx]
  refine ⟨⟨r ++ z, rfl⟩, ?_⟩
  rcases h2 with h2 | ⟨h2, h3⟩ | ⟨h2, q, r', e, h3, h4⟩
  · exact .inl h2
  · refine .inr (.inl ⟨h2, fun e => h3 ?_⟩)
    cases r with
    | nil => rfl
    | cons a b => simp at e
  · refine .inr (.inr ⟨h2, q, r' ++ z, ?_, h3, h5 q h4⟩)
    rw [e]; rfl
theorem MC.early {j : Nat} {pc : Int} (h : MC n w S Q o) (hj : j < n) (h0 : 0 ≤ S j 0 ∧ S j 0 ≤ 3) (hpc : 0 ≤ pc ∧ pc ≤ 3) (hn : ∀ k, k ≠ j → w'.nx k = w.nx k) (hw : ∀ k, k ≠ j → w'.wt k = w.wt k) (ht : w'.tl = w.tl)
    (hp2 : pc = 2 → w'.nx j = 0) (hp3 : pc = 3 → w'.nx j = 0 ∧ w'.wt j = 1) : MC n w' (spPut S j 0 pc) Q o := by
  obtain ⟨hno, ho⟩ := h.out h0.2
  have hne : ∀ k ∈ Q, k ≠ j := fun k hk e => hno (e ▸ hk)
  refine { nd := h.nd, lt := h.lt, mem := fun k hk hc => ?_, idle := fun k hk hc => ?_, ownr := fun k hk hc => ?_, own2 := fun y hy => ?_, non := fun e a r e2 => ?_, pcs := fun k hk => ?_, tl := by rw [ht]; exact h.tl, ql := ?_, w1 := fun k hk => ?_, p2 := fun k hk hc => ?_, p3 := fun k hk hc => ?_ }
  · by_cases e : k = j
    · subst e; rw [sp_eq] at hc; omega
    · rw [sp_ne _ _ _ _ e] at hc; exact h.mem k hk hc
  · rw [sp_ne _ _ _ _ (hne k hk)]; exact h.idle k hk hc
  · by_cases e : k = j
    · subst e; rw [sp_eq] at hc; omega
    · rw [sp_ne _ _ _ _ e] at hc; exact h.ownr k hk hc
  · subst hy
    have := h.keep (S' := spPut S j 0 pc) [] (fun t => sp_ne _ _ _ _ (fun e => ho (by rw [e]))) (fun q hq => by rw [sp_ne _ _ _ _ (fun e => by subst e; omega)]; exact hq)
    simpa using this
  · have hm : a ≠ j := hne a (by rw [e2]; simp)
    rw [sp_ne _ _ _ _ hm, hw a hm]; exact h.non e a r e2
  · by_cases e : k = j
    · subst e; rw [sp_eq]; exact .inl (by omega)
    · rw [sp_ne _ _ _ _ e]; exact h.pcs k hk
  · refine h.ql.congr (fun k hk => hn k (hne k hk)) fun k hk => ?_
    have e := hne k (List.mem_of_mem_tail hk)
    exact ⟨sp_ne _ _ _ _ e, sp_ne _ _ _ _ e⟩
  · rw [hw k (hne k (List.mem_of_mem_tail hk))]; exact h.w1 k hk
  · by_cases e : k = j
    · subst e; rw [sp_eq] at hc; exact hp2 hc
    · rw [sp_ne _ _ _ _ e] at hc; rw [hn k e]; exact h.p2 k hk hc
  · by_cases e : k = j
    · subst e; rw [sp_eq] at hc; exact hp3 hc
    · rw [sp_ne _ _ _ _ e] at hc; rw [hn k e, hw k e]; exact h.p3 k hk hc
theorem MC.door {j : Nat} (h : MC n w S Q o) (hj : j < n) (h0 : S j 0 = 3) (ht : w'.tl = (j : Int) + 1) (hn : w'.nx = w.nx) (hw : w'.wt = w.wt) :
    (w.tl = 0 → MC n w' (spPut (spPut S j 1 w.tl) j 0 10) [j] (some j)) ∧ (w.tl ≠ 0 → MC n w' (spPut (spPut S j 1 w.tl) j 0 4) (Q ++ [j]) o) := by
  obtain ⟨hno, ho⟩ := h.out (j := j) (by omega)
  have hs : ∀ (pc : Int) k, k ≠ j → ∀ t, spPut (spPut S j 1 w.tl) j 0 pc k t = S k t := fun pc k e t => by rw [sp_ne _ _ _ _ e, sp_ne _ _ _ _ e]
  have hsj : ∀ pc : Int, spPut (spPut S j 1 w.tl) j 0 pc j 0 = pc := fun pc => sp_eq _ _ _ _
  refine ⟨fun hz => ?_, fun hz => ?_⟩
  · have hQ : Q = [] := lst_nil.1 (h.tl ▸ hz)
    subst hQ
    have hon : o = none := by
      cases o with
      | none => rfl
      | some x => obtain ⟨⟨r, e⟩, _⟩ := h.own2 x rfl; simp at e
    subst hon
    refine { nd := by simp, lt := by simpa using hj, mem := fun k hk hc => ?_, idle := fun k hk hc => ?_, ownr := fun k hk hc => ?_, own2 := fun y hy => ?_, non := fun e => by simp at e, pcs := fun k hk => ?_, tl := ht, ql := by unfold QL; rw [hn]; exact (h.p3 j hj h0).1, w1 := by simp, p2 := fun k hk hc => ?_, p3 := fun k hk hc => ?_ }
    · by_cases e : k = j
      · subst e; simp
      · rw [hs _ k e] at hc; have := h.mem k hk hc; simp at this
    · simp at hk; subst hk; exact absurd rfl hc
    · by_cases e : k = j
      · rw [e]
      · rw [hs _ k e] at hc; have := h.ownr k hk hc; simp at this
    · obtain rfl : j = y := by simpa using hy
      exact ⟨⟨[], rfl⟩, .inl (.inl (hsj 10))⟩
    · by_cases e : k = j
      · subst e; rw [hsj]; exact .inr (by omega)
      · rw [hs _ k e]; exact h.pcs k hk
    · have e : k ≠ j := fun e => by subst e; rw [hsj] at hc; omega
      rw [hs _ k e] at hc; rw [hn]; exact h.p2 k hk hc
    · have e : k ≠ j := fun e => by subst e; rw [hsj] at hc; omega
      rw [hs _ k e] at hc; rw [hn, hw]; exact h.p3 k hk hc
  · have hq : Q ≠ [] := fun e => hz (by rw [h.tl, e]; rfl)
    have hne : ∀ k ∈ Q, k ≠ j := fun k hk e => hno (e ▸ hk)
    have htl : (Q ++ [j]).tail = Q.tail ++ [j] := by cases Q with | nil => exact absurd rfl hq | cons a r => rfl
    refine { nd := ?_, lt := fun k hk => ?_, mem := fun k hk hc => ?_, idle := fun k hk hc => ?_, ownr := fun k hk hc => ?_, own2 := fun y hy => ?_, non := fun e a r e2 => ?_, pcs := fun k hk => ?_, tl := by rw [ht, lst_append], ql := ?_, w1 := fun k hk => ?_, p2 := fun k hk hc => ?_, p3 := fun k hk hc => ?_ }
    · rw [List.nodup_append]
      exact ⟨h.nd, by simp, fun a ha b hb => by simp at hb; subst hb; exact hne a ha⟩
    · rcases List.mem_append.1 hk with hk | hk
      · exact h.lt k hk
      · simp at hk; subst hk; exact hj
    · by_cases e : k = j
      · subst e; simp
      · rw [hs _ k e] at hc; exact List.mem_append.2 (.inl (h.mem k hk hc))
    · by_cases e : k = j
      · subst e; exact .inl (hsj 4)
      · rw [hs _ k e]; exact h.idle k ((List.mem_append.1 hk).resolve_right (by simpa using e)) hc
    · by_cases e : k = j
      · subst e; rw [hsj] at hc; omega
      · rw [hs _ k e] at hc; exact h.ownr k hk hc
    · subst hy
      have hyj : y ≠ j := fun e => ho (by rw [e])
      exact h.keep [j] (fun t => hs 4 y hyj t) (fun q hq => by rw [hs 4 q (fun e => by subst e; omega)]; exact hq)
    · cases Q with
      | nil => exact absurd rfl hq
      | cons b q =>
        have : b = a := by simpa using (List.cons.inj e2).1
        subst this
        rw [hs _ b (hne b (by simp)), hw]; exact h.non e b q rfl
    · by_cases e : k = j
      · subst e; rw [hsj]; exact .inl (by omega)
      · rw [hs _ k e]; exact h.pcs k hk
    · refine QL.append ?_ hq (hsj 4) (by rw [sp_ot _ _ _ _ (by omega), sp_eq]; exact h.tl) (by rw [hn]; exact (h.p3 j hj h0).1)
      refine h.ql.congr (fun k _ => by rw [hn]) fun k hk => ?_
      have e := hne k (List.mem_of_mem_tail hk)
      exact ⟨hs 4 k e 0, hs 4 k e 1⟩
    · rw [htl] at hk
      rw [hw]
      rcases List.mem_append.1 hk with hk | hk
      · exact h.w1 k hk
      · simp at hk; subst hk; exact (h.p3 k hj h0).2
    · have e : k ≠ j := fun e => by subst e; rw [hsj] at hc; omega
      rw [hs _ k e] at hc; rw [hn]; exact h.p2 k hk hc
    · have e : k ≠ j := fun e => by subst e; rw [hsj] at hc; omega
      rw [hs _ k e] at hc; rw [hn, hw]; exact h.p3 k hk hc
theorem MC.link {j : Nat} (h : MC n w S Q o) (hj : j < n) (h0 : S j 0 = 4) :
    ∃ p, p < n ∧ S j 1 = (p : Int) + 1 ∧ ∀ w' : CV, w'.tl = w.tl → w'.nx = upd w.nx p ((j : Int) + 1) → w'.wt = w.wt → MC n w' (spPut S j 0 5) Q o := by
  have hm := h.mem j hj (.inl h0)
  have hjt : j ∈ Q.tail := by
    cases Q with
    | nil => simp at hm
    | cons a r =>
      rcases List.mem_cons.1 hm with e | hm
      · exact absurd h0 (h.head4 j r (by rw [e]))
      · exact hm
  obtain ⟨p, hp, hpj, ha, hz, hql⟩ := h.ql.link h.nd hjt h0
  have ho : o ≠ some j := fun e => by have := (h.own2 j e).2; omega
  have hpp : S p 0 ≠ 2 ∧ S p 0 ≠ 3 := by
    by_cases e : o = some p
    · have := (h.own2 p e).2; omega
    · have := h.idle p hp e; omega
  refine ⟨p, h.lt p hp, ha, fun w' ht hn hw => ?_⟩
  refine { nd := h.nd, lt := h.lt, mem := fun k hk hc => ?_, idle := fun k hk hc => ?_, ownr := fun k hk hc => ?_, own2 := fun y hy => ?_, non := fun e a r e2 => ?_, pcs := fun k hk => ?_, tl := by rw [ht]; exact h.tl, ql := by rw [hn]; exact hql, w1 := by rw [hw]; exact h.w1, p2 := fun k hk hc => ?_, p3 := fun k hk hc => ?_ }
  · by_cases e : k = j
    · rw [e]; exact hm
    · rw [sp_ne _ _ _ _ e] at hc; exact h.mem k hk hc
  · by_cases e : k = j
    · subst e; exact .inr (sp_eq _ _ _ _)
    · rw [sp_ne _ _ _ _ e]; exact h.idle k hk hc
  · by_cases e : k = j
    · subst e; rw [sp_eq] at hc; omega
    · rw [sp_ne _ _ _ _ e] at hc; exact h.ownr k hk hc
  · subst hy
    have := h.keep (S' := spPut S j 0 5) [] (fun t => sp_ne _ _ _ _ (fun e => ho (by rw [e]))) (fun q hq => by rw [sp_ne _ _ _ _ (fun e => by subst e; omega)]; exact hq)
    simpa using this
  · have := h.non e a r e2
    have ha : a ≠ j := fun e3 => by subst e3; omega
    rw [sp_ne _ _ _ _ ha, hw]; exact this
  · by_cases e : k = j
    · subst e; rw [sp_eq]; exact .inl (by omega)
    · rw [sp_ne _ _ _ _ e]; exact h.pcs k hk
  · by_cases e : k = j
    · subst e; rw [sp_eq] at hc; omega
    · rw [sp_ne _ _ _ _ e] at hc
      rw [hn, upd_ne _ _ (fun e => by subst e; exact hpp.1 hc)]; exact h.p2 k hk hc
  · by_cases e : k = j
    · subst e; rw [sp_eq] at hc; omega
    · rw [sp_ne _ _ _ _ e] at hc
      rw [hn, hw, upd_ne _ _ (fun e => by subst e; exact hpp.2 hc)]; exact h.p3 k hk hc
theorem MC.enter {j : Nat} (h : MC n w S Q o) (hj : j < n) (h0 : S j 0 = 5) (hz : w.wt j = 0) :
    o = none ∧ ∀ w' : CV, w'.tl = w.tl → w'.nx = w.nx → w'.wt = w.wt → MC n w' (spPut S j 0 10) Q (some j) := by
  have hm := h.mem j hj (.inr h0)
  have hw1 : j ∉ Q.tail := fun hm => by have := h.w1 j hm; omega
  have hr : ∃ r, Q = j :: r := by
    cases Q with
    | nil => simp at hm
    | cons a r =>
      rcases List.mem_cons.1 hm with e | hm
      · exact ⟨r, by rw [e]⟩
      · exact absurd hm hw1
  obtain ⟨r, rfl⟩ := hr
  have hon : o = none := by
    cases o with
    | none => rfl
    | some x =>
      obtain ⟨⟨r', e⟩, h2⟩ := h.own2 x rfl
      have := (List.cons.inj e).1
      subst this
      omega
  subst hon
  have hnd := List.nodup_cons.1 h.nd
  refine ⟨rfl, fun w' ht hn hw => ?_⟩
  refine { nd := h.nd, lt := h.lt, mem := fun k hk hc => ?_, idle := fun k hk hc => ?_, ownr := fun k hk hc => ?_, own2 := fun y hy => ?_, non := fun e => by simp at e, pcs := fun k hk => ?_, tl := by rw [ht]; exact h.tl, ql := ?_, w1 := by rw [hw]; exact h.w1, p2 := fun k hk hc => ?_, p3 := fun k hk hc => ?_ }
  · by_cases e : k = j
    · subst e; simp
    · rw [sp_ne _ _ _ _ e] at hc; exact h.mem k hk hc
  · have e : k ≠ j := fun e => hc (by rw [e])
    rw [sp_ne _ _ _ _ e]; exact h.idle k hk (by simp)
  · by_cases e : k = j
    · rw [e]
    · rw [sp_ne _ _ _ _ e] at hc; have := h.ownr k hk hc; simp at this
  · obtain rfl : j = y := by simpa using hy
    exact ⟨⟨r, rfl⟩, .inl (.inl (sp_eq _ _ _ _))⟩
  · by_cases e : k = j
    · subst e; rw [sp_eq]; exact .inr (by omega)
    · rw [sp_ne _ _ _ _ e]; exact h.pcs k hk
  · refine h.ql.congr (fun k _ => by rw [hn]) fun k hk => ?_
    have e : k ≠ j := fun e => hnd.1 (by subst e; exact hk)
    exact ⟨sp_ne _ _ _ _ e, sp_ne _ _ _ _ e⟩
  · by_cases e : k = j
    · subst e; rw [sp_eq] at hc; omega
    · rw [sp_ne _ _ _ _ e] at hc; rw [hn]; exact h.p2 k hk hc
  · by_cases e : k = j
    · subst e; rw [sp_eq] at hc; omega
    · rw [sp_ne _ _ _ _ e] at hc; rw [hn, hw]; exact h.p3 k hk hc
/-- the one that holds or goes out goes on -/
theorem MC.own {x : Nat} (h : MC n w S Q (some x)) (hS : ∀ j, j ≠ x → ∀ t, S' j t = S j t)
    (h2 : (S' x 0 = 10 ∨ S' x 0 = 11 ∨ S' x 0 = 12) ∨ (S' x 0 = 13 ∧ Q ≠ [x]) ∨ (S' x 0 = 14 ∧ ∃ q r, Q = x :: q :: r ∧ S' x 1 = (q : Int) + 1 ∧ S' q 0 = 5)) (ht : w'.tl = w.tl) (hn : w'.nx = w.nx) (hw : w'.wt = w.wt) : MC n w' S' Q (some x) := by
  have hxp : 10 ≤ S x 0 := h.own_lt.2
  obtain ⟨⟨r, rfl⟩, h3⟩ := h.own2 x rfl
  have hnd := List.nodup_cons.1 h.nd
  have hp : 10 ≤ S' x 0 ∧ S' x 0 ≤ 14 := by
    rcases h2 with h2 | ⟨h2, _⟩ | ⟨h2, _⟩
    · omega
    · omega
    · omega
  refine { nd := h.nd, lt := h.lt, mem := fun k hk hc => ?_, idle := fun k hk hc => ?_, ownr := fun k hk hc => ?_, own2 := fun y hy => ?_, non := fun e => by simp at e, pcs := fun k hk => ?_, tl := by rw [ht]; exact h.tl, ql := ?_, w1 := by rw [hw]; exact h.w1, p2 := fun k hk hc => ?_, p3 := fun k hk hc => ?_ }
  · by_cases e : k = x
    · subst e; simp
    · rw [hS k e] at hc; exact h.mem k hk hc
  · have e : k ≠ x := fun e => hc (by rw [e])
    rw [hS k e]; exact h.idle k hk hc
  · by_cases e : k = x
    · rw [e]
    · rw [hS k e] at hc; exact h.ownr k hk hc
  · obtain rfl : x = y := by simpa using hy
    exact ⟨⟨r, rfl⟩, h2⟩
  · by_cases e : k = x
    · subst e; exact .inr hp
    · rw [hS k e]; exact h.pcs k hk
  · refine h.ql.congr (fun k _ => by rw [hn]) fun k hk => ?_
    have e : k ≠ x := fun e => hnd.1 (by subst e; exact hk)
    exact ⟨hS k e 0, hS k e 1⟩
  · have e : k ≠ x := fun e => by subst e; omega
    rw [hS k e] at hc; rw [hn]; exact h.p2 k hk hc
  · have e : k ≠ x := fun e => by subst e; omega
    rw [hS k e] at hc; rw [hn, hw]; exact h.p3 k hk hc
/-- the one that goes out is at rest: the row is its tail, whose first one is let in -/
theorem MC.quit {x : Nat} {r : List Nat} (h : MC n w S (x :: r) (some x)) (ht : w'.tl = lst r) (hn : w'.nx = w.nx) (hw : ∀ k, k ∉ r.head?.toList → w'.wt k = w.wt k) (hh : ∀ a r', r = a :: r' → S a 0 = 5 ∧ w'.wt a = 0) : MC n w' (spPut S x 0 0) r none := by
  have hnd := List.nodup_cons.1 h.nd
  have hxp : 10 ≤ S x 0 := h.own_lt.2
  have hr : ∀ k ∈ r, k ≠ x := fun k hk e => hnd.1 (by subst e; exact hk)
  have hi : ∀ k ∈ r, S k 0 = 4 ∨ S k 0 = 5 := fun k hk => h.idle k (List.mem_cons_of_mem _ hk) (fun e => hr k hk (by simpa using e.symm))
  refine { nd := hnd.2, lt := fun k hk => h.lt k (List.mem_cons_of_mem _ hk), mem := fun k hk hc => ?_, idle := fun k hk hc => ?_, ownr := fun k hk hc => ?_, own2 := fun y hy => by simp at hy, non := fun _ a r' e => ?_, pcs := fun k hk => ?_, tl := ht, ql := ?_, w1 := fun k hk => ?_, p2 := fun k hk hc => ?_, p3 := fun k hk hc => ?_ }
  · by_cases e : k = x
    · subst e; rw [sp_eq] at hc; omega
    · rw [sp_ne _ _ _ _ e] at hc
      exact (List.mem_cons.1 (h.mem k hk hc)).resolve_left e
  · rw [sp_ne _ _ _ _ (hr k hk)]; exact hi k hk
  · by_cases e : k = x
    · subst e; rw [sp_eq] at hc; omega
    · rw [sp_ne _ _ _ _ e] at hc; have := h.ownr k hk hc; simp at this; exact absurd this.symm e
  · have := hh a r' e
    rw [sp_ne _ _ _ _ (hr a (by rw [e]; simp))]; exact this
  · by_cases e : k = x
    · subst e; rw [sp_eq]; exact .inl (by omega)
    · rw [sp_ne _ _ _ _ e]; exact h.pcs k hk
  · refine h.ql.tail.congr (fun k _ => by rw [hn]) fun k hk => ?_
    have e := hr k (List.mem_of_mem_tail hk)
    exact ⟨sp_ne _ _ _ _ e, sp_ne _ _ _ _ e⟩
  · have hk' : k ∉ r.head?.toList := fun hm => by
      cases r with
      | nil => simp at hk
      | cons a b =>
        simp at hm hk
        subst hm
        exact (List.nodup_cons.1 hnd.2).1 hk
    rw [hw k hk']
    exact h.w1 k (List.mem_of_mem_tail hk)
  · have e : k ≠ x := fun e => by subst e; rw [sp_eq] at hc; omega
    rw [sp_ne _ _ _ _ e] at hc; rw [hn]; exact h.p2 k hk hc
  · have e : k ≠ x := fun e => by subst e; rw [sp_eq] at hc; omega
    rw [sp_ne _ _ _ _ e] at hc
    have hk' : k ∉ r.head?.toList := fun hm => by
      cases r with
      | nil => simp at hm
      | cons a b =>
        simp at hm
        subst hm
        have := hi k (by simp)
        omega
    rw [hn, hw k hk']; exact h.p3 k hk hc
end
end Go.Proofs.YteijjhahgabalaaGreat

/- The contracts of tas: Ask, Leave, Step. -/
namespace Go.Proofs.YteijjhahgabalaaGreat
open Go.RowKit

def tAskOk (n : Nat) (S : Nat → Nat → Int) (i : Int) : Bool := sHas n i && decide (S i.toNat 0 = 0)
def tAsk (n : Nat) (S : Nat → Nat → Int) (i : Int) : Nat → Nat → Int := if tAskOk n S i then spPut (spPut S i.toNat 0 1) i.toNat 1 1 else S
def tLeaveOk (n : Nat) (S : Nat → Nat → Int) (i : Int) : Bool := sHas n i && decide (S i.toNat 0 = 10)
def tLeave (n : Nat) (S : Nat → Nat → Int) (i : Int) : Nat → Nat → Int := if tLeaveOk n S i then spPut S i.toNat 0 11 else S
/-- the wait when it has become longer -/
def tLonger (most a : Int) : Int := if wrap64 (2 * a) ≤ most then wrap64 (2 * a) else most

section
variable {w : World} {lb ab wb sb word n : Nat} {most : Int} {S : Nat → Nat → Int} {A : AR}

theorem LkAt.pc (h : LkAt w lb ab sb word n most S) {j : Nat} (hj : j < n) (t : Nat) (ht : t < 4) : w.cell? ⟨sb, 4 * j + t, none⟩ = some (.int .i64 (S j t)) := h.row.cell (spC_get n S hj ht)
theorem LkAt.pc0 (h : LkAt w lb ab sb word n most S) {j : Nat} (hj : j < n) : w.cell? ⟨sb, 4 * j, none⟩ = some (.int .i64 (S j 0)) := h.row.cell (spC_get n S (t := 0) hj (by omega))
theorem LkAt.put0 (h : LkAt w lb ab sb word n most S) (i : Nat) (v : Int) : LkAt (w.setCell ⟨sb, 4 * i, none⟩ (.int .i64 v)) lb ab sb word n most (spPut S i 0 v) := h.put i (t := 0) (by omega) v

theorem lAsk_any (h : LkAt w lb ab sb word n most S) (i : Int) : Calls Tryz.prog 159 #[.pointer (some ⟨lb, 0, none⟩), .int .i64 i] w fun e w' => e = .returned (.bool (tAskOk n S i)) ∧ LkAt w' lb ab sb word n most (tAsk n S i) ∧ Frm [sb] w w' := by
  have H := Lib.hid h
  cases hi : sHas n i with
  | false =>
    have hr : tAskOk n S i = false := by unfold tAskOk; rw [hi]; rfl
    have hr2 : tAsk n S i = S := by unfold tAsk; rw [hr]; rfl
    rw [hr, hr2]
    have HS := Lib.hid (lspot_no h hi)
    clear h hr hr2 hi
    go_enter Tryz.func159, Tryz.ntmps159
    go_wp2_with fail
    refine HS.out.mono ?_
    rintro e w' ⟨rfl, rfl⟩
    go_wp2
    go_ret
    exact ⟨rfl, H.out, Frm.refl _ _⟩
  | true =>
    have hi' : 0 ≤ i ∧ i < (n : Int) := by unfold sHas at hi; simpa using hi
    obtain ⟨j, rfl⟩ := Int.eq_ofNat_of_zero_le hi'.1
    have hj : j < n := by omega
    have HS := Lib.hid (lspot_yes h hj)
    have c0 := h.pc0 hj
    have c1 := h.pc hj 1 (by omega)
    have hfz := h.row.frozen
    cases hq : decide (S j 0 = 0) with
    | false =>
      have hr : tAskOk n S j = false := by unfold tAskOk; rw [hi]; simpa using hq
      have hr2 : tAsk n S j = S := by unfold tAsk; rw [hr]; rfl
      rw [hr, hr2]
      have d1 : (S j 0 != 0) = true := by simpa using hq
      generalize S j 0 = pc at *
      clear h hr hr2 hi hi' hq c1 hfz
      go_enter Tryz.func159, Tryz.ntmps159
      go_wp2_with fail
      refine HS.out.mono ?_
      rintro e w' ⟨rfl, rfl⟩
      go_wp2
      go_ret
      exact ⟨rfl, H.out, Frm.refl _ _⟩
    | true =>
      have hr : tAskOk n S j = true := by unfold tAskOk; rw [hi]; simpa using hq
      have hr2 : tAsk n S j = spPut (spPut S j 0 1) j 1 1 := by unfold tAsk; rw [hr]; rfl
      rw [hr, hr2]
      have d1 : (S j 0 != 0) = false := by simpa using hq
      have HP := Lib.hid ((h.put0 j 1).put j (t := 1) (by omega) 1)
      generalize S j 0 = pc at *
      generalize S j 1 = a at *
      clear h hr hr2 hi hi' hq
      go_enter Tryz.func159, Tryz.ntmps159
      go_wp2_with fail
      refine HS.out.mono ?_
      rintro e w' ⟨rfl, rfl⟩
      go_wp2
      go_ret
      exact ⟨rfl, HP.out, ((Frm.refl [sb] w).set ⟨sb, 4 * j, none⟩ _ (.inl (by simp))).set ⟨sb, 4 * j + 1, none⟩ _ (.inl (by simp))⟩

theorem lLeave_any (h : LkAt w lb ab sb word n most S) (i : Int) : Calls Tryz.prog 160 #[.pointer (some ⟨lb, 0, none⟩), .int .i64 i] w fun e w' => e = .returned (.bool (tLeaveOk n S i)) ∧ LkAt w' lb ab sb word n most (tLeave n S i) ∧ Frm [sb] w w' := by
  have H := Lib.hid h
  cases hi : sHas n i with
  | false =>
    have hr : tLeaveOk n S i = false := by unfold tLeaveOk; rw [hi]; rfl
    have hr2 : tLeave n S i = S := by unfold tLeave; rw [hr]; rfl
    rw [hr, hr2]
    have HS := Lib.hid (lspot_no h hi)
    clear h hr hr2 hi
    go_enter Tryz.func160, Tryz.ntmps160
    go_wp2_with fail
    refine HS.out.mono ?_
    rintro e w' ⟨rfl, rfl⟩
    go_wp2
    go_ret
    exact ⟨rfl, H.out, Frm.refl _ _⟩
  | true =>
    have hi' : 0 ≤ i ∧ i < (n : Int) := by unfold sHas at hi; simpa using hi
    obtain ⟨j, rfl⟩ := Int.eq_ofNat_of_zero_le hi'.1
    have hj : j < n := by omega
    have HS := Lib.hid (lspot_yes h hj)
    have c0 := h.pc0 hj
    have hfz := h.row.frozen
    cases hq : decide (S j 0 = 10) with
    | false =>
      have hr : tLeaveOk n S j = false := by unfold tLeaveOk; rw [hi]; simpa using hq
      have hr2 : tLeave n S j = S := by unfold tLeave; rw [hr]; rfl
      rw [hr, hr2]
      have d1 : (S j 0 != 10) = true := by simpa using hq
      generalize S j 0 = pc at *
      clear h hr hr2 hi hi' hq hfz
      go_enter Tryz.func160, Tryz.ntmps160
      go_wp2_with fail
      refine HS.out.mono ?_
      rintro e w' ⟨rfl, rfl⟩
      go_wp2
      go_ret
      exact ⟨rfl, H.out, Frm.refl _ _⟩
    | true =>
      have hr : tLeaveOk n S j = true := by unfold tLeaveOk; rw [hi]; simpa using hq
      have hr2 : tLeave n S j = spPut S j 0 11 := by unfold tLeave; rw [hr]; rfl
      rw [hr, hr2]
      have d1 : (S j 0 != 10) = false := by simpa using hq
      have HP := Lib.hid (h.put0 j 11)
      generalize S j 0 = pc at *
      clear h hr hr2 hi hi' hq
      go_enter Tryz.func160, Tryz.ntmps160
      go_wp2_with fail
      refine HS.out.mono ?_
      rintro e w' ⟨rfl, rfl⟩
      go_wp2
      go_ret
      exact ⟨rfl, HP.out, (Frm.refl [sb] w).set ⟨sb, 4 * j, none⟩ _ (.inl (by simp))⟩

/-- a step at rest or while it holds: nothing -/
theorem lStep_idle (h : LkAt w lb ab sb word n most S) (i : Int) (hq : sHas n i = false ∨ (S i.toNat 0 ≠ 1 ∧ S i.toNat 0 ≠ 2 ∧ S i.toNat 0 ≠ 11)) : Calls Tryz.prog 163 #[.pointer (some ⟨lb, 0, none⟩), .int .i64 i] w fun e w' => e = .returned (.bool false) ∧ w = w' := by
  cases hi : sHas n i with
  | false =>
    have HS := Lib.hid (lspot_no h hi)
    clear h hq hi
    go_enter Tryz.func163, Tryz.ntmps163
    go_wp2_with fail
    refine HS.out.mono ?_
    rintro e w' ⟨rfl, rfl⟩
    go_wp2
    go_ret
    exact ⟨rfl, rfl⟩
  | true =>
    have hi' : 0 ≤ i ∧ i < (n : Int) := by unfold sHas at hi; simpa using hi
    obtain ⟨j, rfl⟩ := Int.eq_ofNat_of_zero_le hi'.1
    have hj : j < n := by omega
    have HS := Lib.hid (lspot_yes h hj)
    have c0 := h.pc0 hj
    rw [hi] at hq
    rw [show ((j : Int).toNat) = j from by omega] at hq
    obtain ⟨q1, q2, q3⟩ := hq.resolve_left (by simp)
    generalize S j 0 = pc at *
    have d1 : (pc == 1) = false := by simpa using q1
    have d2 : (pc == 2) = false := by simpa using q2
    have d3 : (pc == 11) = false := by simpa using q3
    clear h hq hi hi' q1 q2 q3
    go_enter Tryz.func163, Tryz.ntmps163
    go_wp2_with fail
    refine HS.out.mono ?_
    rintro e w' ⟨rfl, rfl⟩
    go_wp2
    go_ret
    exact ⟨rfl, rfl⟩

theorem lStep_wait (h : LkAt w lb ab sb word n most S) {j : Nat} (hj : j < n) (hq : S j 0 = 2) : Calls Tryz.prog 163 #[.pointer (some ⟨lb, 0, none⟩), .int .i64 j] w fun e w' => e = .returned (.bool false) ∧
    LkAt w' lb ab sb word n most (if wrap64 (S j 2 - 1) = 0 then spPut (spPut S j 2 (wrap64 (S j 2 - 1))) j 0 1 else spPut S j 2 (wrap64 (S j 2 - 1))) ∧ Frm [sb] w w' := by
  have HS := Lib.hid (lspot_yes h hj)
  have c0 := h.pc0 hj
  rw [hq] at c0
  have c2 := h.pc hj 2 (by omega)
  have hfz := h.row.frozen
  have hP := h.put j (t := 2) (by omega) (wrap64 (S j 2 - 1))
  have hP0 := hP.put0 j 1
  have k0 := hP.pc0 hj
  have k2 := hP.pc hj 2 (by omega)
  have hfz2 := hP.row.frozen
  have e0 : spPut S j 2 (wrap64 (S j 2 - 1)) j 0 = 2 := by unfold spPut; simpa using hq
  have e2 : spPut S j 2 (wrap64 (S j 2 - 1)) j 2 = wrap64 (S j 2 - 1) := by unfold spPut; simp
  rw [e0] at k0
  rw [e2] at k2
  have HP := Lib.hid hP
  have HP0 := Lib.hid hP0
  have HQ := Lib.hid hq
  have hf : Frm [sb] w (w.setCell ⟨sb, 4 * j + 2, none⟩ (.int .i64 (wrap64 (S j 2 - 1)))) := (Frm.refl [sb] w).set ⟨sb, 4 * j + 2, none⟩ _ (.inl (by simp))
  have HF := Lib.hid hf
  clear h hq hP hP0 e0 e2 hf
  by_cases hz : wrap64 (S j 2 - 1) = 0
  · rw [if_pos hz]
    have d1 : (wrap64 (S j 2 - 1) == 0) = true := by simpa using hz
    clear hz
    generalize S j 2 = b at *
    go_enter Tryz.func163, Tryz.ntmps163
    go_wp2_with fail
    refine HS.out.mono ?_
    rintro e w' ⟨rfl, rfl⟩
    go_wp2
    go_ret
    exact ⟨rfl, HP0.out, HF.out.set ⟨sb, 4 * j, none⟩ _ (.inl (by simp))⟩
  · rw [if_neg hz]
    have d1 : (wrap64 (S j 2 - 1) == 0) = false := by simpa using hz
    clear hz
    generalize S j 2 = b at *
    go_enter Tryz.func163, Tryz.ntmps163
    go_wp2_with fail
    refine HS.out.mono ?_
    rintro e w' ⟨rfl, rfl⟩
    go_wp2
    go_ret
    exact ⟨rfl, HP.out, HF.out⟩
end

end Go.Proofs.YteijjhahgabalaaGreat

/- The contracts of tas: a step that tries, and one that frees. -/
namespace Go.Proofs.YteijjhahgabalaaGreat
open Go.RowKit

section
variable {w : World} {lb ab wb sb word n : Nat} {most : Int} {S : Nat → Nat → Int} {A : AR}

theorem lStep_free (h : LkAt w lb ab sb word n most S) (hA : ArAt w ab wb A) (hne : lb ≠ ab ∧ lb ≠ wb ∧ sb ≠ ab ∧ sb ≠ wb) {j : Nat} (hj : j < n) (hq : S j 0 = 11) : Calls Tryz.prog 163 #[.pointer (some ⟨lb, 0, none⟩), .int .i64 j] w fun e w' => e = .returned (.bool true) ∧
    LkAt w' lb ab sb word n most (spPut S j 0 0) ∧ ArAt w' ab wb (A.store word 0) ∧ Frm [sb, ab, wb] w w' := by
  obtain ⟨n1, n2, n3, n4⟩ := hne
  have HS := Lib.hid (lspot_yes h hj)
  have c0 := h.pc0 hj
  rw [hq] at c0
  have b0 := h.box.cell (i := 0) rfl
  have b1 := h.box.cell (i := 1) rfl
  have H := Lib.hid h
  have HSt := Lib.hid (fun k => Store_any (hA.frm (S := []) ((Frm.refl _ w).drew k) (by simp) (by simp)) word 0)
  clear h hA hq
  go_enter Tryz.func163, Tryz.ntmps163
  go_wp2_with fail
  refine HS.out.mono ?_
  rintro e w' ⟨rfl, rfl⟩
  go_wp2_with fail
  refine wp_region_quiet_tail 8 (by kernel_rfl) (by kernel_rfl) ?_
  simp only [List.take_succ_cons, List.take_zero, List.drop_succ_cons, List.drop_zero]
  repeat (quiet_step (fail))
  refine wpQuiet_nil ?_
  rintro _ ⟨nq, rfl⟩
  go_wp2_with fail
  refine (HSt.out nq).mono ?_
  rintro e w1 ⟨rfl, hA, hF⟩
  have hF1 := ((Frm.refl [ab, wb] w).drew nq).trans hF
  have hL := H.out.frm hF1 (by simp; omega) (by simp; omega)
  have k0 := hL.pc0 hj
  have hfz := hL.row.frozen
  have HP := Lib.hid (hL.put0 j 0)
  have hf2 : Frm [sb] w1 (w1.setCell ⟨sb, 4 * j, none⟩ (.int .i64 0)) := (Frm.refl _ _).set ⟨sb, 4 * j, none⟩ _ (.inl (by simp))
  have HA := Lib.hid (hA.frm hf2 (by simp; omega) (by simp; omega))
  have HF := Lib.hid ((hF1.mono (S' := [sb, ab, wb]) (by simp)).trans (hf2.mono (by simp)))
  clear hA hF hF1 hL hf2 c0 b0 b1
  go_wp2
  go_ret
  exact ⟨rfl, HP.out, HA.out, HF.out⟩

set_option maxHeartbeats 4000000 in
theorem lStep_try (h : LkAt w lb ab sb word n most S) (hA : ArAt w ab wb A) (hne : lb ≠ ab ∧ lb ≠ wb ∧ sb ≠ ab ∧ sb ≠ wb) {j : Nat} (hj : j < n) (hq : S j 0 = 1) : Calls Tryz.prog 163 #[.pointer (some ⟨lb, 0, none⟩), .int .i64 j] w fun e w' => e = .returned (.bool (A.casOk word 0)) ∧
    LkAt w' lb ab sb word n most (if A.casOk word 0 then spPut S j 0 10 else spPut (spPut (spPut S j 0 2) j 2 (S j 1)) j 1 (tLonger most (S j 1))) ∧ ArAt w' ab wb (A.cas word 0 ((j : Int) + 1)) ∧ Frm [sb, ab, wb] w w' := by
  obtain ⟨n1, n2, n3, n4⟩ := hne
  have hn := h.n32
  have HS := Lib.hid (lspot_yes h hj)
  have c0 := h.pc0 hj
  rw [hq] at c0
  have b0 := h.box.cell (i := 0) rfl
  have b1 := h.box.cell (i := 1) rfl
  have H := Lib.hid h
  have HC := Lib.hid (fun k => Cas_any (hA.frm (S := []) ((Frm.refl _ w).drew k) (by simp) (by simp)) word 0 ((j : Int) + 1))
  have HQ := Lib.hid hq
  clear h hA hq
  go_enter Tryz.func163, Tryz.ntmps163
  go_wp2_with fail
  refine HS.out.mono ?_
  rintro e w' ⟨rfl, rfl⟩
  go_wp2_with fail
  refine wp_region_quiet_tail 10 (by kernel_rfl) (by kernel_rfl) ?_
  simp only [List.take_succ_cons, List.take_zero, List.drop_succ_cons, List.drop_zero]
  repeat (quiet_step (fail))
  refine wpQuiet_nil ?_
  rintro _ ⟨nq, rfl⟩
  go_wp2_with fail
  refine (HC.out nq).mono ?_
  rintro e w1 ⟨rfl, hA, hF⟩
  have hF1 := ((Frm.refl [ab, wb] w).drew nq).trans hF
  have hL := H.out.frm hF1 (by simp; omega) (by simp; omega)
  have k0 := hL.pc0 hj
  have hfz := hL.row.frozen
  have HA := Lib.hid hA
  have HF1 := Lib.hid (hF1.mono (S' := [sb, ab, wb]) (by simp))
  have HL := Lib.hid hL
  clear hA hF hF1 hL c0 b0 b1
  cases hok : A.casOk word 0 with
  | true =>
    have HP := Lib.hid (HL.out.put0 j 10)
    have hf2 : Frm [sb] w1 (w1.setCell ⟨sb, 4 * j, none⟩ (.int .i64 10)) := (Frm.refl _ _).set ⟨sb, 4 * j, none⟩ _ (.inl (by simp))
    have HA2 := Lib.hid (HA.out.frm hf2 (by simp; omega) (by simp; omega))
    have HF := Lib.hid (HF1.out.trans (hf2.mono (by simp)))
    clear hf2
    go_wp2
    go_ret
    exact ⟨rfl, by simpa using HP.out, HA2.out, HF.out⟩
  | false =>
    have hP := ((HL.out.put0 j 2).put j (t := 2) (by omega) (S j 1)).put j (t := 1) (by omega) (tLonger most (S j 1))
    have hf2 : Frm [sb] w1 _ := (((Frm.refl [sb] w1).set ⟨sb, 4 * j, none⟩ (.int .i64 2) (.inl (by simp))).set ⟨sb, 4 * j + 2, none⟩ (.int .i64 (S j 1)) (.inl (by simp))).set ⟨sb, 4 * j + 1, none⟩ (.int .i64 (tLonger most (S j 1))) (.inl (by simp))
    have HP := Lib.hid hP
    have HA2 := Lib.hid (HA.out.frm hf2 (by simp; omega) (by simp; omega))
    have HF := Lib.hid (HF1.out.trans (hf2.mono (by simp)))
    have k1 := HL.out.pc hj 1 (by omega)
    have k2 := HL.out.pc hj 2 (by omega)
    have b2 := HL.out.box.cell (i := 2) rfl
    clear hP hf2
    have HLo := Lib.hid (rfl : tLonger most (S j 1) = if wrap64 (2 * S j 1) ≤ most then wrap64 (2 * S j 1) else most)
    go_upto_region 9 with fail
    by_cases hmin : wrap64 (2 * S j 1) ≤ most
    · have hlo : tLonger most (S j 1) = wrap64 (2 * S j 1) := by unfold tLonger; rw [if_pos hmin]
      rw [hlo] at HP HA2 HF
      have hm2 : IntKind.i64.wrap (2 * S j 1) ≤ most := by rw [IntWalk.i64_left]; exact hmin
      have HLO := Lib.hid hlo
      have HQ3 := Lib.hid (And.intro HP.out (And.intro HA2.out HF.out))
      clear HLo HP HA2 HF HA HF1 HL H HC HQ HS hlo
      go_region_with fail
      all_goals
        go_wp2
        all_goals
          go_ret
          refine ⟨rfl, ?_⟩
          (try rw [HLO.out])
          (try simp only [IntWalk.i64_left])
          first
            | exact HQ3.out
            | exact ⟨HQ3.out.1.frm (Z := []) ((Frm.refl _ _).drew1) (by simp) (by simp), HQ3.out.2.1.frm (S := []) ((Frm.refl _ _).drew1) (by simp) (by simp), HQ3.out.2.2.drew1⟩
    · have hlo : tLonger most (S j 1) = most := by unfold tLonger; rw [if_neg hmin]
      rw [hlo] at HP HA2 HF
      have hm2 : ¬ IntKind.i64.wrap (2 * S j 1) ≤ most := by rw [IntWalk.i64_left]; exact hmin
      have hm3 : most < IntKind.i64.wrap (2 * S j 1) := by rw [IntWalk.i64_left]; omega
      have HLO := Lib.hid hlo
      have HQ3 := Lib.hid (And.intro HP.out (And.intro HA2.out HF.out))
      clear HLo HP HA2 HF HA HF1 HL H HC HQ HS hlo
      go_region_with fail
      all_goals
        go_wp2
        all_goals
          go_ret
          refine ⟨rfl, ?_⟩
          (try rw [HLO.out])
          (try simp only [IntWalk.i64_left])
          first
            | exact HQ3.out
            | exact ⟨HQ3.out.1.frm (Z := []) ((Frm.refl _ _).drew1) (by simp) (by simp), HQ3.out.2.1.frm (S := []) ((Frm.refl _ _).drew1) (by simp) (by simp), HQ3.out.2.2.drew1⟩
end

end Go.Proofs.YteijjhahgabalaaGreat
