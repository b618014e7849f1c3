/- The contracts of the reference's arena: New and Take. -/
import Derived.Test.YtacogelejffbhaaRefArena
namespace Go.Proofs.Ytacogelejffbhaa
open Go.RowKit

theorem own_succ {W : World} {base : Nat} {e : TypeId} {size : Nat} {v : Value} {k : Nat} {xs : List Value} (h : W.ownsRow base e size v (k + 1) xs) : ∃ g cap, v = .slice (some ⟨g, 0, none⟩) (k + 1) cap := by
  obtain ⟨_, h2⟩ := h
  rcases h2 with ⟨_, h0⟩ | ⟨g, cap, _, hv, _⟩
  · omega
  · exact ⟨g, cap, hv⟩

theorem rfresh_at (w : World) (n : Nat) (hn : n ≤ 4096) : RfAt (w.alloc (.cells #[.int .i64 n, .slice none 0 0, .int .i64 0, .int .i64 0, .int .i64 0, .bool false] 55)) w.heap.size (.slice none 0 0) (AR.fresh n) := by
  have h2 := HAt.new w #[.int .i64 n, .slice none 0 0, .int .i64 0, .int .i64 0, .int .i64 0, .bool false] 55
  refine { box := by simpa [AR.fresh] using h2, row := ?_, room := by simpa [AR.fresh] using hn, le := by simp [AR.fresh], clean := ?_ }
  · exact Own.nil _ _
  · intro i _ h
    unfold AR.fresh at h ⊢
    rw [List.getElem?_replicate, if_pos (by simpa using h)]

theorem rNew_any (room : Int) (w : World) : Calls Try.prog 19 #[.int .i64 room] w fun e w' => e = .returned (.pointer (some ⟨w.heap.size, 0, none⟩)) ∧
    RfAt w' w.heap.size (.slice none 0 0) (AR.fresh (roomOf room)) ∧ Frm [] w w' := by
  by_cases h0 : room < 0
  · have hr : roomOf room = 0 := by unfold roomOf; split <;> omega
    rw [hr]
    have HF := Lib.hid (rfresh_at w 0 (by omega))
    clear hr
    go_enter Try.func19, Try.ntmps19
    go_wp2
    go_ret
    exact ⟨rfl, HF.out, (Frm.refl _ _).alloc _⟩
  · by_cases h1 : 4096 < room
    · have hr : roomOf room = 4096 := by unfold roomOf; rw [if_pos h1]
      rw [hr]
      have HF := Lib.hid (rfresh_at w 4096 (by omega))
      clear hr
      go_enter Try.func19, Try.ntmps19
      go_wp2
      go_ret
      exact ⟨rfl, HF.out, (Frm.refl _ _).alloc _⟩
    · obtain ⟨n, rfl⟩ : ∃ n : Nat, room = n := ⟨room.toNat, by omega⟩
      have hr : roomOf (n : Int) = n := by unfold roomOf; rw [if_neg h1]; omega
      rw [hr]
      have HF := Lib.hid (rfresh_at w n (by omega))
      clear hr
      go_enter Try.func19, Try.ntmps19
      go_wp2
      go_ret
      exact ⟨rfl, HF.out, (Frm.refl _ _).alloc _⟩

theorem rTake_no {w : World} {rb : Nat} {v : Value} {A : AR} (h : RfAt w rb v A) (n : Int) (hn : A.takeE n ≠ 0) :
    Calls Try.prog 39 #[.pointer (some ⟨rb, 0, none⟩), .int .i64 n] w fun e w' => e = .returned (.tuple #[.int .i64 0, .int .i64 (A.takeE n)]) ∧ Frm [] w w' ∧ RfAt w' rb v A := by
  obtain ⟨a, cap, rfl⟩ := h.slice
  have c0 := h.box.cell (i := 0) rfl
  have c1 := h.box.cell (i := 1) rfl
  have hle := h.le
  have hroom := h.room
  have H := Lib.hid h
  clear h
  by_cases hneg : n < 0
  · have he : A.takeE n = 1 := by unfold AR.takeE; rw [if_pos hneg]
    rw [he]
    clear hn he
    go_enter Try.func39, Try.ntmps39
    go_wp2
    go_ret2
    exact ⟨rfl, Frm.refl _ _, H.out⟩
  · have hbig : (A.ws.length : Int) - A.taken < n := by
      by_cases hb : (A.ws.length : Int) - A.taken < n
      · exact hb
      · exact absurd (by unfold AR.takeE; rw [if_neg hneg, if_neg hb]) hn
    have he : A.takeE n = 3 := by unfold AR.takeE; rw [if_neg hneg, if_pos hbig]
    rw [he]
    clear hn he
    have d1 : decide ((A.ws.length : Int) - A.taken < n) = true := by simpa using hbig
    go_enter Try.func39, Try.ntmps39
    go_wp2
    go_quiet (fail)
    go_wp2
    go_ret2
    exact ⟨rfl, (Frm.refl _ _).drew _, { H.out with box := H.out.box.drew _, row := H.out.row.frm ((Frm.refl [] _).drew _) (by simp) }⟩

/-- the arena while words are taken -/
def AR.more (A : AR) (k : Nat) : AR := { A with taken := A.taken + k }
theorem more_words (A : AR) (k : Nat) (hk : A.taken + k < A.ws.length) (hc : ∀ i, A.taken ≤ i → i < A.ws.length → A.ws[i]? = some 0) : (A.more (k + 1)).words = (A.more k).words ++ [0] := by
  unfold AR.more AR.words
  show A.ws.take (A.taken + k + 1) = A.ws.take (A.taken + k) ++ [0]
  rw [List.take_succ_eq_append_getElem hk]
  have := hc (A.taken + k) (by omega) hk
  rw [List.getElem?_eq_getElem hk] at this
  rw [Option.some.inj this]

set_option maxHeartbeats 1000000 in
theorem rTake_yes {w : World} {rb : Nat} {v : Value} {A : AR} (h : RfAt w rb v A) (n : Int) (hn : A.takeE n = 0) :
    Calls Try.prog 39 #[.pointer (some ⟨rb, 0, none⟩), .int .i64 n] w fun e w' => e = .returned (.tuple #[.int .i64 ((A.taken : Int) + 1), .int .i64 0]) ∧
      ∃ v', RfAt w' rb v' { A with taken := A.taken + n.toNat } ∧ Frm (rb :: vb v) w w' ∧ (∀ k, v'.ownBlock = some k → v.ownBlock = some k ∨ w.heap.size ≤ k) := by
  have hneg : ¬ n < 0 := by intro hneg; unfold AR.takeE at hn; rw [if_pos hneg] at hn; omega
  have hbig : ¬ (A.ws.length : Int) - A.taken < n := by intro hb; unfold AR.takeE at hn; rw [if_neg hneg, if_pos hb] at hn; omega
  clear hn
  obtain ⟨m, rfl⟩ : ∃ m : Nat, n = m := ⟨n.toNat, by omega⟩
  have d1 : decide ((A.ws.length : Int) - A.taken < (m : Int)) = false := by simp; omega
  obtain ⟨i0, hi, hz0, hz1, hz2⟩ := info_parts intInfo
  have HI := Lib.hid (And.intro hi (And.intro hz0 (And.intro hz1 hz2)))
  obtain ⟨a0, cap0, hv0⟩ := h.slice
  have c0 := h.box.cell (i := 0) rfl
  have c1 := h.box.cell (i := 1) rfl
  rw [hv0] at c1
  have hle := h.le
  have hroom := h.room
  have hrb := h.box.lt
  have H := Lib.hid h
  have HC := Lib.hid h.clean
  clear h hi hz0 hz1 hz2 hv0
  go_enter Try.func39, Try.ntmps39
  go_wp2
  go_quiet (fail)
  go_wp2
  go_loopw [7] (fun i wr => ∃ (k : Nat) (u : Value), i = .int .i64 k ∧ k ≤ m ∧ HAt wr rb [.int .i64 A.ws.length, u, .int .i64 A.ops, .int .i64 A.k, .int .i64 A.at_, .bool A.wr] 55 ∧
      Own wr (rb + 1) u (A.more k).words ∧ Frm (rb :: vb v) w wr ∧ (∀ k, u.ownBlock = some k → v.ownBlock = some k ∨ w.heap.size ≤ k)) (fun i _ => m - (intOf i).toNat)
  case atStart => exact ⟨0, v, rfl, Nat.zero_le _, H.out.box.drew _, H.out.row.frm ((Frm.refl [] _).drew _) (by simp), (Frm.refl _ _).drew _, fun k hk => .inl hk⟩
  case round =>
    obtain ⟨k, u, rfl, hk, hB, hO, hF, hV⟩ := hrel
    have hsz := hF.size
    by_cases hlt : k < m
    · have e1 := hB.cell (i := 1) rfl
      have z1 := hB.frozen 1
      have hlen : (A.more k).words.length = A.taken + k := AR.words_len (by unfold AR.more; simp; omega)
      have hnx := more_words A k (by omega) HC.out
      have HN := Lib.hid hnx
      have HLN := Lib.hid hlen
      have HOB := Lib.hid (own_block hO)
      have HOW := Lib.hid (hO.at hlen)
      have HB := Lib.hid hB
      have HF := Lib.hid hF
      have HV := Lib.hid hV
      clear hnx hlen hO hB hF hV c0 c1
      go_wp2_with (at_builtin; refine wpList_append_own_at _ rfl _ _ 30 rfl (rb + 1) 3 i0 (.int .i64 0) 1 8 Try.underlying30 HI.out.1 HI.out.2.1 HI.out.2.2.1 HI.out.2.2.2 rfl (by decide) _ _ _ rfl (HOW.out.alloc _) ⟨wr.heap.size, 0, none⟩ 1 1 [.int .i64 0] rfl rfl ?c1 ?c2 ?c3 ?c4 ?c5 ?_)
      case c1 => exact cell_one_new _ _ _
      case c2 => simp [Value.oneCell']
      case c3 => unfold maxLen; omega
      case c4 => omega
      case c5 => simp; omega
      intro v' w1 hown' hgrow _ hat
      obtain ⟨g', cap', rfl⟩ := own_succ hown'
      have g1 : Own w1 (rb + 1) (.slice (some ⟨g', 0, none⟩) (A.taken + k + 1) cap') (A.more (k + 1)).words := by
        rw [HN.out]
        unfold Own
        have e := HLN.out
        simp only [List.length_append, List.length_singleton, List.map_append, List.map_cons, List.map_nil]
        rw [e]
        exact hown'
      have g2 : Frm (u.ownBlock.toList) wr w1 := ((Frm.refl _ wr).alloc _).widen (Frm.of_grown (S := u.ownBlock.toList) hgrow (fun k hk => .inl (by simp [hk]))) (fun x hx => .inl hx)
      have g3 := HB.out.frm g2 (fun hm => by have := HOB.out rb (by simpa using hm); omega)
      have g4 : Frm (rb :: vb v) w w1 := HF.out.widen g2 (fun x hx => by
        rcases HV.out x (by simpa using hx) with h | h
        · exact .inl (by simp [vb, h])
        · exact .inr h)
      have g5 : ∀ k, (Value.slice (some ⟨g', 0, none⟩) (A.taken + k + 1) cap').ownBlock = some k → v.ownBlock = some k ∨ w.heap.size ≤ k := by
        intro x hx
        have hx' : g' = x := by simpa [Value.ownBlock] using hx
        subst hx'
        rcases hat with h | h
        · exact HV.out g' (by rw [← h]; rfl)
        · right
          have : g' = wr.heap.size + 1 := by simpa [Value.ownBlock] using h
          omega
      have hgne : g' ≠ rb := by
        have := own_block g1 g' rfl
        omega
      have e1 := g3.cell (i := 1) rfl
      have z1 := g3.frozen 1
      have G1 := Lib.hid g1
      have G3 := Lib.hid g3
      have G4 := Lib.hid g4
      have G5 := Lib.hid g5
      clear g1 g2 g3 g4 g5 hown' hgrow hat HB HF HV HOB HOW HN HLN
      go_wp2
      go_roundw
      case rel =>
        refine ⟨k + 1, _, by go_num, by omega, G3.out.set 1 _, ?_, G4.out.set _ _ (.inl (by simp)), fun x hx => G5.out x (by simpa [Value.ownBlock] using hx)⟩
        exact ownsRow_setCell_below G1.out (by simp) _
      case measure => simp [intOf]; omega
    · have hke : k = m := by omega
      subst hke
      have HB := Lib.hid hB
      have HO := Lib.hid hO
      have HF := Lib.hid hF
      have HV := Lib.hid hV
      clear hB hO hF hV
      go_wp2
      go_ret2
      refine ⟨rfl, u, ?_, HF.out, HV.out⟩
      refine { box := by simpa using HB.out, row := ?_, room := hroom, le := by simp; omega, clean := fun i h1 h2 => HC.out i (by simp at h1; omega) h2 }
      have := HO.out
      simpa [AR.more] using this

/-- Take, whatever is asked for -/
theorem rTake_any {w : World} {rb : Nat} {v : Value} {A : AR} (h : RfAt w rb v A) (n : Int) :
    Calls Try.prog 39 #[.pointer (some ⟨rb, 0, none⟩), .int .i64 n] w fun e w' => e = .returned (.tuple #[.int .i64 (A.takeN n), .int .i64 (A.takeE n)]) ∧
      ∃ v', RfAt w' rb v' (A.take n) ∧ Frm (rb :: vb v) w w' ∧ (∀ k, v'.ownBlock = some k → v.ownBlock = some k ∨ w.heap.size ≤ k) := by
  by_cases hn : A.takeE n = 0
  · exact (rTake_yes h n hn).mono fun e w' ⟨h1, v', h2, h3, h4⟩ => ⟨by rw [h1]; unfold AR.takeN; rw [if_pos hn, hn], v', by unfold AR.take; rw [if_pos hn]; exact h2, h3, h4⟩
  · exact (rTake_no h n hn).mono fun e w' ⟨h1, h2, h3⟩ => ⟨by rw [h1]; unfold AR.takeN; rw [if_neg hn], v, by unfold AR.take; rw [if_neg hn]; exact h3, h2.mono (by simp), fun k hk => .inl hk⟩

end Go.Proofs.Ytacogelejffbhaa
