/- The walk of the law TurnStays: it returns true, and writes nothing that was there. -/
import Derived.Test.YtakhhbemnodahaaTurnStay
import Derived.Test.YtakhhbemnodahaaHas
namespace Go.Proofs.Ytakhhbemnodahaa
open Go.RowKit

/-- the law's invariant: the arena, the turns and the words that are past -/
structure TSI (w0 w : World) (wb ab tb base slots : Nat) (A : AR) (d : Nat → Nat) (m : Nat) (v : Value) (past : List Int) : Prop where
  ar : ArAt w ab wb A
  tr : TrAt w tb ab 1 slots d m
  td : TrD A slots d
  own : Own w base v past
  frm : Frm [] w0 w
  pst : Past slots d past
  o0 : w0.heap.size ≤ wb
  o1 : wb < ab
  o2 : ab < tb
  o3 : tb < base
  o4 : w0.heap.size ≤ ab

section
variable {w0 w w1 : World} {wb ab tb base slots m : Nat} {A B : AR} {d : Nat → Nat} {v : Value} {past : List Int}
theorem TSI.kept (h : TSI w0 w wb ab tb base slots A d m v past) (hf : Frm [] w w1) : TSI w0 w1 wb ab tb base slots A d m v past :=
  { h with ar := h.ar.frm hf (by simp) (by simp), tr := h.tr.frm hf (by simp), own := h.own.frm hf (by simp), frm := h.frm.trans hf }
theorem TSI.looked (h : TSI w0 w wb ab tb base slots A d m v past) (hA : ArAt w1 ab wb B) (hf : Frm [ab, wb] w w1) (hd : TrD B slots d) : TSI w0 w1 wb ab tb base slots B d m v past := by
  have := h.o0; have := h.o1; have := h.o2; have := h.o3; have := h.o4
  exact { h with ar := hA, tr := h.tr.frm hf (by simp; omega), td := hd, own := h.own.frm hf (by simp; omega), frm := h.frm.widen hf (by simp; omega) }
theorem Past.mono {i : Nat} (h : Past slots d past) (hi : i < slots) : Past slots (tUp slots d i) past := fun p hp => h.more hi p (List.mem_append_left _ hp)
theorem TSI.done (h : TSI w0 w wb ab tb base slots A d m v past) {i : Nat} (hi : i < slots) (hm : m ≤ 1000) (hA : ArAt w1 ab wb (A.tDone 1 slots i)) (hT : TrAt w1 tb ab 1 slots (tUp slots d i) (m + 1)) (hf : Frm [tb, ab, wb] w w1) :
    TSI w0 w1 wb ab tb base slots (A.tDone 1 slots i) (tUp slots d i) (m + 1) v past := by
  have := h.o0; have := h.o1; have := h.o2; have := h.o3; have := h.o4
  exact { h with ar := hA, tr := hT, td := h.td.done h.tr.bd hm i, own := h.own.frm hf (by simp; omega), frm := h.frm.widen hf (by simp; omega), pst := h.pst.mono hi }
theorem TSI.app (h : TSI w0 w wb ab tb base slots A d m v past) {x : Int} {v' : Value} {o : Obj} (hown : w1.ownsRow base 3 1 v' (past.length + 1) (past.map (Value.int .i64) ++ [.int .i64 x])) (hg : (w.alloc o).grownBy w1 v.ownBlock) (hp : Past slots d (past ++ [x])) :
    TSI w0 w1 wb ab tb base slots A d m v' (past ++ [x]) := by
  have := h.o0; have := h.o1; have := h.o2; have := h.o3; have := h.o4
  have hb := own_block h.own
  have hf : Frm (v.ownBlock.toList) w w1 := ((Frm.refl _ w).alloc o).widen (Frm.of_grown (S := v.ownBlock.toList) hg (fun k hk => .inl (by simp [hk]))) (fun x hx => .inl hx)
  have hn : ∀ b, b < base → b ∉ v.ownBlock.toList := fun b hlt hm => by have := hb b (by simpa using hm); omega
  exact { h with ar := h.ar.frm hf (hn _ (by omega)) (hn _ (by omega)), tr := h.tr.frm hf (hn _ (by omega)), own := by unfold Own; simpa using hown, frm := h.frm.widen hf (fun x hx => .inr (by have := hb x (by simpa using hx); omega)), pst := hp }
end

set_option maxHeartbeats 1000000 in
theorem turnStays_long (n : Int) (v : Value) (zs : List Int) (w : World) (h : IsRow .u8 w v zs) (hl : 60 < zs.length) :
    Calls Try.prog 7 #[.int .u8 n, v] w fun e w' => e = .returned (.bool true) ∧ Below w.heap.size w w' := by
  obtain ⟨a, cap, rfl, -, -, -⟩ := h
  have d1 : decide ((60 : Int) < zs.length) = true := by simp; omega
  go_enter Try.func7, Try.ntmps7
  go_wp2_with fail
  refine (tawake _).mono ?_
  rintro e w1 ⟨rfl, hF⟩
  have HF := Lib.hid hF
  clear hF
  go_wp2
  go_ret
  exact ⟨rfl, HF.out.below (Nat.le_refl _) (by simp)⟩

set_option maxRecDepth 100000 in
set_option maxHeartbeats 4000000 in
theorem turnStays_short (n : Int) (v : Value) (zs : List Int) (w : World) (hn : U8 n) (h : IsRow .u8 w v zs) (hl : zs.length ≤ 60) :
    Calls Try.prog 7 #[.int .u8 n, v] w fun e w' => e = .returned (.bool true) ∧ Below w.heap.size w w' := by
  obtain ⟨a, cap, rfl, -, hc, hwf⟩ := h
  have d1 : decide ((60 : Int) < zs.length) = false := by simp; omega
  have HC := Lib.hid hc
  have HWF := Lib.hid hwf
  have hn2 : 0 ≤ n ∧ n < 256 := by unfold U8 at hn; omega
  obtain ⟨q, hq, hq8⟩ : ∃ q : Nat, n % 8 = q ∧ q < 8 := ⟨(n % 8).toNat, by omega, by omega⟩
  obtain ⟨i0, hi, hz0, hz1, hz2⟩ := info_parts intInfo
  have HI0 := Lib.hid (And.intro hi (And.intro hz0 (And.intro hz1 hz2)))
  obtain ⟨hn0, hn1⟩ := hn2
  clear hc hwf hn hi hz0 hz1 hz2
  go_enter Try.func7, Try.ntmps7
  go_wp2_with fail
  obtain ⟨s, hs⟩ : ∃ s : Nat, 1 + (q : Int) = (s : Int) := ⟨1 + q, by omega⟩
  have s1 : 1 ≤ s := by omega
  have s8 : s ≤ 8 := by omega
  have hS := TrD.start s1 s8
  have HS1 := Lib.hid hS.1
  have HS2 := Lib.hid hS.2
  clear hS
  refine (New_any 8 _).mono ?_
  rintro e w1 ⟨rfl, hA, hF⟩
  have hab := hA.box.lt
  have HA : Hid (ArAt w1 (w.heap.size + 1) w.heap.size (AR.fresh 8)) := Lib.hid hA
  have HF1 := Lib.hid hF
  clear hA hF
  go_wp2_with fail
  clear hq
  refine (tNew_ok HA.out s HS1.out).mono ?_
  rintro e w2 ⟨tb, rfl, htb, hT, hA, hF⟩
  have hgl := hT.box.lt
  have hI : TSI w w2 w.heap.size (w.heap.size + 1) tb (tb + 1) s ((AR.fresh 8).take s) (fun _ => 0) 0 (.slice none 0 0) [] :=
    { ar := hA, tr := hT, td := HS2.out, own := Own.nil _ _, frm := HF1.out.widen hF (by simp), pst := Past.nil, o0 := Nat.le_refl _, o1 := by omega, o2 := by omega, o3 := by omega, o4 := by omega }
  have HI := Lib.hid hI
  clear hA hF hT hI
  go_wp2_with fail
  go_loopw [8, 9] (fun vv i wx => ∃ (k : Nat) (A : AR) (d : Nat → Nat) (v : Value) (past : List Int), v = vv ∧ i = .int .i64 k ∧ k ≤ zs.length ∧ past.length = k ∧ TSI w wx w.heap.size (w.heap.size + 1) tb (tb + 1) s A d k v past)
    (fun _ i _ => zs.length - (intOf i).toNat)
  case atStart => exact ⟨0, _, _, _, _, rfl, rfl, Nat.zero_le _, rfl, HI.out⟩
  case round =>
    obtain ⟨k, A, d, v, past, rfl, rfl, hk, hpl, hI⟩ := hrel
    have HL := Lib.hid hpl
    have HI1 := Lib.hid hI
    clear HI hpl
    by_cases hlt : k < zs.length
    · obtain ⟨b, off, rfl, hcell⟩ := HC.out (by omega)
      have l1 : (k : Int) < zs.length := by omega
      have c0 := hI.frm.cell (hcell k hlt) (by simp)
      have hz : (Lit.int .u8 (zs.getD k 0)).wf = true := HWF.out _ (by rw [List.getD_eq_getElem?_getD, List.getElem?_eq_getElem hlt]; exact List.getElem_mem hlt)
      clear hI hcell
      generalize zs.getD k 0 = z at *
      have hz2 : 0 ≤ z ∧ z < 256 := by have := u8_of_wf hz; unfold U8 at this; omega
      obtain ⟨m, rfl⟩ := Int.eq_ofNat_of_zero_le hz2.1
      obtain ⟨hm0, hm⟩ := hz2
      clear hz
      obtain ⟨p, hp, hps⟩ : ∃ p : Nat, (m : Int) % (s : Int) = p ∧ p < s := ⟨m % s, by simp, Nat.mod_lt _ (by omega)⟩
      have d2 : ((s : Int) == 0) = false := by simp; omega
      have hwd := tw_next (d := d) hps (by omega) (by have := HI1.out.tr.bd p; omega)
      have hP := tw_parts (k := p) (m := d p + 1) (by omega) (by have := HI1.out.tr.bd p; omega)
      have HPT := Lib.hid hP
      have HI64 := Lib.hid hP.2.2.2.1
      have d3 : (tw p (d p + 1) == 0) = false := by simpa using hP.2.2.2.2
      have HNW := Lib.hid hwd
      have HP0 := Lib.hid (HI1.out.pst.new (k := p) (by omega) hps)
      have HIS : Hid (∀ B : AR, TrD B s d → B.tIs 1 s (tw p (d p + 1)) = false) := Lib.hid fun B hB => by
        rw [hB.is (by omega) hps (by have := HI1.out.tr.bd p; omega)]; simp
      have HPM := Lib.hid (HI1.out.pst.more hps)
      clear hwd hP
      go_wp2_with fail
      refine (tNext_any HI1.out.tr (by omega) p).mono ?_
      rw [HNW.out]
      rintro e x1 ⟨rfl, n1, rfl⟩
      have HI2 := Lib.hid (HI1.out.kept ((Frm.refl [] wr).drew n1))
      generalize tw p (d p + 1) = wd at *
      generalize wr.drewN n1 = x1 at *
      go_wp2_with fail
      refine (tIs_any HI2.out.tr HI2.out.ar (by have := HI2.out.o1; have := HI2.out.o2; omega) wd HI64.out).mono ?_
      rw [HIS.out _ HI2.out.td]
      rintro e x2 ⟨rfl, hA, hF⟩
      have HI3 := Lib.hid (HI2.out.looked hA hF (HI2.out.td.look _ _))
      clear hA hF c0
      have hH := Has_any x2 HI3.out.own.row wd
      rw [show decide (wd ∈ past) = false from by simpa using HP0.out] at hH
      have HH := Lib.hid hH
      clear hH
      go_wp2_with fail
      refine HH.out.mono ?_
      rintro e x3 ⟨rfl, rfl⟩
      go_wp2_with fail
      refine (tDone_any HI3.out.tr HI3.out.ar (by omega) (by have := HI2.out.o1; have := HI2.out.o2; omega) p).mono ?_
      rintro e x4 ⟨rfl, hA, hT, hF⟩
      have HI4 := Lib.hid (HI3.out.done hps (by omega) hA hT hF)
      clear hA hT hF HH
      have HOW := Lib.hid HI4.out.own
      go_wp2_with (at_builtin; refine wpList_append_own _ rfl _ _ 41 rfl (tb + 1) 3 i0 (.int .i64 0) 1 8 Try.underlying41 HI0.out.1 HI0.out.2.1 HI0.out.2.2.1 HI0.out.2.2.2 rfl (by decide) _ _ _ rfl (HOW.out.alloc _) ⟨x4.heap.size, 0, none⟩ 1 1 [.int .i64 wd] rfl rfl ?c1 ?c2 ?c3 ?c4 ?c5 ?_)
      case c1 => exact cell_one_new _ _ _
      case c2 => simp [Value.oneCell']
      case c3 => have := HL.out; unfold maxLen; omega
      case c4 => have := HL.out; have := HI4.out.tr.box.lt; omega
      case c5 => have := HI4.out.tr.box.lt; simp; omega
      intro v' w1 hown' hgrow _
      have HI5 := Lib.hid (HI4.out.app hown' hgrow HPM.out)
      have HL5 : Hid ((past ++ [wd]).length = k + 1) := Lib.hid (by simp [HL.out])
      clear hown' hgrow HI1 HI2 HI3 HI4 HOW HPM HP0 HIS HNW HPT
      generalize past ++ [wd] = past' at *
      generalize tUp s d p = d' at *
      generalize (A.tLook 1 s wd).tDone 1 s p = A' at *
      clear HL
      have hpl : past'.length ≤ 100 := by have := HL5.out; omega
      go_wp2_with fail
      go_loopw [12] (fun i wx => ∃ (j : Nat) (B : AR), i = .int .i64 j ∧ j ≤ past'.length ∧ TSI w wx w.heap.size (w.heap.size + 1) tb (tb + 1) s B d' (k + 1) v' past') (fun i _ => past'.length - (intOf i).toNat)
      case atStart => exact ⟨0, _, rfl, Nat.zero_le _, HI5.out⟩
      case round =>
        obtain ⟨j, B, rfl, hj, hI⟩ := hrel
        have HI6 := Lib.hid hI
        obtain ⟨a2, cap2, hv2, hml, hr2⟩ := hI.own.row
        clear hI
        by_cases hlt2 : j < past'.length
        · obtain ⟨g2, o2, -, rfl, hc2⟩ := hr2 (by omega)
          have c1 := hc2 j hlt2
          have l2 : (j : Int) < past'.length := by omega
          have hmem : past'[j]?.getD 0 ∈ past' := by rw [List.getElem?_eq_getElem hlt2]; exact List.getElem_mem hlt2
          obtain ⟨k2, m2, hk2, hm2, hpw⟩ := HI6.out.pst _ hmem
          have hb2 := HI6.out.tr.bd k2
          have hP2 := tw_parts (k := k2) (m := m2) (by omega) (by omega)
          have hI64 := hP2.2.2.2.1
          have hyes := HI6.out.td.is (by omega) hk2 (m := m2) (by omega)
          rw [← hpw] at hI64 hyes
          rw [decide_eq_true hm2] at hyes
          have HY := Lib.hid hyes
          have HI64' := Lib.hid hI64
          clear hP2 hyes hI64 hpw hmem hc2 hr2
          subst hv2
          generalize past'[j]?.getD 0 = pw at *
          go_wp2_with fail
          refine (tIs_any HI6.out.tr HI6.out.ar (by have := HI6.out.o1; have := HI6.out.o2; omega) pw HI64'.out).mono ?_
          rw [HY.out]
          rintro e x7 ⟨rfl, hA, hF⟩
          have HI7 := Lib.hid (HI6.out.looked hA hF (HI6.out.td.look _ _))
          clear hA hF c1
          go_wp2_with fail
          go_roundw
          case rel => exact ⟨j + 1, _, by go_num, by omega, HI7.out⟩
          case measure => simp [intOf]; omega
        · have hje : j = past'.length := by omega
          subst hje
          clear hr2
          subst hv2
          go_wp2_with fail
          go_loopw [13] (fun i wx => ∃ (j : Nat) (B : AR), i = .int .i64 j ∧ j ≤ s ∧ TSI w wx w.heap.size (w.heap.size + 1) tb (tb + 1) s B d' (k + 1) (.slice a2 past'.length cap2) past') (fun i _ => s - (intOf i).toNat)
          case atStart => exact ⟨0, _, rfl, Nat.zero_le _, HI6.out⟩
          case round =>
            obtain ⟨j, B, rfl, hj, hI⟩ := hrel
            have HI8 := Lib.hid hI
            clear hI
            by_cases hlt3 : j < s
            · have l3 : (j : Int) < s := by omega
              have hb3 := HI8.out.tr.bd j
              have HNW := Lib.hid (tw_next (d := d') hlt3 (by omega) (by omega))
              have HI64' := Lib.hid (tw_parts (k := j) (m := d' j + 1) (by omega) (by omega)).2.2.2.1
              have hno := HI8.out.td.is (by omega) hlt3 (m := d' j + 1) (by omega)
              rw [show decide (d' j + 1 ≤ d' j) = false from by simp] at hno
              have HNO := Lib.hid hno
              clear hno hb3
              generalize tw j (d' j + 1) = wd2 at *
              go_wp2_with fail
              refine (tNext_any HI8.out.tr (by omega) j).mono ?_
              rw [HNW.out]
              rintro e x8 ⟨rfl, n8, rfl⟩
              have HI9 := Lib.hid (HI8.out.kept ((Frm.refl [] wr).drew n8))
              generalize wr.drewN n8 = x8 at *
              go_wp2_with fail
              refine (tIs_any HI9.out.tr HI9.out.ar (by have := HI9.out.o1; have := HI9.out.o2; omega) wd2 HI64'.out).mono ?_
              rw [HNO.out]
              rintro e x9 ⟨rfl, hA, hF⟩
              have HI10 := Lib.hid (HI9.out.looked hA hF (HI9.out.td.look _ _))
              clear hA hF
              go_wp2_with fail
              go_roundw
              case rel => exact ⟨j + 1, _, by go_num, by omega, HI10.out⟩
              case measure => simp [intOf]; omega
            · have hje : j = s := by omega
              subst hje
              go_wp2_with fail
              go_roundw
              case rel => exact ⟨k + 1, _, d', _, past', rfl, by go_num, by omega, HL5.out, HI8.out⟩
              case measure => simp [intOf]; omega
    · have l1 : ¬ (k : Int) < zs.length := by omega
      clear hI
      go_wp2_with fail
      refine (tawake _).mono ?_
      rintro e w1 ⟨rfl, hF⟩
      have HF := Lib.hid (HI1.out.frm.trans hF)
      clear hF
      go_wp2
      go_ret
      exact ⟨rfl, HF.out.below (Nat.le_refl _) (by simp)⟩

theorem turnStays_walk (n : Int) (v : Value) (zs : List Int) (w : World) (hn : U8 n) (h : IsRow .u8 w v zs) :
    Calls Try.prog 7 #[.int .u8 n, v] w fun e w' => e = .returned (.bool true) ∧ Below w.heap.size w w' := by
  by_cases hl : zs.length ≤ 60
  · exact turnStays_short n v zs w hn h hl
  · exact turnStays_long n v zs w h (by omega)

end Go.Proofs.Ytakhhbemnodahaa
