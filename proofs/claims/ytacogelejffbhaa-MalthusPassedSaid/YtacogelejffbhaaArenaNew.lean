/- The contracts of arena's New, Take and Last. -/
import Derived.Test.YtacogelejffbhaaArena
namespace Go.Proofs.Ytacogelejffbhaa
open Go.RowKit

def zerosA (n : Nat) : Array Value := (List.replicate n (Value.int .i64 0)).toArray
theorem toList_zerosA (n : Nat) : (zerosA n).toList = (List.replicate n (0 : Int)).map (Value.int .i64) := by simp [zerosA]
theorem wordInfo : (Try.prog.info? 81).map (fun i => (i.zero, i.size, i.bytes)) = some (some (.agg #[.int .i64 0]), 1, 8) := by kernel_rfl
theorem mkWords (n : Nat) (hn : n ≤ 1000000) (W : World) : (Instr.makeSlice 71 (.int .i64 n) (.int .i64 n)).run Try.prog W = .ok (.slice (some ⟨W.heap.size, 0, none⟩) n n) (W.alloc (.cells (zerosA n) 81)) := by
  obtain ⟨i0, hi, hz0, hz1, hz2⟩ := info_parts wordInfo
  rw [run_make W 71 81 i0 (.agg #[.int .i64 0]) Try.underlying71 hi hz0 .i64 .i64 n n (by omega) (by omega) (by rw [hz2]; omega) (by omega)]
  have e : madeCells (Value.agg #[.int .i64 0]).cells (((n : Int).toNat) * i0.size) = zerosA n := by
    apply Array.ext'
    rw [hz1]
    show (madeCells #[Value.int .i64 0] _).toList = _
    rw [toList_madeCells_one]
    simp [zerosA]
  rw [e]
  simp

def AR.fresh (n : Nat) : AR := { ws := List.replicate n 0, taken := 0, ops := 0, k := 0, at_ := 0, wr := false }
theorem fresh_at (w : World) (n : Nat) (hn : n ≤ 4096) : ArAt ((w.alloc (.cells (zerosA n) 81)).alloc (.cells #[.slice (some ⟨w.heap.size, 0, none⟩) n n, .int .i64 0, .int .i64 0, .int .i64 0, .int .i64 0, .bool false] 73)) (w.heap.size + 1) w.heap.size (AR.fresh n) := by
  have h1 := (HAt.new w (zerosA n) 81).alloc (.cells #[.slice (some ⟨w.heap.size, 0, none⟩) n n, .int .i64 0, .int .i64 0, .int .i64 0, .int .i64 0, .bool false] 73)
  have h2 := HAt.new (w.alloc (.cells (zerosA n) 81)) #[.slice (some ⟨w.heap.size, 0, none⟩) n n, .int .i64 0, .int .i64 0, .int .i64 0, .int .i64 0, .bool false] 73
  rw [toList_zerosA] at h1
  rw [World.size_alloc] at h2
  refine { box := ?_, row := h1, ne := by omega, room := by simpa [AR.fresh] using hn, le := by simp [AR.fresh] }
  simpa [AR.fresh] using h2

set_option maxRecDepth 100000 in
theorem New_case (room : Int) (n : Nat) (hn : n ≤ 4096) (w : World) (h : (4096 < room ∧ n = 4096) ∨ (0 < room ∧ room ≤ 4096 ∧ room = n) ∨ (room ≤ 0 ∧ n = 0)) :
    Calls Try.prog 11 #[.int .i64 room] w fun e w' => e = .returned (.pointer (some ⟨w.heap.size + 1, 0, none⟩)) ∧ ArAt w' (w.heap.size + 1) w.heap.size (AR.fresh n) ∧ Frm [] w w' := by
  have HF := Lib.hid (fresh_at w n hn)
  have hmk := mkWords n (by omega)
  rcases h with ⟨h1, rfl⟩ | ⟨h1, h2, rfl⟩ | ⟨h1, rfl⟩
  · have hmk' : ∀ W : World, (Instr.makeSlice 71 (.int .i64 4096) (.int .i64 4096)).run Try.prog W = .ok (.slice (some ⟨W.heap.size, 0, none⟩) 4096 4096) (W.alloc (.cells (zerosA 4096) 81)) := fun W => hmk W
    clear hmk
    go_enter Try.func11, Try.ntmps11
    go_wp2
    go_ret
    exact ⟨rfl, HF.out, ((Frm.refl _ _).alloc _).alloc _⟩
  · go_enter Try.func11, Try.ntmps11
    go_wp2
    go_ret
    exact ⟨rfl, HF.out, ((Frm.refl _ _).alloc _).alloc _⟩
  · have hmk' : ∀ W : World, (Instr.makeSlice 71 (.int .i64 0) (.int .i64 0)).run Try.prog W = .ok (.slice (some ⟨W.heap.size, 0, none⟩) 0 0) (W.alloc (.cells (zerosA 0) 81)) := fun W => hmk W
    clear hmk
    go_enter Try.func11, Try.ntmps11
    go_wp2
    go_ret
    exact ⟨rfl, HF.out, ((Frm.refl _ _).alloc _).alloc _⟩

/-- how many words a new arena has room for -/
def roomOf (room : Int) : Nat := if 4096 < room then 4096 else room.toNat
theorem New_any (room : Int) (w : World) : Calls Try.prog 11 #[.int .i64 room] w fun e w' => e = .returned (.pointer (some ⟨w.heap.size + 1, 0, none⟩)) ∧
    ArAt w' (w.heap.size + 1) w.heap.size (AR.fresh (roomOf room)) ∧ Frm [] w w' :=
  New_case room (roomOf room) (by unfold roomOf; split <;> omega) w (by unfold roomOf; split <;> omega)

end Go.Proofs.Ytacogelejffbhaa
