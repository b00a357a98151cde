/- crc.half and crc.Sum: what they answer. -/
import Derived.Test.YtdojomdnnmaoeaaProg
import Derived.Test.YtdojomdnnmaoeaaMath
import Derived.Test.YtdojomdnnmaoeaaWMore
import Derived.Outline
import Derived.Laws.BitsAllLaws
import Derived.WalkLawsBesides
import Derived.Lib.Hide
import Derived.Laws.Rows
import Derived.Laws.CopyOwn
namespace Go.Proofs.Ytdojomdnnmaoeaa
open Go.RowKit Go.Proofs.YtdojomdnnmaoeaaW.PrintWords Go.Proofs.YtdojomdnnmaoeaaW.PrintMore

/-- The table, as far as it is filled. -/
def tab (n : Nat) : Array Value := ((List.range 16).map fun i => Value.int .u32 (if i < n then (Crc.step4 i : Int) else 0)).toArray
theorem tab_size (n : Nat) : (tab n).size = 16 := by simp [tab]
theorem tab_one (n : Nat) : (tab n).all (·.oneCell') = true := by
  simp [tab, Value.oneCell']
theorem tab_at (n i : Nat) (h : i < 16) : (tab n)[i]? = some (Value.int .u32 (if i < n then (Crc.step4 i : Int) else 0)) := by
  simp [tab, h]
theorem tab_zero : tab 0 = #[Value.int .u32 0, Value.int .u32 0, Value.int .u32 0, Value.int .u32 0, Value.int .u32 0, Value.int .u32 0, Value.int .u32 0, Value.int .u32 0,
    Value.int .u32 0, Value.int .u32 0, Value.int .u32 0, Value.int .u32 0, Value.int .u32 0, Value.int .u32 0, Value.int .u32 0, Value.int .u32 0] := by
  simp [tab, List.range, List.range.loop]
theorem tab_next (n : Nat) : (tab n).setIfInBounds n (.int .u32 (Crc.step4 n)) = tab (n + 1) := by
  apply Array.ext
  · simp [tab]
  · intro i h1 h2
    have hi : i < 16 := by simpa [tab_size] using h2
    rw [Array.getElem_setIfInBounds (by rw [tab_size]; exact hi)]
    by_cases e : n = i
    · subst e
      simp [tab]
    · have : (i < n + 1) = (i < n) := by simp; omega
      simp [tab, e, this]
/-- One step as the code has it. -/
theorem step_code (x : Nat) (h : x < 4294967296) :
    Go.bits .xor .u32 ((x : Int) / 2) (Go.bits .and .u32 3988292384 (-(Go.bits .and .u32 (x : Int) 1) % 4294967296)) = (Crc.step x : Int) := by
  have e1 : Go.bits .and .u32 (x : Int) 1 = ((x % 2 : Nat) : Int) := by
    have := u32_and_nat x 1 h (by omega)
    rw [Nat.and_one_is_mod] at this
    exact this
  rw [e1]
  unfold Crc.step
  rcases (show x % 2 = 0 ∨ x % 2 = 1 by omega) with h0 | h0
  · rw [h0, if_neg (by omega)]
    have e2 : Go.bits .and .u32 3988292384 (-((0 : Nat) : Int) % 4294967296) = ((0 : Nat) : Int) := by decide
    rw [e2, show (x : Int) / 2 = ((x / 2 : Nat) : Int) by omega, u32_xor_nat _ _ (by omega) (by omega), Nat.xor_zero]
  · rw [h0, if_pos rfl]
    have e2 : Go.bits .and .u32 3988292384 (-((1 : Nat) : Int) % 4294967296) = ((3988292384 : Nat) : Int) := by decide
    rw [e2, show (x : Int) / 2 = ((x / 2 : Nat) : Int) by omega, u32_xor_nat _ _ (by omega) (by omega)]
    rfl
/-- A number, stepped so many times. -/
def steps : Nat → Nat → Nat
  | 0, x => x
  | n + 1, x => Crc.step (steps n x)
theorem steps_lt (n x : Nat) (h : x < 4294967296) : steps n x < 4294967296 := by
  induction n with
  | zero => exact h
  | succ n ih => exact Crc.step_lt ih
theorem steps_four (x : Nat) : steps 4 x = Crc.step4 x := rfl
def zeros16 : Obj := Obj.cells (tab 0) 35
theorem zeros16_eq : Obj.cells #[Value.int .u32 0, Value.int .u32 0, Value.int .u32 0, Value.int .u32 0, Value.int .u32 0, Value.int .u32 0, Value.int .u32 0, Value.int .u32 0,
    Value.int .u32 0, Value.int .u32 0, Value.int .u32 0, Value.int .u32 0, Value.int .u32 0, Value.int .u32 0, Value.int .u32 0, Value.int .u32 0] 35 = zeros16 := by
  rw [← tab_zero]
  rfl
set_option maxHeartbeats 1000000 in
theorem half_calls (w : World) : Calls Try.prog 18 #[] w fun e w' => e = .returned (.agg (tab 16)) ∧ Below w.heap.size w w' := by
  go_enter Try.func18, Try.ntmps18
  go_wp2
  rw [zeros16_eq]
  go_loopw [4] (fun c wr => ∃ n : Nat, n ≤ 16 ∧ c = .int .i64 n ∧ wr = (w.alloc zeros16).alloc (.cells (tab n) 35)) (fun c _ => 16 - (intOf c).toNat)
  case atStart => exact ⟨0, by omega, rfl, rfl⟩
  case round =>
    obtain ⟨n, hn, rfl, rfl⟩ := hrel
    by_cases hlt : n < 16
    · have hlt' : (n : Int) < 16 := by omega
      go_wp2
      have hnl : n < 4294967296 := by omega
      go_loop [3, 9] (fun s c => ∃ j : Nat, j ≤ 4 ∧ c = .int .i64 j ∧ s = .int .u32 (steps j n)) (fun _ c => 4 - (intOf c).toNat)
      case atStart => exact ⟨0, by omega, rfl, rfl⟩
      case round =>
        obtain ⟨j, hj, rfl, rfl⟩ := hrel
        by_cases hlj : j < 4
        · have hlj' : (j : Int) < 4 := by omega
          have hs := steps_lt j n hnl
          have hcode := step_code (steps j n) hs
          go_wp2
          go_round
          case rel => exact ⟨j + 1, by omega, by go_num, rfl⟩
          case measure => simp [intOf]; omega
        · obtain rfl : j = 4 := by omega
          rw [steps_four]
          have hat := tab_at n n hlt
          have hnx := tab_next n
          go_wp2
          go_roundw
          case rel => exact ⟨n + 1, by omega, by go_num, rfl⟩
          case measure => simp [intOf]; omega
    · obtain rfl : n = 16 := by omega
      have hg0 : ((w.alloc zeros16).alloc (.cells (tab 16) 35)).heap[w.heap.size]? = some (.cells (tab 0) 35 (0, 0)) := heap_alloc2_old w _ _
      have hg1 : ((w.alloc zeros16).alloc (.cells (tab 16) 35)).heap[w.heap.size + 1]? = some (.cells (tab 16) 35 (0, 0)) := heap_alloc2_new w _ _
      have hi : (Try.prog.info? 35).map (·.size) = some (tab 16).size := by rw [tab_size]; kernel_rfl
      go_wp2_with (first
        | (with_reducible refine wpList_load_row rfl 35 (.tmp 1) rfl (w.heap.size + 1) rfl 35 (tab 16) (0, 0) _ hg1 Try.underlying35 rfl hi ?_)
        | (with_reducible refine wpList_store_row rfl 35 (.tmp 0) (.tmp 23) rfl w.heap.size (tab 16) rfl rfl 35 (tab 0) hg0 hi (by rw [tab_size, tab_size]) (tab_one 16) ?_))
      have hg2 := setRow_heap _ w.heap.size (tab 0) (tab 16) 35 (0, 0) hg0
      refine bodyPost_ret (v := .agg (tab 16)) (results_cell_row rfl _ _ w.heap.size 35 (tab 16) (0, 0) _ rfl hg2 Try.underlying35 rfl hi) rfl ⟨rfl, ?_⟩
      exact below_setRow (((Below.refl _ _).alloc (Nat.le_refl _) _).alloc (by simp) _) (Nat.le_refl _) _
end Go.Proofs.Ytdojomdnnmaoeaa
