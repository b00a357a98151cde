/- crc.Sum and the document's Crc: both answer the sum of a text. -/
import Derived.Test.YtdojomdnnmaoeaaHalf
import Derived.Deep.WholeRow
namespace Go.Proofs.Ytdojomdnnmaoeaa
open Go.RowKit Go.Proofs.YtdojomdnnmaoeaaW.PrintWords Go.Proofs.YtdojomdnnmaoeaaW.PrintMore

theorem take_snoc (s : ByteArray) (k : Nat) (h : k < s.size) : s.data.toList.take (k + 1) = s.data.toList.take k ++ [s[k]] := by
  rw [List.take_succ_eq_append_getElem (by simpa using h)]
  rfl
/-- The register behind so many bytes. -/
def reg (s : ByteArray) (k : Nat) : Nat := Crc.run 4294967295 (s.data.toList.take k)
theorem reg_lt (s : ByteArray) (k : Nat) : reg s k < 4294967296 := Crc.run_lt _ (by decide)
theorem reg_next (s : ByteArray) (k : Nat) (h : k < s.size) : reg s (k + 1) = Crc.step8 (reg s k ^^^ s[k].toNat) := by
  unfold reg
  rw [take_snoc s k h, Crc.run_append]
  rfl
theorem reg_all (s : ByteArray) : reg s s.size = Crc.run 4294967295 s.data.toList := by
  unfold reg
  rw [List.take_of_length_le (by simp)]
theorem and15 (x : Nat) (h : x < 4294967296) : Go.bits .and .u32 (x : Int) 15 = ((x % 16 : Nat) : Int) := by
  have := u32_and_nat x 15 h (by omega)
  rw [Nat.and_two_pow_sub_one_eq_mod x 4] at this
  exact this
theorem nibble (x : Nat) (h : x < 4294967296) : Go.bits .xor .u32 ((x : Int) / 16) (Crc.step4 (x % 16) : Int) = (Crc.step4 x : Int) := by
  rw [show (x : Int) / 16 = ((x / 16 : Nat) : Int) by omega, u32_xor_nat _ _ (by omega) (Crc.step4_lt (by omega)), Crc.step4_table x]
theorem not32 (x : Nat) (h : x < 4294967296) : Go.bits .xor .u32 4294967295 (x : Int) = ((4294967295 ^^^ x : Nat) : Int) := u32_xor_nat 4294967295 x (by omega) h
theorem ret_wrap {a : Int} (h0 : 0 ≤ a) (h1 : a < 4294967296) : Ending.returned (.int .i64 (wrap64 a)) = Ending.returned (.int .i64 a) := by
  rw [show wrap64 a = a by unfold wrap64; omega]
/-- What the sum of a text is. -/
def crc_Sum.f (s : ByteArray) : Option Int := if s.size ≤ 9223372036854775807 then some (Crc.sum s.data.toList : Int) else none
theorem crc_Sum.some_ (s : ByteArray) (h : s.size ≤ 9223372036854775807) : crc_Sum.f s = some (Crc.sum s.data.toList : Int) := by
  unfold crc_Sum.f
  rw [if_pos h]
set_option maxHeartbeats 1000000 in
theorem crc_Sum.calls (s : ByteArray) (r : Int) (w : World) (h : crc_Sum.f s = some r) :
    Calls Try.prog 15 #[.string s] w fun e w' => e = .returned (.int .i64 r) ∧ Below w.heap.size w w' := by
  have hs : s.size ≤ 9223372036854775807 := by
    unfold crc_Sum.f at h
    by_cases hs : s.size ≤ 9223372036854775807
    · exact hs
    · rw [if_neg hs] at h; cases h
  rw [crc_Sum.some_ s hs] at h
  obtain rfl := Option.some.inj h
  clear h
  go_enter Try.func15, Try.ntmps15
  have hi : (Try.prog.info? 35).map (·.size) = some (tab 16).size := by rw [tab_size]; kernel_rfl
  go_wp2_with (first
    | (go_at_call 18; refine (half_calls _).mono ?_; rintro e w1 ⟨rfl, hb⟩)
    | (with_reducible refine wpList_store_row rfl 35 (.tmp 3) (.tmp 6) rfl w1.heap.size (tab 16) rfl rfl 35 _ (heap_alloc_new _ _) hi (by simp [tab_size]) (tab_one 16) ?_; rw [World.setRow_alloc_new]))
  clear hi
  have hc : ∀ j : Nat, j < 16 → (w1.alloc (.cells (tab 16) 35)).cell? ⟨w1.heap.size, j, none⟩ = some (.int .u32 (Crc.step4 j : Int)) := by
    intro j hj
    rw [cell_of_row _ _ j _ _ _ (heap_alloc_new w1 _), tab_at 16 j hj, if_pos hj]
  have HC := Lib.hid hc
  clear hc
  go_loop [4, 9] (fun x c => ∃ k : Nat, k ≤ s.size ∧ c = .int .i64 k ∧ x = .int .u32 (reg s k)) (fun _ c => s.size - (intOf c).toNat)
  case atStart => exact ⟨0, by omega, rfl, rfl⟩
  case round =>
    obtain ⟨k, hk, rfl, rfl⟩ := hrel
    by_cases hlt : k < s.size
    · have hlt' : (k : Int) < s.size := by omega
      have hr := reg_lt s k
      have hm : ((s[k].toNat : Nat) : Int) % 4294967296 = ((s[k].toNat : Nat) : Int) := by have := s[k].toNat_lt; omega
      have hx1 := u32_xor_nat (reg s k) s[k].toNat hr (Crc.byte_lt _)
      have hy := Crc.xor_lt hr (Crc.byte_lt s[k])
      have ha1 := and15 _ hy
      have hn1 := nibble _ hy
      have hy2 := Crc.step4_lt hy
      have ha2 := and15 _ hy2
      have hn2 := nibble _ hy2
      have hc1 := HC.out ((reg s k ^^^ s[k].toNat) % 16) (by omega)
      have hc2 := HC.out (Crc.step4 (reg s k ^^^ s[k].toNat) % 16) (by omega)
      have HN := Lib.hid (reg_next s k hlt)
      go_wp2
      go_round
      case rel => exact ⟨k + 1, by omega, by go_num, by rw [HN.out]; rfl⟩
      case measure => simp [intOf]; omega
    · obtain rfl : k = s.size := by omega
      have hn : Go.bits .xor .u32 IntKind.u32.max (reg s s.size : Int) = (Crc.sum s.data.toList : Int) := by
        have := not32 _ (reg_lt s s.size)
        rw [reg_all] at this ⊢
        exact this
      have hl := Crc.sum_lt s.data.toList
      go_wp2
      go_ret
      exact ⟨ret_wrap (by omega) (by omega), hb.trans ((Below.refl _ _).alloc hb.size _)⟩

/-! ### The document's Crc -/
def descantref1_Crc.f (s : ByteArray) : Option Int := if s.size ≤ 9223372036854775807 then some (Crc.sum s.data.toList : Int) else none
theorem descantref1_Crc.some_ (s : ByteArray) (h : s.size ≤ 9223372036854775807) : descantref1_Crc.f s = some (Crc.sum s.data.toList : Int) := by
  unfold descantref1_Crc.f
  rw [if_pos h]
theorem step_ref (x : Nat) (h : x < 4294967296) (h1 : x % 2 = 1) : Go.bits .xor .u32 ((x : Int) / 2) 3988292384 = (Crc.step x : Int) := by
  unfold Crc.step
  rw [if_pos h1, show (x : Int) / 2 = ((x / 2 : Nat) : Int) by omega]
  exact u32_xor_nat _ 3988292384 (by omega) (by omega)
theorem step_ref0 (x : Nat) (h1 : ¬ x % 2 = 1) : (x : Int) / 2 = (Crc.step x : Int) := by
  unfold Crc.step
  rw [if_neg h1]
  omega
theorem and1 (x : Nat) (h : x < 4294967296) : Go.bits .and .u32 (x : Int) 1 = ((x % 2 : Nat) : Int) := by
  have := u32_and_nat x 1 h (by omega)
  rw [Nat.and_one_is_mod] at this
  exact this
theorem steps_eight (x : Nat) : steps 8 x = Crc.step8 x := rfl
set_option maxHeartbeats 1000000 in
theorem descantref1_Crc.calls (s : ByteArray) (r : Int) (w : World) (h : descantref1_Crc.f s = some r) :
    Calls Try.prog 16 #[.string s] w fun e w' => e = .returned (.int .i64 r) ∧ Below w.heap.size w w' := by
  have hs : s.size ≤ 9223372036854775807 := by
    unfold descantref1_Crc.f at h
    by_cases hs : s.size ≤ 9223372036854775807
    · exact hs
    · rw [if_neg hs] at h; cases h
  rw [descantref1_Crc.some_ s hs] at h
  obtain rfl := Option.some.inj h
  clear h
  go_enter Try.func16, Try.ntmps16
  go_wp2
  go_loop [3, 4] (fun x c => ∃ k : Nat, k ≤ s.size ∧ c = .int .i64 k ∧ x = .int .u32 (reg s k)) (fun _ c => s.size - (intOf c).toNat)
  case atStart => exact ⟨0, by omega, rfl, rfl⟩
  case round =>
    obtain ⟨k, hk, rfl, rfl⟩ := hrel
    by_cases hlt : k < s.size
    · have hlt' : (k : Int) < s.size := by omega
      have hr := reg_lt s k
      have hm : ((s[k].toNat : Nat) : Int) % 4294967296 = ((s[k].toNat : Nat) : Int) := by have := s[k].toNat_lt; omega
      have hx1 := u32_xor_nat (reg s k) s[k].toNat hr (Crc.byte_lt _)
      have hy := Crc.xor_lt hr (Crc.byte_lt s[k])
      go_wp2
      have HN := Lib.hid (reg_next s k hlt)
      generalize reg s k ^^^ s[k].toNat = y at *
      clear hm hx1
      go_loop [3, 5] (fun x c => ∃ j : Nat, j ≤ 8 ∧ c = .int .i64 j ∧ x = .int .u32 (steps j y)) (fun _ c => 8 - (intOf c).toNat)
      case atStart => exact ⟨0, by omega, rfl, rfl⟩
      case round =>
        obtain ⟨j, hj, rfl, rfl⟩ := hrel
        by_cases hlj : j < 8
        · have hlj' : (j : Int) < 8 := by omega
          have hsl := steps_lt j y hy
          have ha := and1 (steps j y) hsl
          by_cases h1 : steps j y % 2 = 1
          · have hcode := step_ref (steps j y) hsl h1
            have hb1 : (((steps j y % 2 : Nat) : Int) == 1) = true := by rw [beq_iff_eq]; omega
            go_wp2
            go_round
            case rel => exact ⟨j + 1, by omega, by go_num, rfl⟩
            case measure => simp [intOf]; omega
          · have hcode := step_ref0 (steps j y) h1
            have hb1 : (((steps j y % 2 : Nat) : Int) == 1) = false := by rw [beq_eq_false_iff_ne]; omega
            go_wp2
            go_round
            case rel => exact ⟨j + 1, by omega, by go_num, rfl⟩
            case measure => simp [intOf]; omega
        · obtain rfl : j = 8 := by omega
          rw [steps_eight]
          go_wp2
          go_round
          case rel => exact ⟨k + 1, by omega, by go_num, by rw [HN.out]⟩
          case measure => simp [intOf]; omega
    · obtain rfl : k = s.size := by omega
      have hn : Go.bits .xor .u32 IntKind.u32.max (reg s s.size : Int) = (Crc.sum s.data.toList : Int) := by
        have := not32 _ (reg_lt s s.size)
        rw [reg_all] at this ⊢
        exact this
      have hl := Crc.sum_lt s.data.toList
      go_wp2
      go_ret
      exact ⟨ret_wrap (by omega) (by omega), Below.refl _ _⟩
end Go.Proofs.Ytdojomdnnmaoeaa
