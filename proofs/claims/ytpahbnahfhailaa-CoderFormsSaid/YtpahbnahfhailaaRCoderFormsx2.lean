-- Laid by a program of this session (wip/myprint.py), over the kit's print of the translation. Not trusted: Lean checks it.
import Derived.Test.YtpahbnahfhailaaRCoderFormsx0
namespace Go.Proofs.Ytpahbnahfhailaa.RCoderForms
open Go.RowKit Go.Proofs.Ytpahbnahfhailaa.CBase Go.Proofs.YtpahbnahfhailaaW.PrintWords Go.Proofs.YtpahbnahfhailaaW.PrintLast Go.Proofs.YtpahbnahfhailaaW.PrintMore
attribute [local go_sem] max2_int min2_int max_two min_two max_three min_three max_four min_four   -- for this text's walks alone
set_option linter.unusedVariables false
set_option linter.unusedSimpArgs false

/-! ### descantlaw4_CoderForms: function 4 -/
def descantlaw4_CoderForms.f (a0 : Int) (a1 : Int) : Option (Bool) := (descantlaw4_awake.f).bind fun t101 => (if t101 = true then (if 0 ≤ (wrap64 (65536 + (wrap64 (1 + (Go.bits .and .i64 a1 1023))))) then (if (wrap64 (65536 + (wrap64 (1 + (Go.bits .and .i64 a1 1023)))) : Int).toNat ≤ 281474976710656 then ((some (([(⟨0, 0, (⟨#[]⟩ : ByteArray)⟩ : S23), (⟨wrap64 (-(wrap64 (1 + (Go.bits .and .i64 a1 1023)))), 4294967295, (⟨#[]⟩ : ByteArray)⟩ : S23), (⟨0, wrap64 (4294967295 + (wrap64 (1 + (Go.bits .and .i64 a1 1023)))), (⟨#[]⟩ : ByteArray)⟩ : S23), (⟨16777216, wrap64 (16777217 + (wrap64 (1 + (Go.bits .and .i64 a1 1023)))), (⟨#[]⟩ : ByteArray)⟩ : S23), (⟨33554432, 16777216, (⟨#[]⟩ : ByteArray)⟩ : S23), (⟨0, 4294967295, strOfNums (List.replicate (wrap64 (65536 + (wrap64 (1 + (Go.bits .and .i64 a1 1023)))) : Int).toNat 0)⟩ : S23)] : List (S23)) : List (S23))).bind fun y105 => (if 0 ≤ (wrap64 (Int.tmod (IntKind.u64.wrap (a0)) 6)) then (if (wrap64 (Int.tmod (IntKind.u64.wrap (a0)) 6)) < (y105.length : Int) then ((coder_Bit.f ((rd_T23 y105 (wrap64 (Int.tmod (IntKind.u64.wrap (a0)) 6))).f0) ((rd_T23 y105 (wrap64 (Int.tmod (IntKind.u64.wrap (a0)) 6))).f1) ((rd_T23 y105 (wrap64 (Int.tmod (IntKind.u64.wrap (a0)) 6))).f2) 1 9).bind fun bt110 => ((coder_End.f ((rd_T23 y105 (wrap64 (Int.tmod (IntKind.u64.wrap (a0)) 6))).f0) ((rd_T23 y105 (wrap64 (Int.tmod (IntKind.u64.wrap (a0)) 6))).f1) ((rd_T23 y105 (wrap64 (Int.tmod (IntKind.u64.wrap (a0)) 6))).f2)).bind fun bt115 => ((coder_New.f).bind fun bt117 => ((some (([wrap64 (-(wrap64 (1 + (Go.bits .and .i64 a1 1023)))), wrap64 (1 + (wrap64 (1 + (Go.bits .and .i64 a1 1023))))] : List Int) : List Int)).bind fun y120 => (if 0 ≤ (Go.bits .and .i64 a0 1) then (if (Go.bits .and .i64 a0 1) < (y120.length : Int) then ((coder_Bit.f bt117.1 bt117.2.1 bt117.2.2 (rd y120 (Go.bits .and .i64 a0 1)) 9).bind fun bt124 => ((coder_New.f).bind fun bt129 => ((some (([wrap64 (1 - (wrap64 (1 + (Go.bits .and .i64 a1 1023)))), wrap64 (4095 + (wrap64 (1 + (Go.bits .and .i64 a1 1023))))] : List Int) : List Int)).bind fun y132 => (if (Go.bits .and .i64 a0 1) < (y132.length : Int) then ((coder_Bit.f bt129.1 bt129.2.1 bt129.2.2 1 (rd y132 (Go.bits .and .i64 a0 1))).bind fun bt136 => (if 65536 ≤ 281474976710656 then ((some (List.replicate 65536 0 : List Int)).bind fun y141 => ((coder_Bit.f 0 16777216 (strOfNums y141) 1 1).bind fun bt145 => ((coder_May.f ((rd_T23 y105 (wrap64 (Int.tmod (IntKind.u64.wrap (a0)) 6))).f0) ((rd_T23 y105 (wrap64 (Int.tmod (IntKind.u64.wrap (a0)) 6))).f1) ((rd_T23 y105 (wrap64 (Int.tmod (IntKind.u64.wrap (a0)) 6))).f2)).bind fun t150 => (if t150 = true then (some false) else ((coder_May.f 0 16777216 (strOfNums y141)).bind fun t151 => (if t151 = true then ((descantlaw0_Num.f bt110.2.2.2).bind fun t152 => (if t152 = 400 then (if bt115.1.toList = ([] : List UInt8) then ((descantlaw0_Num.f bt115.2).bind fun t153 => (if t153 = 400 then ((descantlaw0_Num.f bt124.2.2.2).bind fun t154 => (if t154 = 400 then ((descantlaw0_Num.f bt136.2.2.2).bind fun t155 => (if t155 = 400 then ((descantlaw0_Num.f bt145.2.2.2).bind fun t156 => (some (t156 == 400))) else (some false))) else (some false))) else (some false))) else (some false)) else (some false))) else (some false))))))) else (none))) else (none))))) else (none)) else (none)))))) else (none)) else (none))) else (none)) else (none)) else (some false))
def descantlaw4_CoderForms.T8 : Bool × List (List Nat × List Nat) := (true, [([], []), ([], []), ([1], [1]), ([], []), ([3], [3]), ([2, 4], [2, 4]), ([], []), ([6], [6]), ([5, 7], [5, 7]), ([8], [8]), ([0, 9, 0], [0, 9]), ([10], [10]), ([11], [11]), ([11], [11]), ([], []), ([14, 12, 10, 0, 1, 2, 3, 4, 5, 6, 7, 8, 9, 10, 11, 12, 14], [12, 14]), ([13, 15, 0, 1, 2, 3, 4, 5, 6, 7, 8, 9, 10, 11, 12, 13, 14, 15], [13])])
def descantlaw4_CoderForms.B8 : List Nat := [0, 0, 2, 0, 8, 30, 0, 64, 254, 510, 1023, 2047, 4095, 4095, 0, 24575, 65535]
theorem descantlaw4_CoderForms.tab8 : rtab .any (opsOf Try.f4 8) = descantlaw4_CoderForms.T8 := by kernel_rfl
theorem descantlaw4_CoderForms.bits8 : waitsOk descantlaw4_CoderForms.T8.2 descantlaw4_CoderForms.B8 = true := by kernel_rfl
def descantlaw4_CoderForms.T9 : Bool × List (List Nat × List Nat) := (true, [([], []), ([], []), ([1], [1]), ([], []), ([3], [3]), ([2, 4], [2, 4]), ([], []), ([6], [6]), ([5, 7], [5, 7]), ([8], [8]), ([0, 9, 0], [0, 9]), ([10], [10]), ([11], [11]), ([11], [11]), ([], []), ([14, 12, 10, 0, 1, 2, 3, 4, 5, 6, 7, 8, 9, 10, 11, 12, 14], [12, 14]), ([13, 15, 0, 1, 2, 3, 4, 5, 6, 7, 8, 9, 10, 11, 12, 13, 14, 15], [13])])
def descantlaw4_CoderForms.B9 : List Nat := [0, 0, 2, 0, 8, 30, 0, 64, 254, 510, 1023, 2047, 4095, 4095, 0, 24575, 65535]
theorem descantlaw4_CoderForms.tab9 : rtab .any (opsOf Try.f4 9) = descantlaw4_CoderForms.T9 := by kernel_rfl
theorem descantlaw4_CoderForms.bits9 : waitsOk descantlaw4_CoderForms.T9.2 descantlaw4_CoderForms.B9 = true := by kernel_rfl
set_option maxHeartbeats 8000000 in
set_option maxRecDepth 100000 in
theorem descantlaw4_CoderForms.calls (a0 : Int) (a1 : Int) (r : Bool) (w : World) (hr_ : r = true) (h : descantlaw4_CoderForms.f a0 a1 = some r) :
    Calls Try.prog 4 #[.int .i64 a0, .int .i64 a1] w fun e w' => e = .returned (.bool r) ∧ Below w.heap.size w w' := by
  have hu23 := Try.underlying23
  have HB := Aside0.mk (Below.refl w.heap.size w)
  subst hr_
  have H : ((descantlaw4_awake.f).bind fun t101 => (if t101 = true then (if 0 ≤ (wrap64 (65536 + (wrap64 (1 + (Go.bits .and .i64 a1 1023))))) then (if (wrap64 (65536 + (wrap64 (1 + (Go.bits .and .i64 a1 1023)))) : Int).toNat ≤ 281474976710656 then ((some (([(⟨0, 0, (⟨#[]⟩ : ByteArray)⟩ : S23), (⟨wrap64 (-(wrap64 (1 + (Go.bits .and .i64 a1 1023)))), 4294967295, (⟨#[]⟩ : ByteArray)⟩ : S23), (⟨0, wrap64 (4294967295 + (wrap64 (1 + (Go.bits .and .i64 a1 1023)))), (⟨#[]⟩ : ByteArray)⟩ : S23), (⟨16777216, wrap64 (16777217 + (wrap64 (1 + (Go.bits .and .i64 a1 1023)))), (⟨#[]⟩ : ByteArray)⟩ : S23), (⟨33554432, 16777216, (⟨#[]⟩ : ByteArray)⟩ : S23), (⟨0, 4294967295, strOfNums (List.replicate (wrap64 (65536 + (wrap64 (1 + (Go.bits .and .i64 a1 1023)))) : Int).toNat 0)⟩ : S23)] : List (S23)) : List (S23))).bind fun y105 => (if 0 ≤ (wrap64 (Int.tmod (IntKind.u64.wrap (a0)) 6)) then (if (wrap64 (Int.tmod (IntKind.u64.wrap (a0)) 6)) < (y105.length : Int) then ((coder_Bit.f ((rd_T23 y105 (wrap64 (Int.tmod (IntKind.u64.wrap (a0)) 6))).f0) ((rd_T23 y105 (wrap64 (Int.tmod (IntKind.u64.wrap (a0)) 6))).f1) ((rd_T23 y105 (wrap64 (Int.tmod (IntKind.u64.wrap (a0)) 6))).f2) 1 9).bind fun bt110 => ((coder_End.f ((rd_T23 y105 (wrap64 (Int.tmod (IntKind.u64.wrap (a0)) 6))).f0) ((rd_T23 y105 (wrap64 (Int.tmod (IntKind.u64.wrap (a0)) 6))).f1) ((rd_T23 y105 (wrap64 (Int.tmod (IntKind.u64.wrap (a0)) 6))).f2)).bind fun bt115 => ((coder_New.f).bind fun bt117 => ((some (([wrap64 (-(wrap64 (1 + (Go.bits .and .i64 a1 1023)))), wrap64 (1 + (wrap64 (1 + (Go.bits .and .i64 a1 1023))))] : List Int) : List Int)).bind fun y120 => (if 0 ≤ (Go.bits .and .i64 a0 1) then (if (Go.bits .and .i64 a0 1) < (y120.length : Int) then ((coder_Bit.f bt117.1 bt117.2.1 bt117.2.2 (rd y120 (Go.bits .and .i64 a0 1)) 9).bind fun bt124 => ((coder_New.f).bind fun bt129 => ((some (([wrap64 (1 - (wrap64 (1 + (Go.bits .and .i64 a1 1023)))), wrap64 (4095 + (wrap64 (1 + (Go.bits .and .i64 a1 1023))))] : List Int) : List Int)).bind fun y132 => (if (Go.bits .and .i64 a0 1) < (y132.length : Int) then ((coder_Bit.f bt129.1 bt129.2.1 bt129.2.2 1 (rd y132 (Go.bits .and .i64 a0 1))).bind fun bt136 => (if 65536 ≤ 281474976710656 then ((some (List.replicate 65536 0 : List Int)).bind fun y141 => ((coder_Bit.f 0 16777216 (strOfNums y141) 1 1).bind fun bt145 => ((coder_May.f ((rd_T23 y105 (wrap64 (Int.tmod (IntKind.u64.wrap (a0)) 6))).f0) ((rd_T23 y105 (wrap64 (Int.tmod (IntKind.u64.wrap (a0)) 6))).f1) ((rd_T23 y105 (wrap64 (Int.tmod (IntKind.u64.wrap (a0)) 6))).f2)).bind fun t150 => (if t150 = true then (some false) else ((coder_May.f 0 16777216 (strOfNums y141)).bind fun t151 => (if t151 = true then ((descantlaw0_Num.f bt110.2.2.2).bind fun t152 => (if t152 = 400 then (if bt115.1.toList = ([] : List UInt8) then ((descantlaw0_Num.f bt115.2).bind fun t153 => (if t153 = 400 then ((descantlaw0_Num.f bt124.2.2.2).bind fun t154 => (if t154 = 400 then ((descantlaw0_Num.f bt136.2.2.2).bind fun t155 => (if t155 = 400 then ((descantlaw0_Num.f bt145.2.2.2).bind fun t156 => (some (t156 == 400))) else (some false))) else (some false))) else (some false))) else (some false)) else (some false))) else (some false))))))) else (none))) else (none))))) else (none)) else (none)))))) else (none)) else (none))) else (none)) else (none)) else (some false))) = some true := h
  clear h
  replace H := Option.bind_eq_some_iff.mp H
  obtain ⟨t101, A30, H⟩ := H
  (try dsimp only at H)
  have A3 := Aside0.mk A30
  clear A30
  by_cases c4 : t101 = true
  rotate_left
  · replace c4 := Bool.eq_false_iff.mpr c4
    subst c4
    rw [if_neg (show ¬ (false = true) by decide)] at H
    exact absurd H (by simp)

  subst c4
  rw [if_pos rfl] at H
  obtain ⟨ji5, hji5⟩ : ∃ j_ : Int, (wrap64 (65536 + (wrap64 (1 + (Go.bits .and .i64 a1 1023))))) = j_ := ⟨_, rfl⟩
  (first | rw [hji5] at H | simp only [hji5] at H ⊢)
  (try rw [hji5] at A3)
  have hji5w : (IntKind.i64.wrap (65536 + (wrap64 (1 + (Go.bits .and .i64 a1 1023))))) = ji5 := (i64_w _).trans hji5
  by_cases c6 : 0 ≤ (ji5)
  rotate_left
  · rw [if_neg c6] at H
    exact absurd H (by simp)
  rw [if_pos c6] at H
  have c6b0 := eq_true c6
  have c6b1 : decide (0 ≤ (ji5)) = true := decide_eq_true c6
  clear c6
  by_cases c7 : (ji5 : Int).toNat ≤ 281474976710656
  rotate_left
  · rw [if_neg c7] at H
    exact absurd H (by simp)
  rw [if_pos c7] at H
  have c7b0 := eq_true c7
  have c7b1 : decide ((ji5 : Int).toNat ≤ 281474976710656) = true := decide_eq_true c7
  (try simp only [Int.toNat_natCast] at c7b1)
  clear c7
  obtain ⟨y102, hy102⟩ : ∃ y_ : List Int, y_ = (List.replicate (ji5 : Int).toNat 0) := ⟨_, rfl⟩
  replace H : ((some (([(⟨0, 0, (⟨#[]⟩ : ByteArray)⟩ : S23), (⟨wrap64 (-(wrap64 (1 + (Go.bits .and .i64 a1 1023)))), 4294967295, (⟨#[]⟩ : ByteArray)⟩ : S23), (⟨0, wrap64 (4294967295 + (wrap64 (1 + (Go.bits .and .i64 a1 1023)))), (⟨#[]⟩ : ByteArray)⟩ : S23), (⟨16777216, wrap64 (16777217 + (wrap64 (1 + (Go.bits .and .i64 a1 1023)))), (⟨#[]⟩ : ByteArray)⟩ : S23), (⟨33554432, 16777216, (⟨#[]⟩ : ByteArray)⟩ : S23), (⟨0, 4294967295, strOfNums y102⟩ : S23)] : List (S23)) : List (S23))).bind fun y105 => (if 0 ≤ (wrap64 (Int.tmod (IntKind.u64.wrap (a0)) 6)) then (if (wrap64 (Int.tmod (IntKind.u64.wrap (a0)) 6)) < (y105.length : Int) then ((coder_Bit.f ((rd_T23 y105 (wrap64 (Int.tmod (IntKind.u64.wrap (a0)) 6))).f0) ((rd_T23 y105 (wrap64 (Int.tmod (IntKind.u64.wrap (a0)) 6))).f1) ((rd_T23 y105 (wrap64 (Int.tmod (IntKind.u64.wrap (a0)) 6))).f2) 1 9).bind fun bt110 => ((coder_End.f ((rd_T23 y105 (wrap64 (Int.tmod (IntKind.u64.wrap (a0)) 6))).f0) ((rd_T23 y105 (wrap64 (Int.tmod (IntKind.u64.wrap (a0)) 6))).f1) ((rd_T23 y105 (wrap64 (Int.tmod (IntKind.u64.wrap (a0)) 6))).f2)).bind fun bt115 => ((coder_New.f).bind fun bt117 => ((some (([wrap64 (-(wrap64 (1 + (Go.bits .and .i64 a1 1023)))), wrap64 (1 + (wrap64 (1 + (Go.bits .and .i64 a1 1023))))] : List Int) : List Int)).bind fun y120 => (if 0 ≤ (Go.bits .and .i64 a0 1) then (if (Go.bits .and .i64 a0 1) < (y120.length : Int) then ((coder_Bit.f bt117.1 bt117.2.1 bt117.2.2 (rd y120 (Go.bits .and .i64 a0 1)) 9).bind fun bt124 => ((coder_New.f).bind fun bt129 => ((some (([wrap64 (1 - (wrap64 (1 + (Go.bits .and .i64 a1 1023)))), wrap64 (4095 + (wrap64 (1 + (Go.bits .and .i64 a1 1023))))] : List Int) : List Int)).bind fun y132 => (if (Go.bits .and .i64 a0 1) < (y132.length : Int) then ((coder_Bit.f bt129.1 bt129.2.1 bt129.2.2 1 (rd y132 (Go.bits .and .i64 a0 1))).bind fun bt136 => (if 65536 ≤ 281474976710656 then ((some (List.replicate 65536 0 : List Int)).bind fun y141 => ((coder_Bit.f 0 16777216 (strOfNums y141) 1 1).bind fun bt145 => ((coder_May.f ((rd_T23 y105 (wrap64 (Int.tmod (IntKind.u64.wrap (a0)) 6))).f0) ((rd_T23 y105 (wrap64 (Int.tmod (IntKind.u64.wrap (a0)) 6))).f1) ((rd_T23 y105 (wrap64 (Int.tmod (IntKind.u64.wrap (a0)) 6))).f2)).bind fun t150 => (if t150 = true then (some false) else ((coder_May.f 0 16777216 (strOfNums y141)).bind fun t151 => (if t151 = true then ((descantlaw0_Num.f bt110.2.2.2).bind fun t152 => (if t152 = 400 then (if bt115.1.toList = ([] : List UInt8) then ((descantlaw0_Num.f bt115.2).bind fun t153 => (if t153 = 400 then ((descantlaw0_Num.f bt124.2.2.2).bind fun t154 => (if t154 = 400 then ((descantlaw0_Num.f bt136.2.2.2).bind fun t155 => (if t155 = 400 then ((descantlaw0_Num.f bt145.2.2.2).bind fun t156 => (some (t156 == 400))) else (some false))) else (some false))) else (some false))) else (some false)) else (some false))) else (some false))))))) else (none))) else (none))))) else (none)) else (none)))))) else (none)) else (none))) = some true := by first | (rw [hy102]; with_reducible exact H) | (have H2_ := (Option.bind_some _ _).symm.trans H; rw [hy102]; with_reducible exact H2_) | (have H2_ := (Option.bind_some _ _).symm.trans H; with_reducible exact H2_) | with_reducible exact H | (rw [hy102]; exact H) | exact H
  have Ny102 := Aside0.mk hy102
  clear hy102
  obtain ⟨y105, hy105⟩ : ∃ y_ : List (S23), y_ = (([(⟨0, 0, (⟨#[]⟩ : ByteArray)⟩ : S23), (⟨wrap64 (-(wrap64 (1 + (Go.bits .and .i64 a1 1023)))), 4294967295, (⟨#[]⟩ : ByteArray)⟩ : S23), (⟨0, wrap64 (4294967295 + (wrap64 (1 + (Go.bits .and .i64 a1 1023)))), (⟨#[]⟩ : ByteArray)⟩ : S23), (⟨16777216, wrap64 (16777217 + (wrap64 (1 + (Go.bits .and .i64 a1 1023)))), (⟨#[]⟩ : ByteArray)⟩ : S23), (⟨33554432, 16777216, (⟨#[]⟩ : ByteArray)⟩ : S23), (⟨0, 4294967295, strOfNums y102⟩ : S23)] : List (S23))) := ⟨_, rfl⟩
  replace H : (if 0 ≤ (wrap64 (Int.tmod (IntKind.u64.wrap (a0)) 6)) then (if (wrap64 (Int.tmod (IntKind.u64.wrap (a0)) 6)) < (y105.length : Int) then ((coder_Bit.f ((rd_T23 y105 (wrap64 (Int.tmod (IntKind.u64.wrap (a0)) 6))).f0) ((rd_T23 y105 (wrap64 (Int.tmod (IntKind.u64.wrap (a0)) 6))).f1) ((rd_T23 y105 (wrap64 (Int.tmod (IntKind.u64.wrap (a0)) 6))).f2) 1 9).bind fun bt110 => ((coder_End.f ((rd_T23 y105 (wrap64 (Int.tmod (IntKind.u64.wrap (a0)) 6))).f0) ((rd_T23 y105 (wrap64 (Int.tmod (IntKind.u64.wrap (a0)) 6))).f1) ((rd_T23 y105 (wrap64 (Int.tmod (IntKind.u64.wrap (a0)) 6))).f2)).bind fun bt115 => ((coder_New.f).bind fun bt117 => ((some (([wrap64 (-(wrap64 (1 + (Go.bits .and .i64 a1 1023)))), wrap64 (1 + (wrap64 (1 + (Go.bits .and .i64 a1 1023))))] : List Int) : List Int)).bind fun y120 => (if 0 ≤ (Go.bits .and .i64 a0 1) then (if (Go.bits .and .i64 a0 1) < (y120.length : Int) then ((coder_Bit.f bt117.1 bt117.2.1 bt117.2.2 (rd y120 (Go.bits .and .i64 a0 1)) 9).bind fun bt124 => ((coder_New.f).bind fun bt129 => ((some (([wrap64 (1 - (wrap64 (1 + (Go.bits .and .i64 a1 1023)))), wrap64 (4095 + (wrap64 (1 + (Go.bits .and .i64 a1 1023))))] : List Int) : List Int)).bind fun y132 => (if (Go.bits .and .i64 a0 1) < (y132.length : Int) then ((coder_Bit.f bt129.1 bt129.2.1 bt129.2.2 1 (rd y132 (Go.bits .and .i64 a0 1))).bind fun bt136 => (if 65536 ≤ 281474976710656 then ((some (List.replicate 65536 0 : List Int)).bind fun y141 => ((coder_Bit.f 0 16777216 (strOfNums y141) 1 1).bind fun bt145 => ((coder_May.f ((rd_T23 y105 (wrap64 (Int.tmod (IntKind.u64.wrap (a0)) 6))).f0) ((rd_T23 y105 (wrap64 (Int.tmod (IntKind.u64.wrap (a0)) 6))).f1) ((rd_T23 y105 (wrap64 (Int.tmod (IntKind.u64.wrap (a0)) 6))).f2)).bind fun t150 => (if t150 = true then (some false) else ((coder_May.f 0 16777216 (strOfNums y141)).bind fun t151 => (if t151 = true then ((descantlaw0_Num.f bt110.2.2.2).bind fun t152 => (if t152 = 400 then (if bt115.1.toList = ([] : List UInt8) then ((descantlaw0_Num.f bt115.2).bind fun t153 => (if t153 = 400 then ((descantlaw0_Num.f bt124.2.2.2).bind fun t154 => (if t154 = 400 then ((descantlaw0_Num.f bt136.2.2.2).bind fun t155 => (if t155 = 400 then ((descantlaw0_Num.f bt145.2.2.2).bind fun t156 => (some (t156 == 400))) else (some false))) else (some false))) else (some false))) else (some false)) else (some false))) else (some false))))))) else (none))) else (none))))) else (none)) else (none)))))) else (none)) else (none)) = some true := by first | (rw [hy105]; with_reducible exact H) | (have H2_ := (Option.bind_some _ _).symm.trans H; rw [hy105]; with_reducible exact H2_) | (have H2_ := (Option.bind_some _ _).symm.trans H; with_reducible exact H2_) | with_reducible exact H | (rw [hy105]; exact H) | exact H
  have Ny105 := Aside0.mk hy105
  clear hy105
  obtain ⟨ji8, hji8⟩ : ∃ j_ : Int, (wrap64 (Int.tmod (IntKind.u64.wrap (a0)) 6)) = j_ := ⟨_, rfl⟩
  (first | rw [hji8] at H | simp only [hji8] at H ⊢)
  (try rw [hji8] at A3)
  have hji8w : (IntKind.i64.wrap (Int.tmod (IntKind.u64.wrap (a0)) 6)) = ji8 := (i64_w _).trans hji8
  by_cases c9 : 0 ≤ (ji8)
  rotate_left
  · rw [if_neg c9] at H
    exact absurd H (by simp)
  rw [if_pos c9] at H
  have c9b0 : decide (0 ≤ (ji8)) = true := decide_eq_true c9
  clear c9
  by_cases c10 : (ji8) < (y105.length : Int)
  rotate_left
  · rw [if_neg c10] at H
    exact absurd H (by simp)
  rw [if_pos c10] at H
  have c10b0 : decide ((ji8) < (y105.length : Int)) = true := decide_eq_true c10
  clear c10
  replace H := Option.bind_eq_some_iff.mp H
  obtain ⟨⟨t110, t111, t112, t113⟩, A110, H⟩ := H
  (try dsimp only at H)
  have A11 := Aside0.mk A110
  clear A110
  replace H := Option.bind_eq_some_iff.mp H
  obtain ⟨⟨t115, t116⟩, A120, H⟩ := H
  (try dsimp only at H)
  have A12 := Aside0.mk A120
  clear A120
  replace H := Option.bind_eq_some_iff.mp H
  obtain ⟨⟨t117, t118, t119⟩, A130, H⟩ := H
  (try dsimp only at H)
  have A13 := Aside0.mk A130
  clear A130
  obtain ⟨y120, hy120⟩ : ∃ y_ : List Int, y_ = (([wrap64 (-(wrap64 (1 + (Go.bits .and .i64 a1 1023)))), wrap64 (1 + (wrap64 (1 + (Go.bits .and .i64 a1 1023))))] : List Int)) := ⟨_, rfl⟩
  replace H : (if 0 ≤ (Go.bits .and .i64 a0 1) then (if (Go.bits .and .i64 a0 1) < (y120.length : Int) then ((coder_Bit.f t117 t118 t119 (rd y120 (Go.bits .and .i64 a0 1)) 9).bind fun bt124 => ((coder_New.f).bind fun bt129 => ((some (([wrap64 (1 - (wrap64 (1 + (Go.bits .and .i64 a1 1023)))), wrap64 (4095 + (wrap64 (1 + (Go.bits .and .i64 a1 1023))))] : List Int) : List Int)).bind fun y132 => (if (Go.bits .and .i64 a0 1) < (y132.length : Int) then ((coder_Bit.f bt129.1 bt129.2.1 bt129.2.2 1 (rd y132 (Go.bits .and .i64 a0 1))).bind fun bt136 => (if 65536 ≤ 281474976710656 then ((some (List.replicate 65536 0 : List Int)).bind fun y141 => ((coder_Bit.f 0 16777216 (strOfNums y141) 1 1).bind fun bt145 => ((coder_May.f ((rd_T23 y105 (ji8)).f0) ((rd_T23 y105 (ji8)).f1) ((rd_T23 y105 (ji8)).f2)).bind fun t150 => (if t150 = true then (some false) else ((coder_May.f 0 16777216 (strOfNums y141)).bind fun t151 => (if t151 = true then ((descantlaw0_Num.f t113).bind fun t152 => (if t152 = 400 then (if t115.toList = ([] : List UInt8) then ((descantlaw0_Num.f t116).bind fun t153 => (if t153 = 400 then ((descantlaw0_Num.f bt124.2.2.2).bind fun t154 => (if t154 = 400 then ((descantlaw0_Num.f bt136.2.2.2).bind fun t155 => (if t155 = 400 then ((descantlaw0_Num.f bt145.2.2.2).bind fun t156 => (some (t156 == 400))) else (some false))) else (some false))) else (some false))) else (some false)) else (some false))) else (some false))))))) else (none))) else (none))))) else (none)) else (none)) = some true := by first | (rw [hy120]; with_reducible exact H) | (have H2_ := (Option.bind_some _ _).symm.trans H; rw [hy120]; with_reducible exact H2_) | (have H2_ := (Option.bind_some _ _).symm.trans H; with_reducible exact H2_) | with_reducible exact H | (rw [hy120]; exact H) | exact H
  have Ny120 := Aside0.mk hy120
  clear hy120
  by_cases c14 : 0 ≤ (Go.bits .and .i64 a0 1)
  rotate_left
  · rw [if_neg c14] at H
    exact absurd H (by simp)
  rw [if_pos c14] at H
  have c14b0 : decide (0 ≤ (Go.bits .and .i64 a0 1)) = true := decide_eq_true c14
  clear c14
  by_cases c15 : (Go.bits .and .i64 a0 1) < (y120.length : Int)
  rotate_left
  · rw [if_neg c15] at H
    exact absurd H (by simp)
  rw [if_pos c15] at H
  have c15b0 : decide ((Go.bits .and .i64 a0 1) < (y120.length : Int)) = true := decide_eq_true c15
  clear c15
  replace H := Option.bind_eq_some_iff.mp H
  obtain ⟨⟨t124, t125, t126, t127⟩, A160, H⟩ := H
  (try dsimp only at H)
  have A16 := Aside0.mk A160
  clear A160
  replace H := Option.bind_eq_some_iff.mp H
  obtain ⟨⟨t129, t130, t131⟩, A170, H⟩ := H
  (try dsimp only at H)
  have A17 := Aside0.mk A170
  clear A170
  obtain ⟨y132, hy132⟩ : ∃ y_ : List Int, y_ = (([wrap64 (1 - (wrap64 (1 + (Go.bits .and .i64 a1 1023)))), wrap64 (4095 + (wrap64 (1 + (Go.bits .and .i64 a1 1023))))] : List Int)) := ⟨_, rfl⟩
  replace H : (if (Go.bits .and .i64 a0 1) < (y132.length : Int) then ((coder_Bit.f t129 t130 t131 1 (rd y132 (Go.bits .and .i64 a0 1))).bind fun bt136 => (if 65536 ≤ 281474976710656 then ((some (List.replicate 65536 0 : List Int)).bind fun y141 => ((coder_Bit.f 0 16777216 (strOfNums y141) 1 1).bind fun bt145 => ((coder_May.f ((rd_T23 y105 (ji8)).f0) ((rd_T23 y105 (ji8)).f1) ((rd_T23 y105 (ji8)).f2)).bind fun t150 => (if t150 = true then (some false) else ((coder_May.f 0 16777216 (strOfNums y141)).bind fun t151 => (if t151 = true then ((descantlaw0_Num.f t113).bind fun t152 => (if t152 = 400 then (if t115.toList = ([] : List UInt8) then ((descantlaw0_Num.f t116).bind fun t153 => (if t153 = 400 then ((descantlaw0_Num.f t127).bind fun t154 => (if t154 = 400 then ((descantlaw0_Num.f bt136.2.2.2).bind fun t155 => (if t155 = 400 then ((descantlaw0_Num.f bt145.2.2.2).bind fun t156 => (some (t156 == 400))) else (some false))) else (some false))) else (some false))) else (some false)) else (some false))) else (some false))))))) else (none))) else (none)) = some true := by first | (rw [hy132]; with_reducible exact H) | (have H2_ := (Option.bind_some _ _).symm.trans H; rw [hy132]; with_reducible exact H2_) | (have H2_ := (Option.bind_some _ _).symm.trans H; with_reducible exact H2_) | with_reducible exact H | (rw [hy132]; exact H) | exact H
  have Ny132 := Aside0.mk hy132
  clear hy132
  by_cases c18 : (Go.bits .and .i64 a0 1) < (y132.length : Int)
  rotate_left
  · rw [if_neg c18] at H
    exact absurd H (by simp)
  rw [if_pos c18] at H
  have c18b0 : decide ((Go.bits .and .i64 a0 1) < (y132.length : Int)) = true := decide_eq_true c18
  clear c18
  replace H := Option.bind_eq_some_iff.mp H
  obtain ⟨⟨t136, t137, t138, t139⟩, A190, H⟩ := H
  (try dsimp only at H)
  have A19 := Aside0.mk A190
  clear A190
  by_cases c20 : 65536 ≤ 281474976710656
  rotate_left
  · rw [if_neg c20] at H
    exact absurd H (by simp)
  rw [if_pos c20] at H
  have c20b0 := eq_true c20
  have c20b1 : decide (65536 ≤ 281474976710656) = true := decide_eq_true c20
  clear c20
  obtain ⟨y141, hy141⟩ : ∃ y_ : List Int, y_ = (List.replicate 65536 0) := ⟨_, rfl⟩
  replace H : ((coder_Bit.f 0 16777216 (strOfNums y141) 1 1).bind fun bt145 => ((coder_May.f ((rd_T23 y105 (ji8)).f0) ((rd_T23 y105 (ji8)).f1) ((rd_T23 y105 (ji8)).f2)).bind fun t150 => (if t150 = true then (some false) else ((coder_May.f 0 16777216 (strOfNums y141)).bind fun t151 => (if t151 = true then ((descantlaw0_Num.f t113).bind fun t152 => (if t152 = 400 then (if t115.toList = ([] : List UInt8) then ((descantlaw0_Num.f t116).bind fun t153 => (if t153 = 400 then ((descantlaw0_Num.f t127).bind fun t154 => (if t154 = 400 then ((descantlaw0_Num.f t139).bind fun t155 => (if t155 = 400 then ((descantlaw0_Num.f bt145.2.2.2).bind fun t156 => (some (t156 == 400))) else (some false))) else (some false))) else (some false))) else (some false)) else (some false))) else (some false)))))) = some true := by first | (rw [hy141]; with_reducible exact H) | (have H2_ := (Option.bind_some _ _).symm.trans H; rw [hy141]; with_reducible exact H2_) | (have H2_ := (Option.bind_some _ _).symm.trans H; with_reducible exact H2_) | with_reducible exact H | (rw [hy141]; exact H) | exact H
  have Ny141 := Aside0.mk hy141
  clear hy141
  replace H := Option.bind_eq_some_iff.mp H
  obtain ⟨⟨t145, t146, t147, t148⟩, A210, H⟩ := H
  (try dsimp only at H)
  have A21 := Aside0.mk A210
  clear A210
  replace H := Option.bind_eq_some_iff.mp H
  obtain ⟨t150, A220, H⟩ := H
  (try dsimp only at H)
  have A22 := Aside0.mk A220
  clear A220
  by_cases c23 : t150 = true
  · subst c23
    rw [if_pos rfl] at H
    exact absurd H (by simp)
  · replace c23 := Bool.eq_false_iff.mpr c23
    subst c23
    rw [if_neg (show ¬ (false = true) by decide)] at H
    replace H := Option.bind_eq_some_iff.mp H
    obtain ⟨t151, A240, H⟩ := H
    (try dsimp only at H)
    have A24 := Aside0.mk A240
    clear A240
    by_cases c25 : t151 = true
    rotate_left
    · replace c25 := Bool.eq_false_iff.mpr c25
      subst c25
      rw [if_neg (show ¬ (false = true) by decide)] at H
      exact absurd H (by simp)
    subst c25
    rw [if_pos rfl] at H
    replace H := Option.bind_eq_some_iff.mp H
    obtain ⟨t152, A260, H⟩ := H
    (try dsimp only at H)
    have A26 := Aside0.mk A260
    clear A260
    by_cases c27 : t152 = 400
    rotate_left
    · rw [if_neg c27] at H
      have c27b0 : (t152 == 400) = false := beq_eq_false_iff_ne.mpr c27
      have c27b1 : (t152 != 400) = true := bne_iff_ne.mpr c27
      exact absurd H (by simp)
    rw [if_pos c27] at H
    have c27b0 : (t152 == 400) = true := beq_iff_eq.mpr c27
    have c27b1 : (t152 != 400) = false := bne_eq_false_iff_eq.mpr c27
    clear c27
    by_cases c28 : t115.toList = ([] : List UInt8)
    rotate_left
    · rw [if_neg c28] at H
      have c28b0 : (t115.toList == ([] : List UInt8)) = false := beq_eq_false_iff_ne.mpr c28
      have c28b1 : (t115.toList != ([] : List UInt8)) = true := bne_iff_ne.mpr c28
      exact absurd H (by simp)
    rw [if_pos c28] at H
    have c28b0 : (t115.toList == ([] : List UInt8)) = true := beq_iff_eq.mpr c28
    have c28b1 : (t115.toList != ([] : List UInt8)) = false := bne_eq_false_iff_eq.mpr c28
    clear c28
    replace H := Option.bind_eq_some_iff.mp H
    obtain ⟨t153, A290, H⟩ := H
    (try dsimp only at H)
    have A29 := Aside0.mk A290
    clear A290
    by_cases c30 : t153 = 400
    rotate_left
    · rw [if_neg c30] at H
      have c30b0 : (t153 == 400) = false := beq_eq_false_iff_ne.mpr c30
      have c30b1 : (t153 != 400) = true := bne_iff_ne.mpr c30
      exact absurd H (by simp)
    rw [if_pos c30] at H
    have c30b0 : (t153 == 400) = true := beq_iff_eq.mpr c30
    have c30b1 : (t153 != 400) = false := bne_eq_false_iff_eq.mpr c30
    clear c30
    replace H := Option.bind_eq_some_iff.mp H
    obtain ⟨t154, A310, H⟩ := H
    (try dsimp only at H)
    have A31 := Aside0.mk A310
    clear A310
    by_cases c32 : t154 = 400
    rotate_left
    · rw [if_neg c32] at H
      have c32b0 : (t154 == 400) = false := beq_eq_false_iff_ne.mpr c32
      have c32b1 : (t154 != 400) = true := bne_iff_ne.mpr c32
      exact absurd H (by simp)
    rw [if_pos c32] at H
    have c32b0 : (t154 == 400) = true := beq_iff_eq.mpr c32
    have c32b1 : (t154 != 400) = false := bne_eq_false_iff_eq.mpr c32
    clear c32
    replace H := Option.bind_eq_some_iff.mp H
    obtain ⟨t155, A330, H⟩ := H
    (try dsimp only at H)
    have A33 := Aside0.mk A330
    clear A330
    by_cases c34 : t155 = 400
    rotate_left
    · rw [if_neg c34] at H
      have c34b0 : (t155 == 400) = false := beq_eq_false_iff_ne.mpr c34
      have c34b1 : (t155 != 400) = true := bne_iff_ne.mpr c34
      exact absurd H (by simp)
    rw [if_pos c34] at H
    have c34b0 : (t155 == 400) = true := beq_iff_eq.mpr c34
    have c34b1 : (t155 != 400) = false := bne_eq_false_iff_eq.mpr c34
    clear c34
    replace H := Option.bind_eq_some_iff.mp H
    obtain ⟨t156, A350, H⟩ := H
    (try dsimp only at H)
    have A35 := Aside0.mk A350
    clear A350
    have E_ := Option.some.inj H
    clear H
    go_enter Try.func4, Try.ntmps4
    try go_wp2_with (first | ((with_reducible refine gate_callee (f := 18) rfl ?_); refine goesL_ (some 19) rfl rfl Try.func18 (by kernel_rfl) rfl #[] rfl (by (try simp only [List.map_toArray, List.map_cons, List.map_nil]); first | done | rfl | (simp only [List.length_drop, List.length_take]; rfl)) ?_; (with_reducible refine (descantlaw4_awake.calls  true _ A3.out).mono ?_); rintro e w36 ⟨rfl, hb⟩; refine ⟨_, rfl, ?_⟩; have n0_ := Aside0.mk (below_step (by repeat (first | (with_reducible first | exact HB.out | apply below_alloc | apply pw_below_drewN | apply below_drew1) | exact HB.out)) hb); clear HB; have HB := n0_; clear n0_; (try clear hb); (try clear hb2); (try clear hk); (try clear hi)) | ((with_reducible refine gate_dst (N := 37) rfl ?_); refine Kd.R_make (Kd.int .u8) _ 5 rfl (N := 37) rfl 38 _ _ rfl ji5 rfl rfl Try.underlying38 (.int .u8 0) 1 info5 rfl (by decide) (by omega) 0 (ok := fun _ => True) (okp := fun _ => True) rfl (fun _ hk => hk) trivial (of_decide_eq_true (by first | (with_reducible assumption) | assumption)) (Nat.le_trans (Nat.mul_le_mul_right _ (of_decide_eq_true (by first | (with_reducible assumption) | assumption) : ji5.toNat ≤ 281474976710656)) (by omega)) (Below.refl _ _) (Nat.le_refl _) ?_; intro v103 w37 ho38 hb hg_ hnew_; clear hg_ hnew_; (first | rw [← Ny102.out] at ho38 | (simp only [Int.reduceToNat] at ho38; rw [← Ny102.out] at ho38)); have n0_ := Aside0.mk (Kd.R_lower ho38 (below_size (by repeat (first | (with_reducible first | exact HB.out | apply below_alloc | apply pw_below_drewN | apply below_drew1) | exact HB.out)))); have n1_ := Aside0.mk (below_step (by repeat (first | (with_reducible first | exact HB.out | apply below_alloc | apply pw_below_drewN | apply below_drew1) | exact HB.out)) hb); clear HB; have HO104 := n0_; have HB := n1_; clear n0_ n1_; clear hb ho38; have hcv39 := own_string (P := Try.prog) Try.underlying38 Try.underlying5 Try.underlying9 (Kd.own_of_R HO104.out)) | ((with_reducible refine gate_dst (N := 40) rfl ?_); refine Kd.R_lit k23 _ 23 ?hg (N := 40) ?hd (xs := ([(⟨0, 0, (⟨#[]⟩ : ByteArray)⟩ : S23), (⟨wrap64 (-(wrap64 (1 + (Go.bits .and .i64 a1 1023)))), 4294967295, (⟨#[]⟩ : ByteArray)⟩ : S23), (⟨0, wrap64 (4294967295 + (wrap64 (1 + (Go.bits .and .i64 a1 1023)))), (⟨#[]⟩ : ByteArray)⟩ : S23), (⟨16777216, wrap64 (16777217 + (wrap64 (1 + (Go.bits .and .i64 a1 1023)))), (⟨#[]⟩ : ByteArray)⟩ : S23), (⟨33554432, 16777216, (⟨#[]⟩ : ByteArray)⟩ : S23), (⟨0, 4294967295, strOfNums y102⟩ : S23)] : List (S23))) (inner := [.int .i64 0, .int .i64 0, .string (⟨#[]⟩ : ByteArray), .int .i64 (wrap64 (-(wrap64 (1 + (Go.bits .and .i64 a1 1023))))), .int .i64 4294967295, .string (⟨#[]⟩ : ByteArray), .int .i64 0, .int .i64 (wrap64 (4294967295 + (wrap64 (1 + (Go.bits .and .i64 a1 1023))))), .string (⟨#[]⟩ : ByteArray), .int .i64 16777216, .int .i64 (wrap64 (16777217 + (wrap64 (1 + (Go.bits .and .i64 a1 1023))))), .string (⟨#[]⟩ : ByteArray), .int .i64 33554432, .int .i64 16777216, .string (⟨#[]⟩ : ByteArray), .int .i64 0, .int .i64 4294967295, .string (strOfNums y102)]) (ok := fun _ => True) (okp := fun _ => True) ?hr ?hp (fun _ hk => hk) trivial (Below.refl _ _) (Nat.le_refl _) (by simp) ?_; (case hd => rfl); (case hg => rfl); (case hr => first | (go_simp; done) | (go_simp; rfl)); (case hp => exact (Reps.c3 (show Kd.M k23 _ _ _ (⟨0, 0, (⟨#[]⟩ : ByteArray)⟩ : S23) [.int .i64 0, .int .i64 0, .string (⟨#[]⟩ : ByteArray)] from (k23_mkM _ _ _ (⟨0, 0, (⟨#[]⟩ : ByteArray)⟩ : S23) )) (Reps.c3 (show Kd.M k23 _ _ _ (⟨wrap64 (-(wrap64 (1 + (Go.bits .and .i64 a1 1023)))), 4294967295, (⟨#[]⟩ : ByteArray)⟩ : S23) [.int .i64 (wrap64 (-(wrap64 (1 + (Go.bits .and .i64 a1 1023))))), .int .i64 4294967295, .string (⟨#[]⟩ : ByteArray)] from (k23_mkM _ _ _ (⟨wrap64 (-(wrap64 (1 + (Go.bits .and .i64 a1 1023)))), 4294967295, (⟨#[]⟩ : ByteArray)⟩ : S23) )) (Reps.c3 (show Kd.M k23 _ _ _ (⟨0, wrap64 (4294967295 + (wrap64 (1 + (Go.bits .and .i64 a1 1023)))), (⟨#[]⟩ : ByteArray)⟩ : S23) [.int .i64 0, .int .i64 (wrap64 (4294967295 + (wrap64 (1 + (Go.bits .and .i64 a1 1023))))), .string (⟨#[]⟩ : ByteArray)] from (k23_mkM _ _ _ (⟨0, wrap64 (4294967295 + (wrap64 (1 + (Go.bits .and .i64 a1 1023)))), (⟨#[]⟩ : ByteArray)⟩ : S23) )) (Reps.c3 (show Kd.M k23 _ _ _ (⟨16777216, wrap64 (16777217 + (wrap64 (1 + (Go.bits .and .i64 a1 1023)))), (⟨#[]⟩ : ByteArray)⟩ : S23) [.int .i64 16777216, .int .i64 (wrap64 (16777217 + (wrap64 (1 + (Go.bits .and .i64 a1 1023))))), .string (⟨#[]⟩ : ByteArray)] from (k23_mkM _ _ _ (⟨16777216, wrap64 (16777217 + (wrap64 (1 + (Go.bits .and .i64 a1 1023)))), (⟨#[]⟩ : ByteArray)⟩ : S23) )) (Reps.c3 (show Kd.M k23 _ _ _ (⟨33554432, 16777216, (⟨#[]⟩ : ByteArray)⟩ : S23) [.int .i64 33554432, .int .i64 16777216, .string (⟨#[]⟩ : ByteArray)] from (k23_mkM _ _ _ (⟨33554432, 16777216, (⟨#[]⟩ : ByteArray)⟩ : S23) )) (Reps.c3 (show Kd.M k23 _ _ _ (⟨0, 4294967295, strOfNums y102⟩ : S23) [.int .i64 0, .int .i64 4294967295, .string (strOfNums y102)] from (k23_mkM _ _ _ (⟨0, 4294967295, strOfNums y102⟩ : S23) )) (Reps.none _ _)))))))); intro v106 w40 ho41 hb hg_ hnew_; clear hg_ hnew_; (first | rw [← Ny105.out] at ho41 | (simp only [Int.reduceToNat] at ho41; rw [← Ny105.out] at ho41)); have n0_ := Aside0.mk (Kd.R_below (by (with_reducible repeat (first | apply Kd.R_alloc | apply Kd.R_drewN | apply Kd.R_drew)); exact HO104.out) hb); have n1_ := Aside0.mk (Kd.R_lower ho41 (below_size (by repeat (first | (with_reducible first | exact HB.out | apply below_alloc | apply pw_below_drewN | apply below_drew1) | exact HB.out)))); have n2_ := Aside0.mk (below_step (by repeat (first | (with_reducible first | exact HB.out | apply below_alloc | apply pw_below_drewN | apply below_drew1) | exact HB.out)) hb); clear HO104; clear HB; have HO104 := n0_; have HO107 := n1_; have HB := n2_; clear n0_ n1_ n2_; clear hb ho41; obtain ⟨Ao42, co42, eo42⟩ := Kd.R_slice HO107.out; subst eo42; have p108 : 0 ≤ ((ji8) : Int) := of_decide_eq_true (by first | (with_reducible assumption) | assumption); have q108 : (ji8) < (y105.length : Int) := of_decide_eq_true (by first | (with_reducible assumption) | assumption); obtain ⟨ad108, e108, hx108_0, hx108_1, hx108_2⟩ := at_T23 (Kd.R_reads' HO107.out).2.2 (ji8) p108 q108; cases e108; replace p108 := eq_true p108; replace q108 := eq_true q108) | ((with_reducible refine gate_dst (N := 7) rfl ?_); refine box_event ?hg (N := 7) ?hd (cs := #[.int .i64 0, .int .i64 0, .string (⟨#[]⟩ : ByteArray)]) (t := 23) ?hr ?_; (case hd => rfl); (case hg => rfl); (case hr => first | (go_simp; done) | (go_simp; rfl)); intro gb109 hg w43 hbox hb; have n0_ := Aside0.mk (Kd.R_below (by (with_reducible repeat (first | apply Kd.R_alloc | apply Kd.R_drewN | apply Kd.R_drew)); exact HO104.out) hb); have n1_ := Aside0.mk (Kd.R_below (Kd.R_elderB (by (with_reducible repeat (first | apply Kd.R_alloc | apply Kd.R_drewN | apply Kd.R_drew)); exact HO107.out) gb109 (Nat.le_of_eq hg.symm)) hb); have n2_ := Aside0.mk (below_step (by repeat (first | (with_reducible first | exact HB.out | apply below_alloc | apply pw_below_drewN | apply below_drew1) | exact HB.out)) hb); have n3_ := Aside0.mk (hbox); have n4_ := Aside0.mk ((by rw [hg]; exact (below_size (by repeat (first | (with_reducible first | exact HB.out | apply below_alloc | apply pw_below_drewN | apply below_drew1) | exact HB.out))) : w.heap.size ≤ gb109)); have n5_ := Aside0.mk ((by rw [hg]; exact (below_size (by repeat (first | (with_reducible first | exact HB.out | apply below_alloc | apply pw_below_drewN | apply below_drew1) | exact HB.out))) : w.heap.size ≤ gb109)); clear HO104; clear HO107; clear HB; have HO104 := n0_; have HO107 := n1_; have HB := n2_; have BK109 := n3_; have GW109 := n4_; have GE109 := n5_; clear n0_ n1_ n2_ n3_ n4_ n5_; clear hb hbox hg; have hcz44_0 : w43.cell? ⟨gb109, 0, none⟩ = some (.int .i64 0) := (blk_cell BK109.out 0).trans rfl; have hcz44_1 : w43.cell? ⟨gb109, 1, none⟩ = some (.int .i64 0) := (blk_cell BK109.out 1).trans rfl; have hcz44_2 : w43.cell? ⟨gb109, 2, none⟩ = some (.string (⟨#[]⟩ : ByteArray)) := (blk_cell BK109.out 2).trans rfl; have hfz44_0 := blk_frozen BK109.out 0; have hfz44_1 := blk_frozen BK109.out 1; have hfz44_2 := blk_frozen BK109.out 2) | ((with_reducible refine gate_callee (f := 9) rfl ?_); refine goesL_ (some 50) rfl rfl Try.func9 (by kernel_rfl) rfl #[.agg #[.int .i64 ((rd_T23 y105 (ji8)).f0), .int .i64 ((rd_T23 y105 (ji8)).f1), .string ((rd_T23 y105 (ji8)).f2)], .int .i64 1, .int .i64 9] rfl (by (try simp only [List.map_toArray, List.map_cons, List.map_nil]); first | done | (simp only [hji8]; rfl) | rfl | (simp only [List.length_drop, List.length_take]; rfl)) ?_; (with_reducible refine (coder_Bit.calls ((rd_T23 y105 (ji8)).f0) ((rd_T23 y105 (ji8)).f1) ((rd_T23 y105 (ji8)).f2) 1 9 t110 t111 t112 t113 _ A11.out).mono ?_); rintro e w45 ⟨rfl, hb⟩; refine ⟨_, rfl, ?_⟩; have n0_ := Aside0.mk (Kd.R_below (by (with_reducible repeat (first | apply Kd.R_alloc | apply Kd.R_drewN | apply Kd.R_drew)); exact (Kd.R_mono (Kd.R_far (p := ⟨gb109, 2, none⟩) (Kd.R_far (p := ⟨gb109, 1, none⟩) (Kd.R_far (p := ⟨gb109, 0, none⟩) (Kd.R_types HO104.out BK109.out (by decide)) (fun _ hk => hk.2) (.int .i64 ((rd_T23 y105 (ji8)).f0))) (fun _ hk => hk.2) (.int .i64 ((rd_T23 y105 (ji8)).f1))) (fun _ hk => hk.2) (.string ((rd_T23 y105 (ji8)).f2))) (fun _ h_ => h_.1))) hb); have n1_ := Aside0.mk (Kd.R_below (by (with_reducible repeat (first | apply Kd.R_alloc | apply Kd.R_drewN | apply Kd.R_drew)); exact (Kd.R_mono (Kd.R_far (p := ⟨gb109, 2, none⟩) (Kd.R_far (p := ⟨gb109, 1, none⟩) (Kd.R_far (p := ⟨gb109, 0, none⟩) (Kd.R_mono HO107.out (fun k_ hk => (⟨hk, hk.2⟩ : _ ∧ k_ ≠ gb109))) (fun _ hk => hk.2) (.int .i64 ((rd_T23 y105 (ji8)).f0))) (fun _ hk => hk.2) (.int .i64 ((rd_T23 y105 (ji8)).f1))) (fun _ hk => hk.2) (.string ((rd_T23 y105 (ji8)).f2))) (fun _ h_ => h_.1))) hb); have n2_ := Aside0.mk (blk_below (g := gb109) (o := .cells #[.int .i64 ((rd_T23 y105 (ji8)).f0), .int .i64 ((rd_T23 y105 (ji8)).f1), .string ((rd_T23 y105 (ji8)).f2)] 23 (0, 0)) (by (with_reducible repeat (first | refine blk_drewN ?_ _ | refine blk_drew ?_ | refine blk_alloc ?_ _)); refine blk_put (cs := #[.int .i64 ((rd_T23 y105 (ji8)).f0), .int .i64 ((rd_T23 y105 (ji8)).f1), .string (⟨#[]⟩ : ByteArray)]) ?_ 2 _ rfl; (with_reducible repeat (first | refine blk_drewN ?_ _ | refine blk_drew ?_ | refine blk_alloc ?_ _)); refine blk_put (cs := #[.int .i64 ((rd_T23 y105 (ji8)).f0), .int .i64 0, .string (⟨#[]⟩ : ByteArray)]) ?_ 1 _ rfl; (with_reducible repeat (first | refine blk_drewN ?_ _ | refine blk_drew ?_ | refine blk_alloc ?_ _)); refine blk_put (cs := #[.int .i64 0, .int .i64 0, .string (⟨#[]⟩ : ByteArray)]) ?_ 0 _ rfl; (with_reducible repeat (first | refine blk_drewN ?_ _ | refine blk_drew ?_ | refine blk_alloc ?_ _)); exact BK109.out) hb); have n3_ := Aside0.mk (below_step (by repeat (first | (with_reducible first | exact HB.out | apply below_alloc | apply pw_below_drewN | apply below_drew1 | refine below_set ?_ GE109.out) | exact HB.out)) hb); clear HO104; clear HO107; clear BK109; clear HB; have HO104 := n0_; have HO107 := n1_; have BK109 := n2_; have HB := n3_; clear n0_ n1_ n2_ n3_; (try clear hb); (try clear hb2); (try clear hk); (try clear hi)) | ((with_reducible refine gate_dst (N := 8) rfl ?_); refine box_event ?hg (N := 8) ?hd (cs := #[.int .i64 0, .int .i64 0, .string (⟨#[]⟩ : ByteArray)]) (t := 23) ?hr ?_; (case hd => rfl); (case hg => rfl); (case hr => first | (go_simp; done) | (go_simp; rfl)); intro gb114 hg w46 hbox hb; have n0_ := Aside0.mk (Kd.R_below (by (with_reducible repeat (first | apply Kd.R_alloc | apply Kd.R_drewN | apply Kd.R_drew)); exact HO104.out) hb); have n1_ := Aside0.mk (Kd.R_below (Kd.R_elderB (by (with_reducible repeat (first | apply Kd.R_alloc | apply Kd.R_drewN | apply Kd.R_drew)); exact HO107.out) gb114 (Nat.le_of_eq hg.symm)) hb); have n2_ := Aside0.mk (blk_below (g := gb109) (o := .cells #[.int .i64 ((rd_T23 y105 (ji8)).f0), .int .i64 ((rd_T23 y105 (ji8)).f1), .string ((rd_T23 y105 (ji8)).f2)] 23 (0, 0)) (by (with_reducible repeat (first | refine blk_drewN ?_ _ | refine blk_drew ?_ | refine blk_alloc ?_ _)); exact BK109.out) hb); have n3_ := Aside0.mk (below_step (by repeat (first | (with_reducible first | exact HB.out | apply below_alloc | apply pw_below_drewN | apply below_drew1 | refine below_set ?_ GE109.out) | exact HB.out)) hb); have n4_ := Aside0.mk (hbox); have n5_ := Aside0.mk ((by rw [hg]; exact (below_size (by repeat (first | (with_reducible first | exact HB.out | apply below_alloc | apply pw_below_drewN | apply below_drew1 | refine below_set ?_ GE109.out) | exact HB.out))) : w.heap.size ≤ gb114)); have n6_ := Aside0.mk ((by rw [hg]; exact (below_size (by repeat (first | (with_reducible first | exact HB.out | apply below_alloc | apply pw_below_drewN | apply below_drew1 | refine below_set ?_ GE109.out) | exact HB.out))) : w.heap.size ≤ gb114)); have n7_ := Aside0.mk ((by rw [hg]; exact Nat.ne_of_lt (blk_lt (g := gb109) (o := .cells #[.int .i64 ((rd_T23 y105 (ji8)).f0), .int .i64 ((rd_T23 y105 (ji8)).f1), .string ((rd_T23 y105 (ji8)).f2)] 23 (0, 0)) (by (with_reducible repeat (first | refine blk_drewN ?_ _ | refine blk_drew ?_ | refine blk_alloc ?_ _)); exact BK109.out)) : gb109 ≠ gb114)); have n8_ := Aside0.mk ((by rw [hg]; exact Nat.ne_of_gt (blk_lt (g := gb109) (o := .cells #[.int .i64 ((rd_T23 y105 (ji8)).f0), .int .i64 ((rd_T23 y105 (ji8)).f1), .string ((rd_T23 y105 (ji8)).f2)] 23 (0, 0)) (by (with_reducible repeat (first | refine blk_drewN ?_ _ | refine blk_drew ?_ | refine blk_alloc ?_ _)); exact BK109.out)) : gb114 ≠ gb109)); clear HO104; clear HO107; clear BK109; clear HB; have HO104 := n0_; have HO107 := n1_; have BK109 := n2_; have HB := n3_; have BK114 := n4_; have GW114 := n5_; have GE114 := n6_; have NB109_114 := n7_; have NB114_109 := n8_; clear n0_ n1_ n2_ n3_ n4_ n5_ n6_ n7_ n8_; clear hb hbox hg; have hnb47 := NB114_109.out; have hnc47 := NB109_114.out; have hcz48_0 : w46.cell? ⟨gb114, 0, none⟩ = some (.int .i64 0) := (blk_cell BK114.out 0).trans rfl; have hcz48_1 : w46.cell? ⟨gb114, 1, none⟩ = some (.int .i64 0) := (blk_cell BK114.out 1).trans rfl; have hcz48_2 : w46.cell? ⟨gb114, 2, none⟩ = some (.string (⟨#[]⟩ : ByteArray)) := (blk_cell BK114.out 2).trans rfl; have hfz48_0 := blk_frozen BK114.out 0; have hfz48_1 := blk_frozen BK114.out 1; have hfz48_2 := blk_frozen BK114.out 2; have hcz49_0 : w46.cell? ⟨gb109, 0, none⟩ = some (.int .i64 ((rd_T23 y105 (ji8)).f0)) := (blk_cell BK109.out 0).trans rfl; have hcz49_1 : w46.cell? ⟨gb109, 1, none⟩ = some (.int .i64 ((rd_T23 y105 (ji8)).f1)) := (blk_cell BK109.out 1).trans rfl; have hcz49_2 : w46.cell? ⟨gb109, 2, none⟩ = some (.string ((rd_T23 y105 (ji8)).f2)) := (blk_cell BK109.out 2).trans rfl; have hfz49_0 := blk_frozen BK109.out 0; have hfz49_1 := blk_frozen BK109.out 1; have hfz49_2 := blk_frozen BK109.out 2) | ((with_reducible refine gate_callee (f := 11) rfl ?_); refine goesL_ (some 55) rfl rfl Try.func11 (by kernel_rfl) rfl #[.agg #[.int .i64 ((rd_T23 y105 (ji8)).f0), .int .i64 ((rd_T23 y105 (ji8)).f1), .string ((rd_T23 y105 (ji8)).f2)]] rfl (by (try simp only [List.map_toArray, List.map_cons, List.map_nil]); first | done | (simp only [hji8]; rfl) | rfl | (simp only [List.length_drop, List.length_take]; rfl)) ?_; (with_reducible refine (coder_End.calls ((rd_T23 y105 (ji8)).f0) ((rd_T23 y105 (ji8)).f1) ((rd_T23 y105 (ji8)).f2) t115 t116 _ A12.out).mono ?_); rintro e w50 ⟨rfl, hb⟩; refine ⟨_, rfl, ?_⟩; have n0_ := Aside0.mk (Kd.R_below (by (with_reducible repeat (first | apply Kd.R_alloc | apply Kd.R_drewN | apply Kd.R_drew)); exact (Kd.R_mono (Kd.R_far (p := ⟨gb114, 2, none⟩) (Kd.R_far (p := ⟨gb114, 1, none⟩) (Kd.R_far (p := ⟨gb114, 0, none⟩) (Kd.R_types HO104.out BK114.out (by decide)) (fun _ hk => hk.2) (.int .i64 t110)) (fun _ hk => hk.2) (.int .i64 t111)) (fun _ hk => hk.2) (.string t112)) (fun _ h_ => h_.1))) hb); have n1_ := Aside0.mk (Kd.R_below (by (with_reducible repeat (first | apply Kd.R_alloc | apply Kd.R_drewN | apply Kd.R_drew)); exact (Kd.R_mono (Kd.R_far (p := ⟨gb114, 2, none⟩) (Kd.R_far (p := ⟨gb114, 1, none⟩) (Kd.R_far (p := ⟨gb114, 0, none⟩) (Kd.R_mono HO107.out (fun k_ hk => (⟨hk, hk.2⟩ : _ ∧ k_ ≠ gb114))) (fun _ hk => hk.2) (.int .i64 t110)) (fun _ hk => hk.2) (.int .i64 t111)) (fun _ hk => hk.2) (.string t112)) (fun _ h_ => h_.1))) hb); have n2_ := Aside0.mk (blk_below (g := gb109) (o := .cells #[.int .i64 ((rd_T23 y105 (ji8)).f0), .int .i64 ((rd_T23 y105 (ji8)).f1), .string ((rd_T23 y105 (ji8)).f2)] 23 (0, 0)) (by (with_reducible repeat (first | refine blk_drewN ?_ _ | refine blk_drew ?_ | refine blk_alloc ?_ _)); refine blk_far ?_ NB109_114.out _; (with_reducible repeat (first | refine blk_drewN ?_ _ | refine blk_drew ?_ | refine blk_alloc ?_ _)); refine blk_far ?_ NB109_114.out _; (with_reducible repeat (first | refine blk_drewN ?_ _ | refine blk_drew ?_ | refine blk_alloc ?_ _)); refine blk_far ?_ NB109_114.out _; (with_reducible repeat (first | refine blk_drewN ?_ _ | refine blk_drew ?_ | refine blk_alloc ?_ _)); exact BK109.out) hb); have n3_ := Aside0.mk (blk_below (g := gb114) (o := .cells #[.int .i64 t110, .int .i64 t111, .string t112] 23 (0, 0)) (by (with_reducible repeat (first | refine blk_drewN ?_ _ | refine blk_drew ?_ | refine blk_alloc ?_ _)); refine blk_put (cs := #[.int .i64 t110, .int .i64 t111, .string (⟨#[]⟩ : ByteArray)]) ?_ 2 _ rfl; (with_reducible repeat (first | refine blk_drewN ?_ _ | refine blk_drew ?_ | refine blk_alloc ?_ _)); refine blk_put (cs := #[.int .i64 t110, .int .i64 0, .string (⟨#[]⟩ : ByteArray)]) ?_ 1 _ rfl; (with_reducible repeat (first | refine blk_drewN ?_ _ | refine blk_drew ?_ | refine blk_alloc ?_ _)); refine blk_put (cs := #[.int .i64 0, .int .i64 0, .string (⟨#[]⟩ : ByteArray)]) ?_ 0 _ rfl; (with_reducible repeat (first | refine blk_drewN ?_ _ | refine blk_drew ?_ | refine blk_alloc ?_ _)); exact BK114.out) hb); have n4_ := Aside0.mk (below_step (by repeat (first | (with_reducible first | exact HB.out | apply below_alloc | apply pw_below_drewN | apply below_drew1 | refine below_set ?_ GE109.out | refine below_set ?_ GE114.out) | exact HB.out)) hb); clear HO104; clear HO107; clear BK109; clear BK114; clear HB; have HO104 := n0_; have HO107 := n1_; have BK109 := n2_; have BK114 := n3_; have HB := n4_; clear n0_ n1_ n2_ n3_ n4_; (try clear hb); (try clear hb2); (try clear hk); (try clear hi)))
    have pi123 : (0 ≤ ((Go.bits .and .i64 a0 1) : Int)) = True := eq_true (of_decide_eq_true (by first | (with_reducible assumption) | assumption))
    have qi123 : ((Go.bits .and .i64 a0 1) < (y120.length : Int)) = True := eq_true (of_decide_eq_true (by first | (with_reducible assumption) | assumption))
    have n0_ := Aside0.mk (blk_drew BK109.out)
    have n1_ := Aside0.mk (below_drew1 HB.out)
    clear BK109
    clear HB
    have BK109 := n0_
    have HB := n1_
    clear n0_ n1_
    refine start_ (n := 17) (S := fun w' => True) (ds := []) #[false, false, false, false, false, false, false, false, false, false, false, false, false, false, false, false, false] (by kernel_rfl) rfl rfl trivial (fun hHeld => ?_); refine with_tabW descantlaw4_CoderForms.tab8 descantlaw4_CoderForms.bits8 (fun HT_ HW_ => ?_)
    generalize w50.drew = w51 at BK109 HB hHeld ⊢
    refine pure_ (i := 1) (N := some 60) (v := ?_) (a' := ?_) #[false, true, false, false, false, false, false, false, false, false, false, false, false, false, false, false, false] rfl rfl (any_of HT_.out (by kernel_rfl)) (fun _ _ _ h => h) (Or.inl ⟨by rfl, ?_⟩) ?_ ?_
    rotate_left
    · intro w'
      go_simp
      with_reducible rfl
    rotate_left
    · simp only [Act.put, List.setIfInBounds_toArray, List.set_cons_zero, List.set_cons_succ, i64_w, i32_w]
      rfl
    refine pure_ (i := 2) (N := some 61) (v := ?_) (a' := ?_) #[false, true, true, false, false, false, false, false, false, false, false, false, false, false, false, false, false] rfl rfl (any_of HT_.out (by kernel_rfl)) (fun _ _ _ h => h) (Or.inl ⟨by rfl, ?_⟩) ?_ ?_
    rotate_left
    · intro w'
      go_simp
      with_reducible rfl
    rotate_left
    · simp only [Act.put, List.setIfInBounds_toArray, List.set_cons_zero, List.set_cons_succ, i64_w, i32_w]
      rfl
    refine pure_ (i := 3) (N := some 62) (v := ?_) (a' := ?_) #[false, true, true, true, false, false, false, false, false, false, false, false, false, false, false, false, false] rfl rfl (any_of HT_.out (by kernel_rfl)) (fun _ _ _ h => h) (Or.inl ⟨by rfl, ?_⟩) ?_ ?_
    rotate_left
    · intro w'
      go_simp
      with_reducible rfl
    rotate_left
    · simp only [Act.put, List.setIfInBounds_toArray, List.set_cons_zero, List.set_cons_succ, i64_w, i32_w]
      rfl
    refine pure_ (i := 4) (N := some 63) (v := ?_) (a' := ?_) #[false, true, true, true, true, false, false, false, false, false, false, false, false, false, false, false, false] rfl rfl (any_of HT_.out (by kernel_rfl)) (fun _ _ _ h => h) (Or.inl ⟨by rfl, ?_⟩) ?_ ?_
    rotate_left
    · intro w'
      go_simp
      with_reducible rfl
    rotate_left
    · simp only [Act.put, List.setIfInBounds_toArray, List.set_cons_zero, List.set_cons_succ, i64_w, i32_w]
      rfl
    refine pure_ (i := 6) (N := some 65) (v := ?_) (a' := ?_) #[false, true, true, true, true, false, true, false, false, false, false, false, false, false, false, false, false] rfl rfl (any_of HT_.out (by kernel_rfl)) (fun _ _ _ h => h) (Or.inl ⟨by rfl, ?_⟩) ?_ ?_
    rotate_left
    · intro w'
      go_simp
      with_reducible rfl
    rotate_left
    · simp only [Act.put, List.setIfInBounds_toArray, List.set_cons_zero, List.set_cons_succ, i64_w, i32_w]
      rfl
    refine pure_ (i := 7) (N := some 66) (v := ?_) (a' := ?_) #[false, true, true, true, true, false, true, true, false, false, false, false, false, false, false, false, false] rfl rfl (any_of HT_.out (by kernel_rfl)) (fun _ _ _ h => h) (Or.inl ⟨by rfl, ?_⟩) ?_ ?_
    rotate_left
    · intro w'
      go_simp
      with_reducible rfl
    rotate_left
    · simp only [Act.put, List.setIfInBounds_toArray, List.set_cons_zero, List.set_cons_succ, i64_w, i32_w]
      rfl
    refine join_ (σ := Value × Addr × Nat) 2 #[true, true, true, true, true, true, true, true, true, true, true, true, true, true, true, false, false] (fun s_ => [(59, .agg #[.int .i64 t117, .int .i64 t118, .string t119]), (64, s_.1), (68, .int .i64 (rd y120 (Go.bits .and .i64 a0 1))), (69, .tuple #[.agg #[.int .i64 t124, .int .i64 t125, .string t126], .int .i64 t127]), (12, .pointer (some ⟨s_.2.2, 0, none⟩)), (67, .pointer (some (s_.2.1.add ((Go.bits .and .i64 a0 1)).toNat))), (58, .tuple #[.agg #[.int .i64 t124, .int .i64 t125, .string t126], .int .i64 t127]), (70, .agg #[.int .i64 t124, .int .i64 t125, .string t126]), (71, .int .i64 t127)]) (fun s_ w' => (Kd.R (Kd.int .i64) 3 w' w.heap.size (fun _ => True) s_.1 y120) ∧ (∃ c_, (s_.1 : Value) = .slice (some s_.2.1) y120.length c_) ∧ (w'.heap[gb109]? = some (.cells #[.int .i64 ((rd_T23 y105 (ji8)).f0), .int .i64 ((rd_T23 y105 (ji8)).f1), .string ((rd_T23 y105 (ji8)).f2)] 23 (0, 0))) ∧ (w'.heap[s_.2.2]? = some (.cells #[.int .i64 0, .int .i64 0, .string (⟨#[]⟩ : ByteArray)] 23 (0, 0))) ∧ (w.heap.size ≤ s_.2.2) ∧ (w.heap.size ≤ s_.2.2) ∧ (gb109 ≠ s_.2.2) ∧ (s_.2.2 ≠ gb109) ∧ (Below w.heap.size w w')) ?_ ?_
    · rintro ⟨v121, adz_v121, gb128⟩ w58 ⟨h0_, h1_, h2_, h3_, h4_, h5_, h6_, h7_, h8_⟩
      have n0_ : Aside0 (Kd.R (Kd.int .i64) 3 w58 w.heap.size (fun _ => True) v121 y120) := ⟨h0_⟩
      have n1_ : Aside0 (∃ c_, (v121 : Value) = .slice (some adz_v121) y120.length c_) := ⟨h1_⟩
      have n2_ : Aside0 (w58.heap[gb109]? = some (.cells #[.int .i64 ((rd_T23 y105 (ji8)).f0), .int .i64 ((rd_T23 y105 (ji8)).f1), .string ((rd_T23 y105 (ji8)).f2)] 23 (0, 0))) := ⟨h2_⟩
      have n3_ : Aside0 (w58.heap[gb128]? = some (.cells #[.int .i64 0, .int .i64 0, .string (⟨#[]⟩ : ByteArray)] 23 (0, 0))) := ⟨h3_⟩
      have n4_ : Aside0 (w.heap.size ≤ gb128) := ⟨h4_⟩
      have n5_ : Aside0 (w.heap.size ≤ gb128) := ⟨h5_⟩
      have n6_ : Aside0 (gb109 ≠ gb128) := ⟨h6_⟩
      have n7_ : Aside0 (gb128 ≠ gb109) := ⟨h7_⟩
      have n8_ : Aside0 (Below w.heap.size w w58) := ⟨h8_⟩
      clear BK109
      clear HB
      clear h0_ h1_ h2_ h3_ h4_ h5_ h6_ h7_ h8_
      have HO122 := n0_
      have HA_HO122 := n1_
      have BK109 := n2_
      have BK128 := n3_
      have GW128 := n4_
      have GE128 := n5_
      have NB109_128 := n6_
      have NB128_109 := n7_
      have HB := n8_
      clear n0_ n1_ n2_ n3_ n4_ n5_ n6_ n7_ n8_
      have hHeld := trivial
      obtain ⟨co59, eo59⟩ := HA_HO122.out
      clear HA_HO122
      subst eo59
      refine norm_ (a' := ?_) ?_ ?_
      rotate_left
      · simp only [putAll, Act.put, List.setIfInBounds_toArray, List.set_cons_zero, List.set_cons_succ]
        rfl
      refine one_ (i := 15) (N := none) #[true, true, true, true, true, true, true, true, true, true, true, true, true, true, true, true, false] rfl rfl (one_of HT_.out (by kernel_rfl)) (by decide) (fun K hK => ?_)
      have hs60 : w58.cell? ⟨gb128, 0, none⟩ = some (.int .i64 0) := (blk_cell BK128.out 0).trans rfl
      have hfs60 := blk_frozen BK128.out 0
      have hns60_0 := NB109_128.out
      have hms60_0 := NB128_109.out
      have hs61 : w58.cell? ⟨gb128, 1, none⟩ = some (.int .i64 0) := (blk_cell BK128.out 1).trans rfl
      have hfs61 := blk_frozen BK128.out 1
      have hns61_0 := NB109_128.out
      have hms61_0 := NB128_109.out
      have hs62 : w58.cell? ⟨gb128, 2, none⟩ = some (.string (⟨#[]⟩ : ByteArray)) := (blk_cell BK128.out 2).trans rfl
      have hfs62 := blk_frozen BK128.out 2
      have hns62_0 := NB109_128.out
      have hms62_0 := NB128_109.out
      refine skip_ (w1 := ?_) (by rfl) rfl ?_ ?_
      rotate_left
      · go_simp
        rfl
      refine hK.out _ _ trivial (fun hHeld => ?_)
      clear hK K
      refine pure_ (i := 16) (N := some 13) (v := ?_) (a' := ?_) #[true, true, true, true, true, true, true, true, true, true, true, true, true, true, true, true, true] rfl rfl (any_of HT_.out (by kernel_rfl)) (fun _ _ _ h => h) (Or.inl ⟨by rfl, ?_⟩) ?_ ?_
      rotate_left
      · intro w'
        go_simp
        with_reducible rfl
      rotate_left
      · simp only [Act.put, List.setIfInBounds_toArray, List.set_cons_zero, List.set_cons_succ, i64_w, i32_w]
        rfl
      refine done_ (done_of HT_.out (by kernel_rfl)) ?_
      try go_wp2
      have pi135 : (0 ≤ ((Go.bits .and .i64 a0 1) : Int)) = True := eq_true (of_decide_eq_true (by first | (with_reducible assumption) | assumption))
      have qi135 : ((Go.bits .and .i64 a0 1) < (y132.length : Int)) = True := eq_true (of_decide_eq_true (by first | (with_reducible assumption) | assumption))
      have n0_ : Aside0 ((((w58.setCell ⟨gb128, 0, none⟩ (.int .i64 t124)).setCell ⟨gb128, 1, none⟩ (.int .i64 t125)).setCell ⟨gb128, 2, none⟩ (.string t126)).heap[gb109]? = some (.cells #[.int .i64 ((rd_T23 y105 (ji8)).f0), .int .i64 ((rd_T23 y105 (ji8)).f1), .string ((rd_T23 y105 (ji8)).f2)] 23 (0, 0))) := ⟨by (with_reducible repeat (first | refine blk_drewN ?_ _ | refine blk_drew ?_ | refine blk_alloc ?_ _)); refine blk_far ?_ NB109_128.out _; (with_reducible repeat (first | refine blk_drewN ?_ _ | refine blk_drew ?_ | refine blk_alloc ?_ _)); refine blk_far ?_ NB109_128.out _; (with_reducible repeat (first | refine blk_drewN ?_ _ | refine blk_drew ?_ | refine blk_alloc ?_ _)); refine blk_far ?_ NB109_128.out _; (with_reducible repeat (first | refine blk_drewN ?_ _ | refine blk_drew ?_ | refine blk_alloc ?_ _)); exact BK109.out⟩
      have n1_ : Aside0 ((((w58.setCell ⟨gb128, 0, none⟩ (.int .i64 t124)).setCell ⟨gb128, 1, none⟩ (.int .i64 t125)).setCell ⟨gb128, 2, none⟩ (.string t126)).heap[gb128]? = some (.cells #[.int .i64 t124, .int .i64 t125, .string t126] 23 (0, 0))) := ⟨by (with_reducible repeat (first | refine blk_drewN ?_ _ | refine blk_drew ?_ | refine blk_alloc ?_ _)); refine blk_put (cs := #[.int .i64 t124, .int .i64 t125, .string (⟨#[]⟩ : ByteArray)]) ?_ 2 _ rfl; (with_reducible repeat (first | refine blk_drewN ?_ _ | refine blk_drew ?_ | refine blk_alloc ?_ _)); refine blk_put (cs := #[.int .i64 t124, .int .i64 0, .string (⟨#[]⟩ : ByteArray)]) ?_ 1 _ rfl; (with_reducible repeat (first | refine blk_drewN ?_ _ | refine blk_drew ?_ | refine blk_alloc ?_ _)); refine blk_put (cs := #[.int .i64 0, .int .i64 0, .string (⟨#[]⟩ : ByteArray)]) ?_ 0 _ rfl; (with_reducible repeat (first | refine blk_drewN ?_ _ | refine blk_drew ?_ | refine blk_alloc ?_ _)); exact BK128.out⟩
      have n2_ : Aside0 (Below w.heap.size w (((w58.setCell ⟨gb128, 0, none⟩ (.int .i64 t124)).setCell ⟨gb128, 1, none⟩ (.int .i64 t125)).setCell ⟨gb128, 2, none⟩ (.string t126))) := ⟨by repeat (first | (with_reducible first | exact HB.out | apply below_alloc | apply pw_below_drewN | apply below_drew1 | refine below_set ?_ GE109.out | refine below_set ?_ GE128.out) | exact HB.out)⟩
      (try clear BK109)
      (try clear BK128)
      (try clear HB)
      generalize (((w58.setCell ⟨gb128, 0, none⟩ (.int .i64 t124)).setCell ⟨gb128, 1, none⟩ (.int .i64 t125)).setCell ⟨gb128, 2, none⟩ (.string t126)) = w63 at n0_ n1_ n2_ ⊢
      have BK109 := n0_
      have BK128 := n1_
      have HB := n2_
      clear n0_ n1_ n2_
      have n0_ := Aside0.mk (blk_drew BK109.out)
      have n1_ := Aside0.mk (blk_drew BK128.out)
      have n2_ := Aside0.mk (below_drew1 HB.out)
      clear BK109
      clear BK128
      clear HB
      have BK109 := n0_
      have BK128 := n1_
      have HB := n2_
      clear n0_ n1_ n2_
      refine start_ (n := 17) (S := fun w' => True) (ds := []) #[false, false, false, false, false, false, false, false, false, false, false, false, false, false, false, false, false] (by kernel_rfl) rfl rfl trivial (fun hHeld => ?_); refine with_tabW descantlaw4_CoderForms.tab9 descantlaw4_CoderForms.bits9 (fun HT_ HW_ => ?_)
      generalize w63.drew = w64 at BK109 BK128 HB hHeld ⊢
      refine pure_ (i := 1) (N := some 74) (v := ?_) (a' := ?_) #[false, true, false, false, false, false, false, false, false, false, false, false, false, false, false, false, false] rfl rfl (any_of HT_.out (by kernel_rfl)) (fun _ _ _ h => h) (Or.inl ⟨by rfl, ?_⟩) ?_ ?_
      rotate_left
      · intro w'
        go_simp
        with_reducible rfl
      rotate_left
      · simp only [Act.put, List.setIfInBounds_toArray, List.set_cons_zero, List.set_cons_succ, i64_w, i32_w]
        rfl
      refine pure_ (i := 2) (N := some 75) (v := ?_) (a' := ?_) #[false, true, true, false, false, false, false, false, false, false, false, false, false, false, false, false, false] rfl rfl (any_of HT_.out (by kernel_rfl)) (fun _ _ _ h => h) (Or.inl ⟨by rfl, ?_⟩) ?_ ?_
      rotate_left
      · intro w'
        go_simp
        with_reducible rfl
      rotate_left
      · simp only [Act.put, List.setIfInBounds_toArray, List.set_cons_zero, List.set_cons_succ, i64_w, i32_w]
        rfl
      refine pure_ (i := 3) (N := some 76) (v := ?_) (a' := ?_) #[false, true, true, true, false, false, false, false, false, false, false, false, false, false, false, false, false] rfl rfl (any_of HT_.out (by kernel_rfl)) (fun _ _ _ h => h) (Or.inl ⟨by rfl, ?_⟩) ?_ ?_
      rotate_left
      · intro w'
        go_simp
        with_reducible rfl
      rotate_left
      · simp only [Act.put, List.setIfInBounds_toArray, List.set_cons_zero, List.set_cons_succ, i64_w, i32_w]
        rfl
      refine pure_ (i := 4) (N := some 77) (v := ?_) (a' := ?_) #[false, true, true, true, true, false, false, false, false, false, false, false, false, false, false, false, false] rfl rfl (any_of HT_.out (by kernel_rfl)) (fun _ _ _ h => h) (Or.inl ⟨by rfl, ?_⟩) ?_ ?_
      rotate_left
      · intro w'
        go_simp
        with_reducible rfl
      rotate_left
      · simp only [Act.put, List.setIfInBounds_toArray, List.set_cons_zero, List.set_cons_succ, i64_w, i32_w]
        rfl
      refine pure_ (i := 6) (N := some 79) (v := ?_) (a' := ?_) #[false, true, true, true, true, false, true, false, false, false, false, false, false, false, false, false, false] rfl rfl (any_of HT_.out (by kernel_rfl)) (fun _ _ _ h => h) (Or.inl ⟨by rfl, ?_⟩) ?_ ?_
      rotate_left
      · intro w'
        go_simp
        with_reducible rfl
      rotate_left
      · simp only [Act.put, List.setIfInBounds_toArray, List.set_cons_zero, List.set_cons_succ, i64_w, i32_w]
        rfl
      refine pure_ (i := 7) (N := some 80) (v := ?_) (a' := ?_) #[false, true, true, true, true, false, true, true, false, false, false, false, false, false, false, false, false] rfl rfl (any_of HT_.out (by kernel_rfl)) (fun _ _ _ h => h) (Or.inl ⟨by rfl, ?_⟩) ?_ ?_
      rotate_left
      · intro w'
        go_simp
        with_reducible rfl
      rotate_left
      · simp only [Act.put, List.setIfInBounds_toArray, List.set_cons_zero, List.set_cons_succ, i64_w, i32_w]
        rfl
      refine join_ (σ := Value × Addr × Nat) 2 #[true, true, true, true, true, true, true, true, true, true, true, true, true, true, true, false, false] (fun s_ => [(73, .agg #[.int .i64 t129, .int .i64 t130, .string t131]), (78, s_.1), (82, .int .i64 (rd y132 (Go.bits .and .i64 a0 1))), (83, .tuple #[.agg #[.int .i64 t136, .int .i64 t137, .string t138], .int .i64 t139]), (14, .pointer (some ⟨s_.2.2, 0, none⟩)), (81, .pointer (some (s_.2.1.add ((Go.bits .and .i64 a0 1)).toNat))), (72, .tuple #[.agg #[.int .i64 t136, .int .i64 t137, .string t138], .int .i64 t139]), (84, .agg #[.int .i64 t136, .int .i64 t137, .string t138]), (85, .int .i64 t139)]) (fun s_ w' => (Kd.R (Kd.int .i64) 3 w' w.heap.size (fun _ => True) s_.1 y132) ∧ (∃ c_, (s_.1 : Value) = .slice (some s_.2.1) y132.length c_) ∧ (w'.heap[gb109]? = some (.cells #[.int .i64 ((rd_T23 y105 (ji8)).f0), .int .i64 ((rd_T23 y105 (ji8)).f1), .string ((rd_T23 y105 (ji8)).f2)] 23 (0, 0))) ∧ (w'.heap[gb128]? = some (.cells #[.int .i64 t124, .int .i64 t125, .string t126] 23 (0, 0))) ∧ (w'.heap[s_.2.2]? = some (.cells #[.int .i64 0, .int .i64 0, .string (⟨#[]⟩ : ByteArray)] 23 (0, 0))) ∧ (w.heap.size ≤ s_.2.2) ∧ (w.heap.size ≤ s_.2.2) ∧ (gb109 ≠ s_.2.2) ∧ (s_.2.2 ≠ gb109) ∧ (gb128 ≠ s_.2.2) ∧ (s_.2.2 ≠ gb128) ∧ (Below w.heap.size w w')) ?_ ?_
      · rintro ⟨v133, adz_v133, gb140⟩ w71 ⟨h0_, h1_, h2_, h3_, h4_, h5_, h6_, h7_, h8_, h9_, h10_, h11_⟩
        have n0_ : Aside0 (Kd.R (Kd.int .i64) 3 w71 w.heap.size (fun _ => True) v133 y132) := ⟨h0_⟩
        have n1_ : Aside0 (∃ c_, (v133 : Value) = .slice (some adz_v133) y132.length c_) := ⟨h1_⟩
        have n2_ : Aside0 (w71.heap[gb109]? = some (.cells #[.int .i64 ((rd_T23 y105 (ji8)).f0), .int .i64 ((rd_T23 y105 (ji8)).f1), .string ((rd_T23 y105 (ji8)).f2)] 23 (0, 0))) := ⟨h2_⟩
        have n3_ : Aside0 (w71.heap[gb128]? = some (.cells #[.int .i64 t124, .int .i64 t125, .string t126] 23 (0, 0))) := ⟨h3_⟩
        have n4_ : Aside0 (w71.heap[gb140]? = some (.cells #[.int .i64 0, .int .i64 0, .string (⟨#[]⟩ : ByteArray)] 23 (0, 0))) := ⟨h4_⟩
        have n5_ : Aside0 (w.heap.size ≤ gb140) := ⟨h5_⟩
        have n6_ : Aside0 (w.heap.size ≤ gb140) := ⟨h6_⟩
        have n7_ : Aside0 (gb109 ≠ gb140) := ⟨h7_⟩
        have n8_ : Aside0 (gb140 ≠ gb109) := ⟨h8_⟩
        have n9_ : Aside0 (gb128 ≠ gb140) := ⟨h9_⟩
        have n10_ : Aside0 (gb140 ≠ gb128) := ⟨h10_⟩
        have n11_ : Aside0 (Below w.heap.size w w71) := ⟨h11_⟩
        clear BK109
        clear BK128
        clear HB
        clear h0_ h1_ h2_ h3_ h4_ h5_ h6_ h7_ h8_ h9_ h10_ h11_
        have HO134 := n0_
        have HA_HO134 := n1_
        have BK109 := n2_
        have BK128 := n3_
        have BK140 := n4_
        have GW140 := n5_
        have GE140 := n6_
        have NB109_140 := n7_
        have NB140_109 := n8_
        have NB128_140 := n9_
        have NB140_128 := n10_
        have HB := n11_
        clear n0_ n1_ n2_ n3_ n4_ n5_ n6_ n7_ n8_ n9_ n10_ n11_
        have hHeld := trivial
        obtain ⟨co72, eo72⟩ := HA_HO134.out
        clear HA_HO134
        subst eo72
        refine norm_ (a' := ?_) ?_ ?_
        rotate_left
        · simp only [putAll, Act.put, List.setIfInBounds_toArray, List.set_cons_zero, List.set_cons_succ]
          rfl
        refine one_ (i := 15) (N := none) #[true, true, true, true, true, true, true, true, true, true, true, true, true, true, true, true, false] rfl rfl (one_of HT_.out (by kernel_rfl)) (by decide) (fun K hK => ?_)
        have hs73 : w71.cell? ⟨gb140, 0, none⟩ = some (.int .i64 0) := (blk_cell BK140.out 0).trans rfl
        have hfs73 := blk_frozen BK140.out 0
        have hns73_0 := NB109_140.out
        have hns73_1 := NB128_140.out
        have hms73_0 := NB140_109.out
        have hms73_1 := NB140_128.out
        have hs74 : w71.cell? ⟨gb140, 1, none⟩ = some (.int .i64 0) := (blk_cell BK140.out 1).trans rfl
        have hfs74 := blk_frozen BK140.out 1
        have hns74_0 := NB109_140.out
        have hns74_1 := NB128_140.out
        have hms74_0 := NB140_109.out
        have hms74_1 := NB140_128.out
        have hs75 : w71.cell? ⟨gb140, 2, none⟩ = some (.string (⟨#[]⟩ : ByteArray)) := (blk_cell BK140.out 2).trans rfl
        have hfs75 := blk_frozen BK140.out 2
        have hns75_0 := NB109_140.out
        have hns75_1 := NB128_140.out
        have hms75_0 := NB140_109.out
        have hms75_1 := NB140_128.out
        refine skip_ (w1 := ?_) (by rfl) rfl ?_ ?_
        rotate_left
        · go_simp
          rfl
        refine hK.out _ _ trivial (fun hHeld => ?_)
        clear hK K
        refine pure_ (i := 16) (N := some 15) (v := ?_) (a' := ?_) #[true, true, true, true, true, true, true, true, true, true, true, true, true, true, true, true, true] rfl rfl (any_of HT_.out (by kernel_rfl)) (fun _ _ _ h => h) (Or.inl ⟨by rfl, ?_⟩) ?_ ?_
        rotate_left
        · intro w'
          go_simp
          with_reducible rfl
        rotate_left
        · simp only [Act.put, List.setIfInBounds_toArray, List.set_cons_zero, List.set_cons_succ, i64_w, i32_w]
          rfl
        refine done_ (done_of HT_.out (by kernel_rfl)) ?_
        try go_wp2_with (first | ((with_reducible refine gate_dst (N := 86) rfl ?_); refine Kd.R_make (Kd.int .u8) _ 5 rfl (N := 86) rfl 38 _ _ rfl 65536 rfl rfl Try.underlying38 (.int .u8 0) 1 info5 rfl (by decide) (by omega) 0 (ok := fun _ => True) (okp := fun _ => True) rfl (fun _ hk => hk) trivial (by omega) (by omega) (Below.refl _ _) (Nat.le_refl _) ?_; intro v142 w76 ho77 hb hg_ hnew_; clear hg_ hnew_; (first | rw [← Ny141.out] at ho77 | (simp only [Int.reduceToNat] at ho77; rw [← Ny141.out] at ho77)); have n0_ := Aside0.mk (Kd.R_below (by (with_reducible repeat (first | apply Kd.R_alloc | apply Kd.R_drewN | apply Kd.R_drew)); exact (Kd.R_mono (Kd.R_far (p := ⟨gb140, 2, none⟩) (Kd.R_far (p := ⟨gb140, 1, none⟩) (Kd.R_far (p := ⟨gb140, 0, none⟩) (Kd.R_types HO134.out BK140.out (by decide)) (fun _ hk => hk.2) (.int .i64 t136)) (fun _ hk => hk.2) (.int .i64 t137)) (fun _ hk => hk.2) (.string t138)) (fun _ h_ => h_.1))) hb); have n1_ := Aside0.mk (Kd.R_lower ho77 (below_size (by repeat (first | (with_reducible first | exact HB.out | apply below_alloc | apply pw_below_drewN | apply below_drew1 | refine below_set ?_ GE109.out | refine below_set ?_ GE128.out | refine below_set ?_ GE140.out) | exact HB.out)))); have n2_ := Aside0.mk (blk_below (g := gb109) (o := .cells #[.int .i64 ((rd_T23 y105 (ji8)).f0), .int .i64 ((rd_T23 y105 (ji8)).f1), .string ((rd_T23 y105 (ji8)).f2)] 23 (0, 0)) (by (with_reducible repeat (first | refine blk_drewN ?_ _ | refine blk_drew ?_ | refine blk_alloc ?_ _)); refine blk_far ?_ NB109_140.out _; (with_reducible repeat (first | refine blk_drewN ?_ _ | refine blk_drew ?_ | refine blk_alloc ?_ _)); refine blk_far ?_ NB109_140.out _; (with_reducible repeat (first | refine blk_drewN ?_ _ | refine blk_drew ?_ | refine blk_alloc ?_ _)); refine blk_far ?_ NB109_140.out _; (with_reducible repeat (first | refine blk_drewN ?_ _ | refine blk_drew ?_ | refine blk_alloc ?_ _)); exact BK109.out) hb); have n3_ := Aside0.mk (blk_below (g := gb128) (o := .cells #[.int .i64 t124, .int .i64 t125, .string t126] 23 (0, 0)) (by (with_reducible repeat (first | refine blk_drewN ?_ _ | refine blk_drew ?_ | refine blk_alloc ?_ _)); refine blk_far ?_ NB128_140.out _; (with_reducible repeat (first | refine blk_drewN ?_ _ | refine blk_drew ?_ | refine blk_alloc ?_ _)); refine blk_far ?_ NB128_140.out _; (with_reducible repeat (first | refine blk_drewN ?_ _ | refine blk_drew ?_ | refine blk_alloc ?_ _)); refine blk_far ?_ NB128_140.out _; (with_reducible repeat (first | refine blk_drewN ?_ _ | refine blk_drew ?_ | refine blk_alloc ?_ _)); exact BK128.out) hb); have n4_ := Aside0.mk (blk_below (g := gb140) (o := .cells #[.int .i64 t136, .int .i64 t137, .string t138] 23 (0, 0)) (by (with_reducible repeat (first | refine blk_drewN ?_ _ | refine blk_drew ?_ | refine blk_alloc ?_ _)); refine blk_put (cs := #[.int .i64 t136, .int .i64 t137, .string (⟨#[]⟩ : ByteArray)]) ?_ 2 _ rfl; (with_reducible repeat (first | refine blk_drewN ?_ _ | refine blk_drew ?_ | refine blk_alloc ?_ _)); refine blk_put (cs := #[.int .i64 t136, .int .i64 0, .string (⟨#[]⟩ : ByteArray)]) ?_ 1 _ rfl; (with_reducible repeat (first | refine blk_drewN ?_ _ | refine blk_drew ?_ | refine blk_alloc ?_ _)); refine blk_put (cs := #[.int .i64 0, .int .i64 0, .string (⟨#[]⟩ : ByteArray)]) ?_ 0 _ rfl; (with_reducible repeat (first | refine blk_drewN ?_ _ | refine blk_drew ?_ | refine blk_alloc ?_ _)); exact BK140.out) hb); have n5_ := Aside0.mk (below_step (by repeat (first | (with_reducible first | exact HB.out | apply below_alloc | apply pw_below_drewN | apply below_drew1 | refine below_set ?_ GE109.out | refine below_set ?_ GE128.out | refine below_set ?_ GE140.out) | exact HB.out)) hb); clear HO134; clear BK109; clear BK128; clear BK140; clear HB; have HO134 := n0_; have HO143 := n1_; have BK109 := n2_; have BK128 := n3_; have BK140 := n4_; have HB := n5_; clear n0_ n1_ n2_ n3_ n4_ n5_; clear hb ho77; have hcv78 := own_string (P := Try.prog) Try.underlying38 Try.underlying5 Try.underlying9 (Kd.own_of_R HO143.out)) | ((with_reducible refine gate_dst (N := 16) rfl ?_); refine box_event ?hg (N := 16) ?hd (cs := #[.int .i64 0, .int .i64 0, .string (⟨#[]⟩ : ByteArray)]) (t := 23) ?hr ?_; (case hd => rfl); (case hg => rfl); (case hr => first | (go_simp; done) | (go_simp; rfl)); intro gb144 hg w79 hbox hb; have n0_ := Aside0.mk (Kd.R_below (by (with_reducible repeat (first | apply Kd.R_alloc | apply Kd.R_drewN | apply Kd.R_drew)); exact HO134.out) hb); have n1_ := Aside0.mk (Kd.R_below (by (with_reducible repeat (first | apply Kd.R_alloc | apply Kd.R_drewN | apply Kd.R_drew)); exact HO143.out) hb); have n2_ := Aside0.mk (blk_below (g := gb109) (o := .cells #[.int .i64 ((rd_T23 y105 (ji8)).f0), .int .i64 ((rd_T23 y105 (ji8)).f1), .string ((rd_T23 y105 (ji8)).f2)] 23 (0, 0)) (by (with_reducible repeat (first | refine blk_drewN ?_ _ | refine blk_drew ?_ | refine blk_alloc ?_ _)); exact BK109.out) hb); have n3_ := Aside0.mk (blk_below (g := gb128) (o := .cells #[.int .i64 t124, .int .i64 t125, .string t126] 23 (0, 0)) (by (with_reducible repeat (first | refine blk_drewN ?_ _ | refine blk_drew ?_ | refine blk_alloc ?_ _)); exact BK128.out) hb); have n4_ := Aside0.mk (blk_below (g := gb140) (o := .cells #[.int .i64 t136, .int .i64 t137, .string t138] 23 (0, 0)) (by (with_reducible repeat (first | refine blk_drewN ?_ _ | refine blk_drew ?_ | refine blk_alloc ?_ _)); exact BK140.out) hb); have n5_ := Aside0.mk (below_step (by repeat (first | (with_reducible first | exact HB.out | apply below_alloc | apply pw_below_drewN | apply below_drew1 | refine below_set ?_ GE109.out | refine below_set ?_ GE128.out | refine below_set ?_ GE140.out) | exact HB.out)) hb); have n6_ := Aside0.mk (hbox); have n7_ := Aside0.mk ((by rw [hg]; exact (below_size (by repeat (first | (with_reducible first | exact HB.out | apply below_alloc | apply pw_below_drewN | apply below_drew1 | refine below_set ?_ GE109.out | refine below_set ?_ GE128.out | refine below_set ?_ GE140.out) | exact HB.out))) : w.heap.size ≤ gb144)); have n8_ := Aside0.mk ((by rw [hg]; exact (below_size (by repeat (first | (with_reducible first | exact HB.out | apply below_alloc | apply pw_below_drewN | apply below_drew1 | refine below_set ?_ GE109.out | refine below_set ?_ GE128.out | refine below_set ?_ GE140.out) | exact HB.out))) : w.heap.size ≤ gb144)); have n9_ := Aside0.mk ((by rw [hg]; exact Nat.ne_of_lt (blk_lt (g := gb109) (o := .cells #[.int .i64 ((rd_T23 y105 (ji8)).f0), .int .i64 ((rd_T23 y105 (ji8)).f1), .string ((rd_T23 y105 (ji8)).f2)] 23 (0, 0)) (by (with_reducible repeat (first | refine blk_drewN ?_ _ | refine blk_drew ?_ | refine blk_alloc ?_ _)); exact BK109.out)) : gb109 ≠ gb144)); have n10_ := Aside0.mk ((by rw [hg]; exact Nat.ne_of_gt (blk_lt (g := gb109) (o := .cells #[.int .i64 ((rd_T23 y105 (ji8)).f0), .int .i64 ((rd_T23 y105 (ji8)).f1), .string ((rd_T23 y105 (ji8)).f2)] 23 (0, 0)) (by (with_reducible repeat (first | refine blk_drewN ?_ _ | refine blk_drew ?_ | refine blk_alloc ?_ _)); exact BK109.out)) : gb144 ≠ gb109)); have n11_ := Aside0.mk ((by rw [hg]; exact Nat.ne_of_lt (blk_lt (g := gb128) (o := .cells #[.int .i64 t124, .int .i64 t125, .string t126] 23 (0, 0)) (by (with_reducible repeat (first | refine blk_drewN ?_ _ | refine blk_drew ?_ | refine blk_alloc ?_ _)); exact BK128.out)) : gb128 ≠ gb144)); have n12_ := Aside0.mk ((by rw [hg]; exact Nat.ne_of_gt (blk_lt (g := gb128) (o := .cells #[.int .i64 t124, .int .i64 t125, .string t126] 23 (0, 0)) (by (with_reducible repeat (first | refine blk_drewN ?_ _ | refine blk_drew ?_ | refine blk_alloc ?_ _)); exact BK128.out)) : gb144 ≠ gb128)); have n13_ := Aside0.mk ((by rw [hg]; exact Nat.ne_of_lt (blk_lt (g := gb140) (o := .cells #[.int .i64 t136, .int .i64 t137, .string t138] 23 (0, 0)) (by (with_reducible repeat (first | refine blk_drewN ?_ _ | refine blk_drew ?_ | refine blk_alloc ?_ _)); exact BK140.out)) : gb140 ≠ gb144)); have n14_ := Aside0.mk ((by rw [hg]; exact Nat.ne_of_gt (blk_lt (g := gb140) (o := .cells #[.int .i64 t136, .int .i64 t137, .string t138] 23 (0, 0)) (by (with_reducible repeat (first | refine blk_drewN ?_ _ | refine blk_drew ?_ | refine blk_alloc ?_ _)); exact BK140.out)) : gb144 ≠ gb140)); clear HO134; clear HO143; clear BK109; clear BK128; clear BK140; clear HB; have HO134 := n0_; have HO143 := n1_; have BK109 := n2_; have BK128 := n3_; have BK140 := n4_; have HB := n5_; have BK144 := n6_; have GW144 := n7_; have GE144 := n8_; have NB109_144 := n9_; have NB144_109 := n10_; have NB128_144 := n11_; have NB144_128 := n12_; have NB140_144 := n13_; have NB144_140 := n14_; clear n0_ n1_ n2_ n3_ n4_ n5_ n6_ n7_ n8_ n9_ n10_ n11_ n12_ n13_ n14_; clear hb hbox hg; have hnb80 := NB144_109.out; have hnc80 := NB109_144.out; have hnb81 := NB144_128.out; have hnc81 := NB128_144.out; have hnb82 := NB144_140.out; have hnc82 := NB140_144.out; have hcz83_0 : w79.cell? ⟨gb144, 0, none⟩ = some (.int .i64 0) := (blk_cell BK144.out 0).trans rfl; have hcz83_1 : w79.cell? ⟨gb144, 1, none⟩ = some (.int .i64 0) := (blk_cell BK144.out 1).trans rfl; have hcz83_2 : w79.cell? ⟨gb144, 2, none⟩ = some (.string (⟨#[]⟩ : ByteArray)) := (blk_cell BK144.out 2).trans rfl; have hfz83_0 := blk_frozen BK144.out 0; have hfz83_1 := blk_frozen BK144.out 1; have hfz83_2 := blk_frozen BK144.out 2) | ((with_reducible refine gate_callee (f := 9) rfl ?_); refine goesL_ (some 91) rfl rfl Try.func9 (by kernel_rfl) rfl #[.agg #[.int .i64 0, .int .i64 16777216, .string (strOfNums y141)], .int .i64 1, .int .i64 1] rfl (by (try simp only [List.map_toArray, List.map_cons, List.map_nil]); first | done | rfl | (simp only [List.length_drop, List.length_take]; rfl)) ?_; (with_reducible refine (coder_Bit.calls 0 16777216 (strOfNums y141) 1 1 t145 t146 t147 t148 _ A21.out).mono ?_); rintro e w84 ⟨rfl, hb⟩; refine ⟨_, rfl, ?_⟩; have n0_ := Aside0.mk (Kd.R_below (by (with_reducible repeat (first | apply Kd.R_alloc | apply Kd.R_drewN | apply Kd.R_drew)); exact (Kd.R_mono (Kd.R_far (p := ⟨gb144, 2, none⟩) (Kd.R_far (p := ⟨gb144, 1, none⟩) (Kd.R_far (p := ⟨gb144, 0, none⟩) (Kd.R_types HO134.out BK144.out (by decide)) (fun _ hk => hk.2) (.int .i64 0)) (fun _ hk => hk.2) (.int .i64 16777216)) (fun _ hk => hk.2) (.string (strOfNums y141))) (fun _ h_ => h_.1))) hb); have n1_ := Aside0.mk (Kd.R_below (by (with_reducible repeat (first | apply Kd.R_alloc | apply Kd.R_drewN | apply Kd.R_drew)); exact (Kd.R_mono (Kd.R_far (p := ⟨gb144, 2, none⟩) (Kd.R_far (p := ⟨gb144, 1, none⟩) (Kd.R_far (p := ⟨gb144, 0, none⟩) (Kd.R_types HO143.out BK144.out (by decide)) (fun _ hk => hk.2) (.int .i64 0)) (fun _ hk => hk.2) (.int .i64 16777216)) (fun _ hk => hk.2) (.string (strOfNums y141))) (fun _ h_ => h_.1))) hb); have n2_ := Aside0.mk (blk_below (g := gb109) (o := .cells #[.int .i64 ((rd_T23 y105 (ji8)).f0), .int .i64 ((rd_T23 y105 (ji8)).f1), .string ((rd_T23 y105 (ji8)).f2)] 23 (0, 0)) (by (with_reducible repeat (first | refine blk_drewN ?_ _ | refine blk_drew ?_ | refine blk_alloc ?_ _)); refine blk_far ?_ NB109_144.out _; (with_reducible repeat (first | refine blk_drewN ?_ _ | refine blk_drew ?_ | refine blk_alloc ?_ _)); refine blk_far ?_ NB109_144.out _; (with_reducible repeat (first | refine blk_drewN ?_ _ | refine blk_drew ?_ | refine blk_alloc ?_ _)); refine blk_far ?_ NB109_144.out _; (with_reducible repeat (first | refine blk_drewN ?_ _ | refine blk_drew ?_ | refine blk_alloc ?_ _)); exact BK109.out) hb); have n3_ := Aside0.mk (blk_below (g := gb128) (o := .cells #[.int .i64 t124, .int .i64 t125, .string t126] 23 (0, 0)) (by (with_reducible repeat (first | refine blk_drewN ?_ _ | refine blk_drew ?_ | refine blk_alloc ?_ _)); refine blk_far ?_ NB128_144.out _; (with_reducible repeat (first | refine blk_drewN ?_ _ | refine blk_drew ?_ | refine blk_alloc ?_ _)); refine blk_far ?_ NB128_144.out _; (with_reducible repeat (first | refine blk_drewN ?_ _ | refine blk_drew ?_ | refine blk_alloc ?_ _)); refine blk_far ?_ NB128_144.out _; (with_reducible repeat (first | refine blk_drewN ?_ _ | refine blk_drew ?_ | refine blk_alloc ?_ _)); exact BK128.out) hb); have n4_ := Aside0.mk (blk_below (g := gb140) (o := .cells #[.int .i64 t136, .int .i64 t137, .string t138] 23 (0, 0)) (by (with_reducible repeat (first | refine blk_drewN ?_ _ | refine blk_drew ?_ | refine blk_alloc ?_ _)); refine blk_far ?_ NB140_144.out _; (with_reducible repeat (first | refine blk_drewN ?_ _ | refine blk_drew ?_ | refine blk_alloc ?_ _)); refine blk_far ?_ NB140_144.out _; (with_reducible repeat (first | refine blk_drewN ?_ _ | refine blk_drew ?_ | refine blk_alloc ?_ _)); refine blk_far ?_ NB140_144.out _; (with_reducible repeat (first | refine blk_drewN ?_ _ | refine blk_drew ?_ | refine blk_alloc ?_ _)); exact BK140.out) hb); have n5_ := Aside0.mk (blk_below (g := gb144) (o := .cells #[.int .i64 0, .int .i64 16777216, .string (strOfNums y141)] 23 (0, 0)) (by (with_reducible repeat (first | refine blk_drewN ?_ _ | refine blk_drew ?_ | refine blk_alloc ?_ _)); refine blk_put (cs := #[.int .i64 0, .int .i64 16777216, .string (⟨#[]⟩ : ByteArray)]) ?_ 2 _ rfl; (with_reducible repeat (first | refine blk_drewN ?_ _ | refine blk_drew ?_ | refine blk_alloc ?_ _)); refine blk_put (cs := #[.int .i64 0, .int .i64 0, .string (⟨#[]⟩ : ByteArray)]) ?_ 1 _ rfl; (with_reducible repeat (first | refine blk_drewN ?_ _ | refine blk_drew ?_ | refine blk_alloc ?_ _)); refine blk_put (cs := #[.int .i64 0, .int .i64 0, .string (⟨#[]⟩ : ByteArray)]) ?_ 0 _ rfl; (with_reducible repeat (first | refine blk_drewN ?_ _ | refine blk_drew ?_ | refine blk_alloc ?_ _)); exact BK144.out) hb); have n6_ := Aside0.mk (below_step (by repeat (first | (with_reducible first | exact HB.out | apply below_alloc | apply pw_below_drewN | apply below_drew1 | refine below_set ?_ GE109.out | refine below_set ?_ GE128.out | refine below_set ?_ GE140.out | refine below_set ?_ GE144.out) | exact HB.out)) hb); clear HO134; clear HO143; clear BK109; clear BK128; clear BK140; clear BK144; clear HB; have HO134 := n0_; have HO143 := n1_; have BK109 := n2_; have BK128 := n3_; have BK140 := n4_; have BK144 := n5_; have HB := n6_; clear n0_ n1_ n2_ n3_ n4_ n5_ n6_; (try clear hb); (try clear hb2); (try clear hk); (try clear hi)) | ((with_reducible refine gate_dst (N := 17) rfl ?_); refine box_event ?hg (N := 17) ?hd (cs := #[.int .i64 0, .int .i64 0, .string (⟨#[]⟩ : ByteArray)]) (t := 23) ?hr ?_; (case hd => rfl); (case hg => rfl); (case hr => first | (go_simp; done) | (go_simp; rfl)); intro gb149 hg w85 hbox hb; have n0_ := Aside0.mk (Kd.R_below (by (with_reducible repeat (first | apply Kd.R_alloc | apply Kd.R_drewN | apply Kd.R_drew)); exact HO134.out) hb); have n1_ := Aside0.mk (Kd.R_below (by (with_reducible repeat (first | apply Kd.R_alloc | apply Kd.R_drewN | apply Kd.R_drew)); exact HO143.out) hb); have n2_ := Aside0.mk (blk_below (g := gb109) (o := .cells #[.int .i64 ((rd_T23 y105 (ji8)).f0), .int .i64 ((rd_T23 y105 (ji8)).f1), .string ((rd_T23 y105 (ji8)).f2)] 23 (0, 0)) (by (with_reducible repeat (first | refine blk_drewN ?_ _ | refine blk_drew ?_ | refine blk_alloc ?_ _)); exact BK109.out) hb); have n3_ := Aside0.mk (blk_below (g := gb128) (o := .cells #[.int .i64 t124, .int .i64 t125, .string t126] 23 (0, 0)) (by (with_reducible repeat (first | refine blk_drewN ?_ _ | refine blk_drew ?_ | refine blk_alloc ?_ _)); exact BK128.out) hb); have n4_ := Aside0.mk (blk_below (g := gb140) (o := .cells #[.int .i64 t136, .int .i64 t137, .string t138] 23 (0, 0)) (by (with_reducible repeat (first | refine blk_drewN ?_ _ | refine blk_drew ?_ | refine blk_alloc ?_ _)); exact BK140.out) hb); have n5_ := Aside0.mk (blk_below (g := gb144) (o := .cells #[.int .i64 0, .int .i64 16777216, .string (strOfNums y141)] 23 (0, 0)) (by (with_reducible repeat (first | refine blk_drewN ?_ _ | refine blk_drew ?_ | refine blk_alloc ?_ _)); exact BK144.out) hb); have n6_ := Aside0.mk (below_step (by repeat (first | (with_reducible first | exact HB.out | apply below_alloc | apply pw_below_drewN | apply below_drew1 | refine below_set ?_ GE109.out | refine below_set ?_ GE128.out | refine below_set ?_ GE140.out | refine below_set ?_ GE144.out) | exact HB.out)) hb); have n7_ := Aside0.mk (hbox); have n8_ := Aside0.mk ((by rw [hg]; exact (below_size (by repeat (first | (with_reducible first | exact HB.out | apply below_alloc | apply pw_below_drewN | apply below_drew1 | refine below_set ?_ GE109.out | refine below_set ?_ GE128.out | refine below_set ?_ GE140.out | refine below_set ?_ GE144.out) | exact HB.out))) : w.heap.size ≤ gb149)); have n9_ := Aside0.mk ((by rw [hg]; exact (below_size (by repeat (first | (with_reducible first | exact HB.out | apply below_alloc | apply pw_below_drewN | apply below_drew1 | refine below_set ?_ GE109.out | refine below_set ?_ GE128.out | refine below_set ?_ GE140.out | refine below_set ?_ GE144.out) | exact HB.out))) : w.heap.size ≤ gb149)); have n10_ := Aside0.mk ((by rw [hg]; exact Nat.ne_of_lt (blk_lt (g := gb109) (o := .cells #[.int .i64 ((rd_T23 y105 (ji8)).f0), .int .i64 ((rd_T23 y105 (ji8)).f1), .string ((rd_T23 y105 (ji8)).f2)] 23 (0, 0)) (by (with_reducible repeat (first | refine blk_drewN ?_ _ | refine blk_drew ?_ | refine blk_alloc ?_ _)); exact BK109.out)) : gb109 ≠ gb149)); have n11_ := Aside0.mk ((by rw [hg]; exact Nat.ne_of_gt (blk_lt (g := gb109) (o := .cells #[.int .i64 ((rd_T23 y105 (ji8)).f0), .int .i64 ((rd_T23 y105 (ji8)).f1), .string ((rd_T23 y105 (ji8)).f2)] 23 (0, 0)) (by (with_reducible repeat (first | refine blk_drewN ?_ _ | refine blk_drew ?_ | refine blk_alloc ?_ _)); exact BK109.out)) : gb149 ≠ gb109)); have n12_ := Aside0.mk ((by rw [hg]; exact Nat.ne_of_lt (blk_lt (g := gb128) (o := .cells #[.int .i64 t124, .int .i64 t125, .string t126] 23 (0, 0)) (by (with_reducible repeat (first | refine blk_drewN ?_ _ | refine blk_drew ?_ | refine blk_alloc ?_ _)); exact BK128.out)) : gb128 ≠ gb149)); have n13_ := Aside0.mk ((by rw [hg]; exact Nat.ne_of_gt (blk_lt (g := gb128) (o := .cells #[.int .i64 t124, .int .i64 t125, .string t126] 23 (0, 0)) (by (with_reducible repeat (first | refine blk_drewN ?_ _ | refine blk_drew ?_ | refine blk_alloc ?_ _)); exact BK128.out)) : gb149 ≠ gb128)); have n14_ := Aside0.mk ((by rw [hg]; exact Nat.ne_of_lt (blk_lt (g := gb140) (o := .cells #[.int .i64 t136, .int .i64 t137, .string t138] 23 (0, 0)) (by (with_reducible repeat (first | refine blk_drewN ?_ _ | refine blk_drew ?_ | refine blk_alloc ?_ _)); exact BK140.out)) : gb140 ≠ gb149)); have n15_ := Aside0.mk ((by rw [hg]; exact Nat.ne_of_gt (blk_lt (g := gb140) (o := .cells #[.int .i64 t136, .int .i64 t137, .string t138] 23 (0, 0)) (by (with_reducible repeat (first | refine blk_drewN ?_ _ | refine blk_drew ?_ | refine blk_alloc ?_ _)); exact BK140.out)) : gb149 ≠ gb140)); have n16_ := Aside0.mk ((by rw [hg]; exact Nat.ne_of_lt (blk_lt (g := gb144) (o := .cells #[.int .i64 0, .int .i64 16777216, .string (strOfNums y141)] 23 (0, 0)) (by (with_reducible repeat (first | refine blk_drewN ?_ _ | refine blk_drew ?_ | refine blk_alloc ?_ _)); exact BK144.out)) : gb144 ≠ gb149)); have n17_ := Aside0.mk ((by rw [hg]; exact Nat.ne_of_gt (blk_lt (g := gb144) (o := .cells #[.int .i64 0, .int .i64 16777216, .string (strOfNums y141)] 23 (0, 0)) (by (with_reducible repeat (first | refine blk_drewN ?_ _ | refine blk_drew ?_ | refine blk_alloc ?_ _)); exact BK144.out)) : gb149 ≠ gb144)); clear HO134; clear HO143; clear BK109; clear BK128; clear BK140; clear BK144; clear HB; have HO134 := n0_; have HO143 := n1_; have BK109 := n2_; have BK128 := n3_; have BK140 := n4_; have BK144 := n5_; have HB := n6_; have BK149 := n7_; have GW149 := n8_; have GE149 := n9_; have NB109_149 := n10_; have NB149_109 := n11_; have NB128_149 := n12_; have NB149_128 := n13_; have NB140_149 := n14_; have NB149_140 := n15_; have NB144_149 := n16_; have NB149_144 := n17_; clear n0_ n1_ n2_ n3_ n4_ n5_ n6_ n7_ n8_ n9_ n10_ n11_ n12_ n13_ n14_ n15_ n16_ n17_; clear hb hbox hg; have hnb86 := NB149_109.out; have hnc86 := NB109_149.out; have hnb87 := NB149_128.out; have hnc87 := NB128_149.out; have hnb88 := NB149_140.out; have hnc88 := NB140_149.out; have hnb89 := NB149_144.out; have hnc89 := NB144_149.out; have hcz90_0 : w85.cell? ⟨gb149, 0, none⟩ = some (.int .i64 0) := (blk_cell BK149.out 0).trans rfl; have hcz90_1 : w85.cell? ⟨gb149, 1, none⟩ = some (.int .i64 0) := (blk_cell BK149.out 1).trans rfl; have hcz90_2 : w85.cell? ⟨gb149, 2, none⟩ = some (.string (⟨#[]⟩ : ByteArray)) := (blk_cell BK149.out 2).trans rfl; have hfz90_0 := blk_frozen BK149.out 0; have hfz90_1 := blk_frozen BK149.out 1; have hfz90_2 := blk_frozen BK149.out 2; have hnb91 := NB109_128.out; have hnc91 := NB128_109.out; have hnb92 := NB109_140.out; have hnc92 := NB140_109.out; have hcz93_0 : w85.cell? ⟨gb109, 0, none⟩ = some (.int .i64 ((rd_T23 y105 (ji8)).f0)) := (blk_cell BK109.out 0).trans rfl; have hcz93_1 : w85.cell? ⟨gb109, 1, none⟩ = some (.int .i64 ((rd_T23 y105 (ji8)).f1)) := (blk_cell BK109.out 1).trans rfl; have hcz93_2 : w85.cell? ⟨gb109, 2, none⟩ = some (.string ((rd_T23 y105 (ji8)).f2)) := (blk_cell BK109.out 2).trans rfl; have hfz93_0 := blk_frozen BK109.out 0; have hfz93_1 := blk_frozen BK109.out 1; have hfz93_2 := blk_frozen BK109.out 2) | ((with_reducible refine gate_callee (f := 14) rfl ?_); refine goesL_ (some 95) rfl rfl Try.func14 (by kernel_rfl) rfl #[.agg #[.int .i64 ((rd_T23 y105 (ji8)).f0), .int .i64 ((rd_T23 y105 (ji8)).f1), .string ((rd_T23 y105 (ji8)).f2)]] rfl (by (try simp only [List.map_toArray, List.map_cons, List.map_nil]); first | done | (simp only [hji8]; rfl) | rfl | (simp only [List.length_drop, List.length_take]; rfl)) ?_; (with_reducible refine (coder_May.calls ((rd_T23 y105 (ji8)).f0) ((rd_T23 y105 (ji8)).f1) ((rd_T23 y105 (ji8)).f2) false _ A22.out).mono ?_); rintro e w94 ⟨rfl, hb⟩; refine ⟨_, rfl, ?_⟩; have n0_ := Aside0.mk (Kd.R_below (by (with_reducible repeat (first | apply Kd.R_alloc | apply Kd.R_drewN | apply Kd.R_drew)); exact (Kd.R_mono (Kd.R_far (p := ⟨gb149, 2, none⟩) (Kd.R_far (p := ⟨gb149, 1, none⟩) (Kd.R_far (p := ⟨gb149, 0, none⟩) (Kd.R_types HO134.out BK149.out (by decide)) (fun _ hk => hk.2) (.int .i64 t145)) (fun _ hk => hk.2) (.int .i64 t146)) (fun _ hk => hk.2) (.string t147)) (fun _ h_ => h_.1))) hb); have n1_ := Aside0.mk (Kd.R_below (by (with_reducible repeat (first | apply Kd.R_alloc | apply Kd.R_drewN | apply Kd.R_drew)); exact (Kd.R_mono (Kd.R_far (p := ⟨gb149, 2, none⟩) (Kd.R_far (p := ⟨gb149, 1, none⟩) (Kd.R_far (p := ⟨gb149, 0, none⟩) (Kd.R_types HO143.out BK149.out (by decide)) (fun _ hk => hk.2) (.int .i64 t145)) (fun _ hk => hk.2) (.int .i64 t146)) (fun _ hk => hk.2) (.string t147)) (fun _ h_ => h_.1))) hb); have n2_ := Aside0.mk (blk_below (g := gb109) (o := .cells #[.int .i64 ((rd_T23 y105 (ji8)).f0), .int .i64 ((rd_T23 y105 (ji8)).f1), .string ((rd_T23 y105 (ji8)).f2)] 23 (0, 0)) (by (with_reducible repeat (first | refine blk_drewN ?_ _ | refine blk_drew ?_ | refine blk_alloc ?_ _)); refine blk_far ?_ NB109_149.out _; (with_reducible repeat (first | refine blk_drewN ?_ _ | refine blk_drew ?_ | refine blk_alloc ?_ _)); refine blk_far ?_ NB109_149.out _; (with_reducible repeat (first | refine blk_drewN ?_ _ | refine blk_drew ?_ | refine blk_alloc ?_ _)); refine blk_far ?_ NB109_149.out _; (with_reducible repeat (first | refine blk_drewN ?_ _ | refine blk_drew ?_ | refine blk_alloc ?_ _)); exact BK109.out) hb); have n3_ := Aside0.mk (blk_below (g := gb128) (o := .cells #[.int .i64 t124, .int .i64 t125, .string t126] 23 (0, 0)) (by (with_reducible repeat (first | refine blk_drewN ?_ _ | refine blk_drew ?_ | refine blk_alloc ?_ _)); refine blk_far ?_ NB128_149.out _; (with_reducible repeat (first | refine blk_drewN ?_ _ | refine blk_drew ?_ | refine blk_alloc ?_ _)); refine blk_far ?_ NB128_149.out _; (with_reducible repeat (first | refine blk_drewN ?_ _ | refine blk_drew ?_ | refine blk_alloc ?_ _)); refine blk_far ?_ NB128_149.out _; (with_reducible repeat (first | refine blk_drewN ?_ _ | refine blk_drew ?_ | refine blk_alloc ?_ _)); exact BK128.out) hb); have n4_ := Aside0.mk (blk_below (g := gb140) (o := .cells #[.int .i64 t136, .int .i64 t137, .string t138] 23 (0, 0)) (by (with_reducible repeat (first | refine blk_drewN ?_ _ | refine blk_drew ?_ | refine blk_alloc ?_ _)); refine blk_far ?_ NB140_149.out _; (with_reducible repeat (first | refine blk_drewN ?_ _ | refine blk_drew ?_ | refine blk_alloc ?_ _)); refine blk_far ?_ NB140_149.out _; (with_reducible repeat (first | refine blk_drewN ?_ _ | refine blk_drew ?_ | refine blk_alloc ?_ _)); refine blk_far ?_ NB140_149.out _; (with_reducible repeat (first | refine blk_drewN ?_ _ | refine blk_drew ?_ | refine blk_alloc ?_ _)); exact BK140.out) hb); have n5_ := Aside0.mk (blk_below (g := gb144) (o := .cells #[.int .i64 0, .int .i64 16777216, .string (strOfNums y141)] 23 (0, 0)) (by (with_reducible repeat (first | refine blk_drewN ?_ _ | refine blk_drew ?_ | refine blk_alloc ?_ _)); refine blk_far ?_ NB144_149.out _; (with_reducible repeat (first | refine blk_drewN ?_ _ | refine blk_drew ?_ | refine blk_alloc ?_ _)); refine blk_far ?_ NB144_149.out _; (with_reducible repeat (first | refine blk_drewN ?_ _ | refine blk_drew ?_ | refine blk_alloc ?_ _)); refine blk_far ?_ NB144_149.out _; (with_reducible repeat (first | refine blk_drewN ?_ _ | refine blk_drew ?_ | refine blk_alloc ?_ _)); exact BK144.out) hb); have n6_ := Aside0.mk (blk_below (g := gb149) (o := .cells #[.int .i64 t145, .int .i64 t146, .string t147] 23 (0, 0)) (by (with_reducible repeat (first | refine blk_drewN ?_ _ | refine blk_drew ?_ | refine blk_alloc ?_ _)); refine blk_put (cs := #[.int .i64 t145, .int .i64 t146, .string (⟨#[]⟩ : ByteArray)]) ?_ 2 _ rfl; (with_reducible repeat (first | refine blk_drewN ?_ _ | refine blk_drew ?_ | refine blk_alloc ?_ _)); refine blk_put (cs := #[.int .i64 t145, .int .i64 0, .string (⟨#[]⟩ : ByteArray)]) ?_ 1 _ rfl; (with_reducible repeat (first | refine blk_drewN ?_ _ | refine blk_drew ?_ | refine blk_alloc ?_ _)); refine blk_put (cs := #[.int .i64 0, .int .i64 0, .string (⟨#[]⟩ : ByteArray)]) ?_ 0 _ rfl; (with_reducible repeat (first | refine blk_drewN ?_ _ | refine blk_drew ?_ | refine blk_alloc ?_ _)); exact BK149.out) hb); have n7_ := Aside0.mk (below_step (by repeat (first | (with_reducible first | exact HB.out | apply below_alloc | apply pw_below_drewN | apply below_drew1 | refine below_set ?_ GE109.out | refine below_set ?_ GE128.out | refine below_set ?_ GE140.out | refine below_set ?_ GE144.out | refine below_set ?_ GE149.out) | exact HB.out)) hb); clear HO134; clear HO143; clear BK109; clear BK128; clear BK140; clear BK144; clear BK149; clear HB; have HO134 := n0_; have HO143 := n1_; have BK109 := n2_; have BK128 := n3_; have BK140 := n4_; have BK144 := n5_; have BK149 := n6_; have HB := n7_; clear n0_ n1_ n2_ n3_ n4_ n5_ n6_ n7_; (try clear hb); (try clear hb2); (try clear hk); (try clear hi); have hcz95_0 : w94.cell? ⟨gb144, 0, none⟩ = some (.int .i64 0) := (blk_cell BK144.out 0).trans rfl; have hcz95_1 : w94.cell? ⟨gb144, 1, none⟩ = some (.int .i64 16777216) := (blk_cell BK144.out 1).trans rfl; have hcz95_2 : w94.cell? ⟨gb144, 2, none⟩ = some (.string (strOfNums y141)) := (blk_cell BK144.out 2).trans rfl; have hfz95_0 := blk_frozen BK144.out 0; have hfz95_1 := blk_frozen BK144.out 1; have hfz95_2 := blk_frozen BK144.out 2) | (go_at_call 14; (with_reducible refine (coder_May.calls 0 16777216 (strOfNums y141) true _ A24.out).mono ?_); rintro e w96 ⟨rfl, hb⟩; have n0_ := Aside0.mk (Kd.R_below (by (with_reducible repeat (first | apply Kd.R_alloc | apply Kd.R_drewN | apply Kd.R_drew)); exact HO134.out) hb); have n1_ := Aside0.mk (Kd.R_below (by (with_reducible repeat (first | apply Kd.R_alloc | apply Kd.R_drewN | apply Kd.R_drew)); exact HO143.out) hb); have n2_ := Aside0.mk (blk_below (g := gb109) (o := .cells #[.int .i64 ((rd_T23 y105 (ji8)).f0), .int .i64 ((rd_T23 y105 (ji8)).f1), .string ((rd_T23 y105 (ji8)).f2)] 23 (0, 0)) (by (with_reducible repeat (first | refine blk_drewN ?_ _ | refine blk_drew ?_ | refine blk_alloc ?_ _)); exact BK109.out) hb); have n3_ := Aside0.mk (blk_below (g := gb128) (o := .cells #[.int .i64 t124, .int .i64 t125, .string t126] 23 (0, 0)) (by (with_reducible repeat (first | refine blk_drewN ?_ _ | refine blk_drew ?_ | refine blk_alloc ?_ _)); exact BK128.out) hb); have n4_ := Aside0.mk (blk_below (g := gb140) (o := .cells #[.int .i64 t136, .int .i64 t137, .string t138] 23 (0, 0)) (by (with_reducible repeat (first | refine blk_drewN ?_ _ | refine blk_drew ?_ | refine blk_alloc ?_ _)); exact BK140.out) hb); have n5_ := Aside0.mk (blk_below (g := gb144) (o := .cells #[.int .i64 0, .int .i64 16777216, .string (strOfNums y141)] 23 (0, 0)) (by (with_reducible repeat (first | refine blk_drewN ?_ _ | refine blk_drew ?_ | refine blk_alloc ?_ _)); exact BK144.out) hb); have n6_ := Aside0.mk (blk_below (g := gb149) (o := .cells #[.int .i64 t145, .int .i64 t146, .string t147] 23 (0, 0)) (by (with_reducible repeat (first | refine blk_drewN ?_ _ | refine blk_drew ?_ | refine blk_alloc ?_ _)); exact BK149.out) hb); have n7_ := Aside0.mk (below_step (by repeat (first | (with_reducible first | exact HB.out | apply below_alloc | apply pw_below_drewN | apply below_drew1 | refine below_set ?_ GE109.out | refine below_set ?_ GE128.out | refine below_set ?_ GE140.out | refine below_set ?_ GE144.out | refine below_set ?_ GE149.out) | exact HB.out)) hb); clear HO134; clear HO143; clear BK109; clear BK128; clear BK140; clear BK144; clear BK149; clear HB; have HO134 := n0_; have HO143 := n1_; have BK109 := n2_; have BK128 := n3_; have BK140 := n4_; have BK144 := n5_; have BK149 := n6_; have HB := n7_; clear n0_ n1_ n2_ n3_ n4_ n5_ n6_ n7_; (try clear hb); (try clear hb2); (try clear hk); (try clear hi)) | (go_at_call 13; (with_reducible refine (descantlaw0_Num.calls t113 t152 _ A26.out).mono ?_); rintro e w' ⟨rfl, ⟨nd, rfl⟩⟩) | (go_at_call 13; (with_reducible refine (descantlaw0_Num.calls t116 t153 _ A29.out).mono ?_); rintro e w' ⟨rfl, ⟨nd, rfl⟩⟩) | (go_at_call 13; (with_reducible refine (descantlaw0_Num.calls t127 t154 _ A31.out).mono ?_); rintro e w' ⟨rfl, ⟨nd, rfl⟩⟩) | (go_at_call 13; (with_reducible refine (descantlaw0_Num.calls t139 t155 _ A33.out).mono ?_); rintro e w' ⟨rfl, ⟨nd, rfl⟩⟩) | (go_at_call 13; (with_reducible refine (descantlaw0_Num.calls t148 t156 _ A35.out).mono ?_); rintro e w' ⟨rfl, ⟨nd, rfl⟩⟩))
        go_ret
        exact ⟨by first | rfl | (simp [errW_none, errW_some] <;> rfl) | (simp only [← hji5, ← hji8]; first | rfl | (simp [errW_none, errW_some] <;> rfl)) | (simp [*, errW_none, errW_some] <;> rfl), by repeat (first | (with_reducible first | exact HB.out | apply below_alloc | apply pw_below_drewN | apply below_drew1 | refine below_set ?_ GE109.out | refine below_set ?_ GE128.out | refine below_set ?_ GE140.out | refine below_set ?_ GE144.out | refine below_set ?_ GE149.out) | exact HB.out)⟩
      intro hJ0_5_9_10_14
      refine join_ (σ := Value × Addr) 3 #[true, true, true, true, true, true, true, true, true, true, true, true, true, true, false, false, false] (fun s_ => [(73, .agg #[.int .i64 t129, .int .i64 t130, .string t131]), (78, s_.1), (82, .int .i64 (rd y132 (Go.bits .and .i64 a0 1))), (83, .tuple #[.agg #[.int .i64 t136, .int .i64 t137, .string t138], .int .i64 t139]), (81, .pointer (some (s_.2.add ((Go.bits .and .i64 a0 1)).toNat))), (72, .tuple #[.agg #[.int .i64 t136, .int .i64 t137, .string t138], .int .i64 t139]), (84, .agg #[.int .i64 t136, .int .i64 t137, .string t138]), (85, .int .i64 t139)]) (fun s_ w' => (Kd.R (Kd.int .i64) 3 w' w.heap.size (fun _ => True) s_.1 y132) ∧ (∃ c_, (s_.1 : Value) = .slice (some s_.2) y132.length c_) ∧ (w'.heap[gb109]? = some (.cells #[.int .i64 ((rd_T23 y105 (ji8)).f0), .int .i64 ((rd_T23 y105 (ji8)).f1), .string ((rd_T23 y105 (ji8)).f2)] 23 (0, 0))) ∧ (w'.heap[gb128]? = some (.cells #[.int .i64 t124, .int .i64 t125, .string t126] 23 (0, 0))) ∧ (Below w.heap.size w w')) ?_ ?_
      · · skip
          rintro ⟨v133, adz_v133⟩ w70 ⟨h0_, h1_, h2_, h3_, h4_⟩
          have n0_ : Aside0 (Kd.R (Kd.int .i64) 3 w70 w.heap.size (fun _ => True) v133 y132) := ⟨h0_⟩
          have n1_ : Aside0 (∃ c_, (v133 : Value) = .slice (some adz_v133) y132.length c_) := ⟨h1_⟩
          have n2_ : Aside0 (w70.heap[gb109]? = some (.cells #[.int .i64 ((rd_T23 y105 (ji8)).f0), .int .i64 ((rd_T23 y105 (ji8)).f1), .string ((rd_T23 y105 (ji8)).f2)] 23 (0, 0))) := ⟨h2_⟩
          have n3_ : Aside0 (w70.heap[gb128]? = some (.cells #[.int .i64 t124, .int .i64 t125, .string t126] 23 (0, 0))) := ⟨h3_⟩
          have n4_ : Aside0 (Below w.heap.size w w70) := ⟨h4_⟩
          clear BK109
          clear BK128
          clear HB
          clear h0_ h1_ h2_ h3_ h4_
          have HO134 := n0_
          have HA_HO134 := n1_
          have BK109 := n2_
          have BK128 := n3_
          have HB := n4_
          clear n0_ n1_ n2_ n3_ n4_
          have hHeld := trivial
          obtain ⟨co71, eo71⟩ := HA_HO134.out
          clear HA_HO134
          subst eo71
          refine norm_ (a' := ?_) ?_ ?_
          rotate_left
          · simp only [putAll, Act.put, List.setIfInBounds_toArray, List.set_cons_zero, List.set_cons_succ]
            rfl
          refine one_ (i := 14) (N := some 14) #[true, true, true, true, true, true, true, true, true, true, true, true, true, true, true, false, false] rfl rfl (one_of HT_.out (by kernel_rfl)) (by decide) (fun K hK => ?_)
          refine box_step ?hg (N := 14) ?hd (cs := #[.int .i64 0, .int .i64 0, .string (⟨#[]⟩ : ByteArray)]) (t := 23) ?hr ?_; (case hd => rfl); (case hg => rfl); (case hr => first | (go_simp; done) | (go_simp; rfl))
          intro gb140 hg w72 hbox hb
          have n0_ := Aside0.mk (Kd.R_below HO134.out hb)
          have n1_ := Aside0.mk (blk_below (g := gb109) (o := .cells #[.int .i64 ((rd_T23 y105 (ji8)).f0), .int .i64 ((rd_T23 y105 (ji8)).f1), .string ((rd_T23 y105 (ji8)).f2)] 23 (0, 0)) BK109.out hb)
          have n2_ := Aside0.mk (blk_below (g := gb128) (o := .cells #[.int .i64 t124, .int .i64 t125, .string t126] 23 (0, 0)) BK128.out hb)
          have n3_ := Aside0.mk (below_step HB.out hb)
          have n4_ := Aside0.mk (hbox)
          have n5_ := Aside0.mk ((by rw [hg]; exact (below_size HB.out) : w.heap.size ≤ gb140))
          have n6_ := Aside0.mk ((by rw [hg]; exact (below_size HB.out) : w.heap.size ≤ gb140))
          have n7_ := Aside0.mk ((by rw [hg]; exact Nat.ne_of_lt (blk_lt (g := gb109) (o := .cells #[.int .i64 ((rd_T23 y105 (ji8)).f0), .int .i64 ((rd_T23 y105 (ji8)).f1), .string ((rd_T23 y105 (ji8)).f2)] 23 (0, 0)) BK109.out) : gb109 ≠ gb140))
          have n8_ := Aside0.mk ((by rw [hg]; exact Nat.ne_of_gt (blk_lt (g := gb109) (o := .cells #[.int .i64 ((rd_T23 y105 (ji8)).f0), .int .i64 ((rd_T23 y105 (ji8)).f1), .string ((rd_T23 y105 (ji8)).f2)] 23 (0, 0)) BK109.out) : gb140 ≠ gb109))
          have n9_ := Aside0.mk ((by rw [hg]; exact Nat.ne_of_lt (blk_lt (g := gb128) (o := .cells #[.int .i64 t124, .int .i64 t125, .string t126] 23 (0, 0)) BK128.out) : gb128 ≠ gb140))
          have n10_ := Aside0.mk ((by rw [hg]; exact Nat.ne_of_gt (blk_lt (g := gb128) (o := .cells #[.int .i64 t124, .int .i64 t125, .string t126] 23 (0, 0)) BK128.out) : gb140 ≠ gb128))
          clear HO134
          clear BK109
          clear BK128
          clear HB
          have HO134 := n0_
          have BK109 := n1_
          have BK128 := n2_
          have HB := n3_
          have BK140 := n4_
          have GW140 := n5_
          have GE140 := n6_
          have NB109_140 := n7_
          have NB140_109 := n8_
          have NB128_140 := n9_
          have NB140_128 := n10_
          clear n0_ n1_ n2_ n3_ n4_ n5_ n6_ n7_ n8_ n9_ n10_
          clear hb hbox hg
          refine hK.out _ _ trivial (fun hHeld => ?_)
          clear hK K
          refine norm_ (a' := ?_) ?_ ?_
          rotate_left
          · show Act.put _ (some 14) _ = _
            simp only [Act.put, List.setIfInBounds_toArray, List.set_cons_zero, List.set_cons_succ, i64_w, i32_w]
            rfl
          exact norm_ (by first | (simp only [putAll, Act.put, List.setIfInBounds_toArray, List.set_cons_zero, List.set_cons_succ]; done) | (simp only [putAll, Act.put, List.setIfInBounds_toArray, List.set_cons_zero, List.set_cons_succ]; rfl)) (hJ0_5_9_10_14 (.slice (some adz_v133) y132.length co71, adz_v133, gb140) _ ⟨HO134.out, ⟨_, rfl⟩, BK109.out, BK128.out, BK140.out, GW140.out, GE140.out, NB109_140.out, NB140_109.out, NB128_140.out, NB140_128.out, HB.out⟩)
      intro hJ0_5_9_10
      refine join_ (σ := Value × Addr × Nat) 6 #[true, true, true, true, true, true, true, true, true, true, false, false, false, false, true, false, false] (fun s_ => [(73, .agg #[.int .i64 t129, .int .i64 t130, .string t131]), (78, s_.1), (82, .int .i64 (rd y132 (Go.bits .and .i64 a0 1))), (14, .pointer (some ⟨s_.2.2, 0, none⟩)), (81, .pointer (some (s_.2.1.add ((Go.bits .and .i64 a0 1)).toNat)))]) (fun s_ w' => (Kd.R (Kd.int .i64) 3 w' w.heap.size (fun _ => True) s_.1 y132) ∧ (∃ c_, (s_.1 : Value) = .slice (some s_.2.1) y132.length c_) ∧ (w'.heap[gb109]? = some (.cells #[.int .i64 ((rd_T23 y105 (ji8)).f0), .int .i64 ((rd_T23 y105 (ji8)).f1), .string ((rd_T23 y105 (ji8)).f2)] 23 (0, 0))) ∧ (w'.heap[gb128]? = some (.cells #[.int .i64 t124, .int .i64 t125, .string t126] 23 (0, 0))) ∧ (w'.heap[s_.2.2]? = some (.cells #[.int .i64 0, .int .i64 0, .string (⟨#[]⟩ : ByteArray)] 23 (0, 0))) ∧ (w.heap.size ≤ s_.2.2) ∧ (w.heap.size ≤ s_.2.2) ∧ (gb109 ≠ s_.2.2) ∧ (s_.2.2 ≠ gb109) ∧ (gb128 ≠ s_.2.2) ∧ (s_.2.2 ≠ gb128) ∧ (Below w.heap.size w w')) ?_ ?_
      · · skip
          rintro ⟨v133, adz_v133, gb140⟩ w70 ⟨h0_, h1_, h2_, h3_, h4_, h5_, h6_, h7_, h8_, h9_, h10_, h11_⟩
          have n0_ : Aside0 (Kd.R (Kd.int .i64) 3 w70 w.heap.size (fun _ => True) v133 y132) := ⟨h0_⟩
          have n1_ : Aside0 (∃ c_, (v133 : Value) = .slice (some adz_v133) y132.length c_) := ⟨h1_⟩
          have n2_ : Aside0 (w70.heap[gb109]? = some (.cells #[.int .i64 ((rd_T23 y105 (ji8)).f0), .int .i64 ((rd_T23 y105 (ji8)).f1), .string ((rd_T23 y105 (ji8)).f2)] 23 (0, 0))) := ⟨h2_⟩
          have n3_ : Aside0 (w70.heap[gb128]? = some (.cells #[.int .i64 t124, .int .i64 t125, .string t126] 23 (0, 0))) := ⟨h3_⟩
          have n4_ : Aside0 (w70.heap[gb140]? = some (.cells #[.int .i64 0, .int .i64 0, .string (⟨#[]⟩ : ByteArray)] 23 (0, 0))) := ⟨h4_⟩
          have n5_ : Aside0 (w.heap.size ≤ gb140) := ⟨h5_⟩
          have n6_ : Aside0 (w.heap.size ≤ gb140) := ⟨h6_⟩
          have n7_ : Aside0 (gb109 ≠ gb140) := ⟨h7_⟩
          have n8_ : Aside0 (gb140 ≠ gb109) := ⟨h8_⟩
          have n9_ : Aside0 (gb128 ≠ gb140) := ⟨h9_⟩
          have n10_ : Aside0 (gb140 ≠ gb128) := ⟨h10_⟩
          have n11_ : Aside0 (Below w.heap.size w w70) := ⟨h11_⟩
          clear BK109
          clear BK128
          clear HB
          clear h0_ h1_ h2_ h3_ h4_ h5_ h6_ h7_ h8_ h9_ h10_ h11_
          have HO134 := n0_
          have HA_HO134 := n1_
          have BK109 := n2_
          have BK128 := n3_
          have BK140 := n4_
          have GW140 := n5_
          have GE140 := n6_
          have NB109_140 := n7_
          have NB140_109 := n8_
          have NB128_140 := n9_
          have NB140_128 := n10_
          have HB := n11_
          clear n0_ n1_ n2_ n3_ n4_ n5_ n6_ n7_ n8_ n9_ n10_ n11_
          have hHeld := trivial
          obtain ⟨co71, eo71⟩ := HA_HO134.out
          clear HA_HO134
          subst eo71
          refine norm_ (a' := ?_) ?_ ?_
          rotate_left
          · simp only [putAll, Act.put, List.setIfInBounds_toArray, List.set_cons_zero, List.set_cons_succ]
            rfl
          refine one_ (i := 10) (N := some 83) #[true, true, true, true, true, true, true, true, true, true, true, false, false, false, true, false, false] rfl rfl (one_of HT_.out (by kernel_rfl)) (by decide) (fun K hK => ?_)
          refine goes_ Try.func9 (by kernel_rfl) rfl #[.agg #[.int .i64 t129, .int .i64 t130, .string t131], .int .i64 1, .int .i64 (rd y132 (Go.bits .and .i64 a0 1))] (by rfl) rfl rfl (by (try simp only [List.map_toArray, List.map_cons, List.map_nil]); first | done | rfl | (simp only [List.length_drop, List.length_take]; rfl)) ?_
          with_reducible refine (coder_Bit.calls t129 t130 t131 1 (rd y132 (Go.bits .and .i64 a0 1)) t136 t137 t138 t139 _ A19.out).mono ?_
          rintro e w72 ⟨rfl, hb⟩
          refine ⟨_, rfl, ?_⟩
          have n0_ := Aside0.mk (Kd.R_below HO134.out hb)
          have n1_ := Aside0.mk (blk_below (g := gb109) (o := .cells #[.int .i64 ((rd_T23 y105 (ji8)).f0), .int .i64 ((rd_T23 y105 (ji8)).f1), .string ((rd_T23 y105 (ji8)).f2)] 23 (0, 0)) BK109.out hb)
          have n2_ := Aside0.mk (blk_below (g := gb128) (o := .cells #[.int .i64 t124, .int .i64 t125, .string t126] 23 (0, 0)) BK128.out hb)
          have n3_ := Aside0.mk (blk_below (g := gb140) (o := .cells #[.int .i64 0, .int .i64 0, .string (⟨#[]⟩ : ByteArray)] 23 (0, 0)) BK140.out hb)
          have n4_ := Aside0.mk (below_step HB.out hb)
          clear HO134
          clear BK109
          clear BK128
          clear BK140
          clear HB
          have HO134 := n0_
          have BK109 := n1_
          have BK128 := n2_
          have BK140 := n3_
          have HB := n4_
          clear n0_ n1_ n2_ n3_ n4_
          (try clear hb)
          (try clear hb2)
          (try clear hk)
          (try clear hi)
          refine hK.out _ _ trivial (fun hHeld => ?_)
          clear hK K
          refine norm_ (a' := ?_) ?_ ?_
          rotate_left
          · show Act.put _ (some 83) _ = _
            simp only [Act.put, List.setIfInBounds_toArray, List.set_cons_zero, List.set_cons_succ, i64_w, i32_w]
            rfl
          refine pure_ (i := 11) (N := some 72) (v := ?_) (a' := ?_) #[true, true, true, true, true, true, true, true, true, true, true, true, false, false, true, false, false] rfl rfl (any_of HT_.out (by kernel_rfl)) (fun _ _ _ h => h) (Or.inl ⟨by rfl, ?_⟩) ?_ ?_
          rotate_left
          · intro w'
            go_simp
            with_reducible rfl
          rotate_left
          · simp only [Act.put, List.setIfInBounds_toArray, List.set_cons_zero, List.set_cons_succ, i64_w, i32_w]
            rfl
          refine pure_ (i := 12) (N := some 84) (v := ?_) (a' := ?_) #[true, true, true, true, true, true, true, true, true, true, true, true, true, false, true, false, false] rfl rfl (any_of HT_.out (by kernel_rfl)) (fun _ _ _ h => h) (Or.inl ⟨by rfl, ?_⟩) ?_ ?_
          rotate_left
          · intro w'
            go_simp
            with_reducible rfl
          rotate_left
          · simp only [Act.put, List.setIfInBounds_toArray, List.set_cons_zero, List.set_cons_succ, i64_w, i32_w]
            rfl
          refine pure_ (i := 13) (N := some 85) (v := ?_) (a' := ?_) #[true, true, true, true, true, true, true, true, true, true, true, true, true, true, true, false, false] rfl rfl (any_of HT_.out (by kernel_rfl)) (fun _ _ _ h => h) (Or.inl ⟨by rfl, ?_⟩) ?_ ?_
          rotate_left
          · intro w'
            go_simp
            with_reducible rfl
          rotate_left
          · simp only [Act.put, List.setIfInBounds_toArray, List.set_cons_zero, List.set_cons_succ, i64_w, i32_w]
            rfl
          exact norm_ (by first | (simp only [putAll, Act.put, List.setIfInBounds_toArray, List.set_cons_zero, List.set_cons_succ]; done) | (simp only [putAll, Act.put, List.setIfInBounds_toArray, List.set_cons_zero, List.set_cons_succ]; rfl)) (hJ0_5_9_10_14 (.slice (some adz_v133) y132.length co71, adz_v133, gb140) _ ⟨HO134.out, ⟨_, rfl⟩, BK109.out, BK128.out, BK140.out, GW140.out, GE140.out, NB109_140.out, NB140_109.out, NB128_140.out, NB140_128.out, HB.out⟩)
      intro hJ0_5_9_14
      refine join_ (σ := Value × Addr) 7 #[true, true, true, true, true, true, true, true, true, true, false, false, false, false, false, false, false] (fun s_ => [(73, .agg #[.int .i64 t129, .int .i64 t130, .string t131]), (78, s_.1), (82, .int .i64 (rd y132 (Go.bits .and .i64 a0 1))), (81, .pointer (some (s_.2.add ((Go.bits .and .i64 a0 1)).toNat)))]) (fun s_ w' => (Kd.R (Kd.int .i64) 3 w' w.heap.size (fun _ => True) s_.1 y132) ∧ (∃ c_, (s_.1 : Value) = .slice (some s_.2) y132.length c_) ∧ (w'.heap[gb109]? = some (.cells #[.int .i64 ((rd_T23 y105 (ji8)).f0), .int .i64 ((rd_T23 y105 (ji8)).f1), .string ((rd_T23 y105 (ji8)).f2)] 23 (0, 0))) ∧ (w'.heap[gb128]? = some (.cells #[.int .i64 t124, .int .i64 t125, .string t126] 23 (0, 0))) ∧ (Below w.heap.size w w')) ?_ ?_
      · · skip
          rintro ⟨v133, adz_v133⟩ w69 ⟨h0_, h1_, h2_, h3_, h4_⟩
          have n0_ : Aside0 (Kd.R (Kd.int .i64) 3 w69 w.heap.size (fun _ => True) v133 y132) := ⟨h0_⟩
          have n1_ : Aside0 (∃ c_, (v133 : Value) = .slice (some adz_v133) y132.length c_) := ⟨h1_⟩
          have n2_ : Aside0 (w69.heap[gb109]? = some (.cells #[.int .i64 ((rd_T23 y105 (ji8)).f0), .int .i64 ((rd_T23 y105 (ji8)).f1), .string ((rd_T23 y105 (ji8)).f2)] 23 (0, 0))) := ⟨h2_⟩
          have n3_ : Aside0 (w69.heap[gb128]? = some (.cells #[.int .i64 t124, .int .i64 t125, .string t126] 23 (0, 0))) := ⟨h3_⟩
          have n4_ : Aside0 (Below w.heap.size w w69) := ⟨h4_⟩
          clear BK109
          clear BK128
          clear HB
          clear h0_ h1_ h2_ h3_ h4_
          have HO134 := n0_
          have HA_HO134 := n1_
          have BK109 := n2_
          have BK128 := n3_
          have HB := n4_
          clear n0_ n1_ n2_ n3_ n4_
          have hHeld := trivial
          obtain ⟨co70, eo70⟩ := HA_HO134.out
          clear HA_HO134
          subst eo70
          refine norm_ (a' := ?_) ?_ ?_
          rotate_left
          · simp only [putAll, Act.put, List.setIfInBounds_toArray, List.set_cons_zero, List.set_cons_succ]
            rfl
          refine two_ (i := 10) (j := 14) (Ni := some 83) (Nj := some 14) #[true, true, true, true, true, true, true, true, true, true, true, false, false, false, false, false, false] #[true, true, true, true, true, true, true, true, true, true, false, false, false, false, true, false, false] rfl rfl rfl rfl (two_of HT_.out (by kernel_rfl)) (by decide) (by decide) (fun K hK => ?_) (fun K hK => ?_)
          · skip
            refine goes_ Try.func9 (by kernel_rfl) rfl #[.agg #[.int .i64 t129, .int .i64 t130, .string t131], .int .i64 1, .int .i64 (rd y132 (Go.bits .and .i64 a0 1))] (by rfl) rfl rfl (by (try simp only [List.map_toArray, List.map_cons, List.map_nil]); first | done | rfl | (simp only [List.length_drop, List.length_take]; rfl)) ?_
            with_reducible refine (coder_Bit.calls t129 t130 t131 1 (rd y132 (Go.bits .and .i64 a0 1)) t136 t137 t138 t139 _ A19.out).mono ?_
            rintro e w71 ⟨rfl, hb⟩
            refine ⟨_, rfl, ?_⟩
            have n0_ := Aside0.mk (Kd.R_below HO134.out hb)
            have n1_ := Aside0.mk (blk_below (g := gb109) (o := .cells #[.int .i64 ((rd_T23 y105 (ji8)).f0), .int .i64 ((rd_T23 y105 (ji8)).f1), .string ((rd_T23 y105 (ji8)).f2)] 23 (0, 0)) BK109.out hb)
            have n2_ := Aside0.mk (blk_below (g := gb128) (o := .cells #[.int .i64 t124, .int .i64 t125, .string t126] 23 (0, 0)) BK128.out hb)
            have n3_ := Aside0.mk (below_step HB.out hb)
            clear HO134
            clear BK109
            clear BK128
            clear HB
            have HO134 := n0_
            have BK109 := n1_
            have BK128 := n2_
            have HB := n3_
            clear n0_ n1_ n2_ n3_
            (try clear hb)
            (try clear hb2)
            (try clear hk)
            (try clear hi)
            refine hK.out _ _ trivial (fun hHeld => ?_)
            clear hK K
            refine norm_ (a' := ?_) ?_ ?_
            rotate_left
            · show Act.put _ (some 83) _ = _
              simp only [Act.put, List.setIfInBounds_toArray, List.set_cons_zero, List.set_cons_succ, i64_w, i32_w]
              rfl
            refine pure_ (i := 11) (N := some 72) (v := ?_) (a' := ?_) #[true, true, true, true, true, true, true, true, true, true, true, true, false, false, false, false, false] rfl rfl (any_of HT_.out (by kernel_rfl)) (fun _ _ _ h => h) (Or.inl ⟨by rfl, ?_⟩) ?_ ?_
            rotate_left
            · intro w'
              go_simp
              with_reducible rfl
            rotate_left
            · simp only [Act.put, List.setIfInBounds_toArray, List.set_cons_zero, List.set_cons_succ, i64_w, i32_w]
              rfl
            refine pure_ (i := 12) (N := some 84) (v := ?_) (a' := ?_) #[true, true, true, true, true, true, true, true, true, true, true, true, true, false, false, false, false] rfl rfl (any_of HT_.out (by kernel_rfl)) (fun _ _ _ h => h) (Or.inl ⟨by rfl, ?_⟩) ?_ ?_
            rotate_left
            · intro w'
              go_simp
              with_reducible rfl
            rotate_left
            · simp only [Act.put, List.setIfInBounds_toArray, List.set_cons_zero, List.set_cons_succ, i64_w, i32_w]
              rfl
            refine pure_ (i := 13) (N := some 85) (v := ?_) (a' := ?_) #[true, true, true, true, true, true, true, true, true, true, true, true, true, true, false, false, false] rfl rfl (any_of HT_.out (by kernel_rfl)) (fun _ _ _ h => h) (Or.inl ⟨by rfl, ?_⟩) ?_ ?_
            rotate_left
            · intro w'
              go_simp
              with_reducible rfl
            rotate_left
            · simp only [Act.put, List.setIfInBounds_toArray, List.set_cons_zero, List.set_cons_succ, i64_w, i32_w]
              rfl
            exact norm_ (by first | (simp only [putAll, Act.put, List.setIfInBounds_toArray, List.set_cons_zero, List.set_cons_succ]; done) | (simp only [putAll, Act.put, List.setIfInBounds_toArray, List.set_cons_zero, List.set_cons_succ]; rfl)) (hJ0_5_9_10 (.slice (some adz_v133) y132.length co70, adz_v133) _ ⟨HO134.out, ⟨_, rfl⟩, BK109.out, BK128.out, HB.out⟩)
          · skip
            refine box_step ?hg (N := 14) ?hd (cs := #[.int .i64 0, .int .i64 0, .string (⟨#[]⟩ : ByteArray)]) (t := 23) ?hr ?_; (case hd => rfl); (case hg => rfl); (case hr => first | (go_simp; done) | (go_simp; rfl))
            intro gb140 hg w71 hbox hb
            have n0_ := Aside0.mk (Kd.R_below HO134.out hb)
            have n1_ := Aside0.mk (blk_below (g := gb109) (o := .cells #[.int .i64 ((rd_T23 y105 (ji8)).f0), .int .i64 ((rd_T23 y105 (ji8)).f1), .string ((rd_T23 y105 (ji8)).f2)] 23 (0, 0)) BK109.out hb)
            have n2_ := Aside0.mk (blk_below (g := gb128) (o := .cells #[.int .i64 t124, .int .i64 t125, .string t126] 23 (0, 0)) BK128.out hb)
            have n3_ := Aside0.mk (below_step HB.out hb)
            have n4_ := Aside0.mk (hbox)
            have n5_ := Aside0.mk ((by rw [hg]; exact (below_size HB.out) : w.heap.size ≤ gb140))
            have n6_ := Aside0.mk ((by rw [hg]; exact (below_size HB.out) : w.heap.size ≤ gb140))
            have n7_ := Aside0.mk ((by rw [hg]; exact Nat.ne_of_lt (blk_lt (g := gb109) (o := .cells #[.int .i64 ((rd_T23 y105 (ji8)).f0), .int .i64 ((rd_T23 y105 (ji8)).f1), .string ((rd_T23 y105 (ji8)).f2)] 23 (0, 0)) BK109.out) : gb109 ≠ gb140))
            have n8_ := Aside0.mk ((by rw [hg]; exact Nat.ne_of_gt (blk_lt (g := gb109) (o := .cells #[.int .i64 ((rd_T23 y105 (ji8)).f0), .int .i64 ((rd_T23 y105 (ji8)).f1), .string ((rd_T23 y105 (ji8)).f2)] 23 (0, 0)) BK109.out) : gb140 ≠ gb109))
            have n9_ := Aside0.mk ((by rw [hg]; exact Nat.ne_of_lt (blk_lt (g := gb128) (o := .cells #[.int .i64 t124, .int .i64 t125, .string t126] 23 (0, 0)) BK128.out) : gb128 ≠ gb140))
            have n10_ := Aside0.mk ((by rw [hg]; exact Nat.ne_of_gt (blk_lt (g := gb128) (o := .cells #[.int .i64 t124, .int .i64 t125, .string t126] 23 (0, 0)) BK128.out) : gb140 ≠ gb128))
            clear HO134
            clear BK109
            clear BK128
            clear HB
            have HO134 := n0_
            have BK109 := n1_
            have BK128 := n2_
            have HB := n3_
            have BK140 := n4_
            have GW140 := n5_
            have GE140 := n6_
            have NB109_140 := n7_
            have NB140_109 := n8_
            have NB128_140 := n9_
            have NB140_128 := n10_
            clear n0_ n1_ n2_ n3_ n4_ n5_ n6_ n7_ n8_ n9_ n10_
            clear hb hbox hg
            refine hK.out _ _ trivial (fun hHeld => ?_)
            clear hK K
            refine norm_ (a' := ?_) ?_ ?_
            rotate_left
            · show Act.put _ (some 14) _ = _
              simp only [Act.put, List.setIfInBounds_toArray, List.set_cons_zero, List.set_cons_succ, i64_w, i32_w]
              rfl
            exact norm_ (by first | (simp only [putAll, Act.put, List.setIfInBounds_toArray, List.set_cons_zero, List.set_cons_succ]; done) | (simp only [putAll, Act.put, List.setIfInBounds_toArray, List.set_cons_zero, List.set_cons_succ]; rfl)) (hJ0_5_9_14 (.slice (some adz_v133) y132.length co70, adz_v133, gb140) _ ⟨HO134.out, ⟨_, rfl⟩, BK109.out, BK128.out, BK140.out, GW140.out, GE140.out, NB109_140.out, NB140_109.out, NB128_140.out, NB140_128.out, HB.out⟩)
      intro hJ0_5_9
      refine join_ (σ := Value × Addr × Nat) 7 #[true, true, true, true, true, true, true, true, true, false, false, false, false, false, true, false, false] (fun s_ => [(73, .agg #[.int .i64 t129, .int .i64 t130, .string t131]), (78, s_.1), (14, .pointer (some ⟨s_.2.2, 0, none⟩)), (81, .pointer (some (s_.2.1.add ((Go.bits .and .i64 a0 1)).toNat)))]) (fun s_ w' => (Kd.R (Kd.int .i64) 3 w' w.heap.size (fun _ => True) s_.1 y132) ∧ (∃ c_, (s_.1 : Value) = .slice (some s_.2.1) y132.length c_) ∧ (w'.heap[gb109]? = some (.cells #[.int .i64 ((rd_T23 y105 (ji8)).f0), .int .i64 ((rd_T23 y105 (ji8)).f1), .string ((rd_T23 y105 (ji8)).f2)] 23 (0, 0))) ∧ (w'.heap[gb128]? = some (.cells #[.int .i64 t124, .int .i64 t125, .string t126] 23 (0, 0))) ∧ (w'.heap[s_.2.2]? = some (.cells #[.int .i64 0, .int .i64 0, .string (⟨#[]⟩ : ByteArray)] 23 (0, 0))) ∧ (w.heap.size ≤ s_.2.2) ∧ (w.heap.size ≤ s_.2.2) ∧ (gb109 ≠ s_.2.2) ∧ (s_.2.2 ≠ gb109) ∧ (gb128 ≠ s_.2.2) ∧ (s_.2.2 ≠ gb128) ∧ (Below w.heap.size w w')) ?_ ?_
      · · skip
          rintro ⟨v133, adz_v133, gb140⟩ w70 ⟨h0_, h1_, h2_, h3_, h4_, h5_, h6_, h7_, h8_, h9_, h10_, h11_⟩
          have n0_ : Aside0 (Kd.R (Kd.int .i64) 3 w70 w.heap.size (fun _ => True) v133 y132) := ⟨h0_⟩
          have n1_ : Aside0 (∃ c_, (v133 : Value) = .slice (some adz_v133) y132.length c_) := ⟨h1_⟩
          have n2_ : Aside0 (w70.heap[gb109]? = some (.cells #[.int .i64 ((rd_T23 y105 (ji8)).f0), .int .i64 ((rd_T23 y105 (ji8)).f1), .string ((rd_T23 y105 (ji8)).f2)] 23 (0, 0))) := ⟨h2_⟩
          have n3_ : Aside0 (w70.heap[gb128]? = some (.cells #[.int .i64 t124, .int .i64 t125, .string t126] 23 (0, 0))) := ⟨h3_⟩
          have n4_ : Aside0 (w70.heap[gb140]? = some (.cells #[.int .i64 0, .int .i64 0, .string (⟨#[]⟩ : ByteArray)] 23 (0, 0))) := ⟨h4_⟩
          have n5_ : Aside0 (w.heap.size ≤ gb140) := ⟨h5_⟩
          have n6_ : Aside0 (w.heap.size ≤ gb140) := ⟨h6_⟩
          have n7_ : Aside0 (gb109 ≠ gb140) := ⟨h7_⟩
          have n8_ : Aside0 (gb140 ≠ gb109) := ⟨h8_⟩
          have n9_ : Aside0 (gb128 ≠ gb140) := ⟨h9_⟩
          have n10_ : Aside0 (gb140 ≠ gb128) := ⟨h10_⟩
          have n11_ : Aside0 (Below w.heap.size w w70) := ⟨h11_⟩
          clear BK109
          clear BK128
          clear HB
          clear h0_ h1_ h2_ h3_ h4_ h5_ h6_ h7_ h8_ h9_ h10_ h11_
          have HO134 := n0_
          have HA_HO134 := n1_
          have BK109 := n2_
          have BK128 := n3_
          have BK140 := n4_
          have GW140 := n5_
          have GE140 := n6_
          have NB109_140 := n7_
          have NB140_109 := n8_
          have NB128_140 := n9_
          have NB140_128 := n10_
          have HB := n11_
          clear n0_ n1_ n2_ n3_ n4_ n5_ n6_ n7_ n8_ n9_ n10_ n11_
          have hHeld := trivial
          obtain ⟨co71, eo71⟩ := HA_HO134.out
          clear HA_HO134
          subst eo71
          refine norm_ (a' := ?_) ?_ ?_
          rotate_left
          · simp only [putAll, Act.put, List.setIfInBounds_toArray, List.set_cons_zero, List.set_cons_succ]
            rfl
          refine one_ (i := 9) (N := some 82) #[true, true, true, true, true, true, true, true, true, true, false, false, false, false, true, false, false] rfl rfl (one_of HT_.out (by kernel_rfl)) (by decide) (fun K hK => ?_)
          (have p135 : 0 ≤ ((Go.bits .and .i64 a0 1) : Int) := of_decide_eq_true (by first | (with_reducible assumption) | assumption); have q135 : (Go.bits .and .i64 a0 1) < (y132.length : Int) := of_decide_eq_true (by first | (with_reducible assumption) | assumption); obtain ⟨ad135, e135, hx135_0⟩ := Kd.at_int (Kd.R_reads' HO134.out).2.2 (Go.bits .and .i64 a0 1) p135 q135; obtain rfl : adz_v133 = ad135 := (by injection e135))
          refine value_ (w1 := ?_) (v := ?_) (by rfl) rfl ?_ ?_
          rotate_left 2
          · go_simp
            constructor
            · rfl
            · rfl
          clear hx135_0
          refine hK.out _ _ trivial (fun hHeld => ?_)
          clear hK K
          refine norm_ (a' := ?_) ?_ ?_
          rotate_left
          · show Act.put _ (some 82) _ = _
            simp only [Act.put, List.setIfInBounds_toArray, List.set_cons_zero, List.set_cons_succ, i64_w, i32_w]
            rfl
          exact norm_ (by first | (simp only [putAll, Act.put, List.setIfInBounds_toArray, List.set_cons_zero, List.set_cons_succ]; done) | (simp only [putAll, Act.put, List.setIfInBounds_toArray, List.set_cons_zero, List.set_cons_succ]; rfl)) (hJ0_5_9_14 (.slice (some adz_v133) y132.length co71, adz_v133, gb140) _ ⟨HO134.out, ⟨_, rfl⟩, BK109.out, BK128.out, BK140.out, GW140.out, GE140.out, NB109_140.out, NB140_109.out, NB128_140.out, NB140_128.out, HB.out⟩)
      intro hJ0_5_14
      refine join_ (σ := Value × Addr × Nat) 7 #[false, true, true, true, true, true, true, true, true, true, false, false, false, false, true, false, false] (fun s_ => [(78, s_.1), (82, .int .i64 (rd y132 (Go.bits .and .i64 a0 1))), (14, .pointer (some ⟨s_.2.2, 0, none⟩)), (81, .pointer (some (s_.2.1.add ((Go.bits .and .i64 a0 1)).toNat)))]) (fun s_ w' => (Kd.R (Kd.int .i64) 3 w' w.heap.size (fun _ => True) s_.1 y132) ∧ (∃ c_, (s_.1 : Value) = .slice (some s_.2.1) y132.length c_) ∧ (w'.heap[gb109]? = some (.cells #[.int .i64 ((rd_T23 y105 (ji8)).f0), .int .i64 ((rd_T23 y105 (ji8)).f1), .string ((rd_T23 y105 (ji8)).f2)] 23 (0, 0))) ∧ (w'.heap[gb128]? = some (.cells #[.int .i64 t124, .int .i64 t125, .string t126] 23 (0, 0))) ∧ (w'.heap[s_.2.2]? = some (.cells #[.int .i64 0, .int .i64 0, .string (⟨#[]⟩ : ByteArray)] 23 (0, 0))) ∧ (w.heap.size ≤ s_.2.2) ∧ (w.heap.size ≤ s_.2.2) ∧ (gb109 ≠ s_.2.2) ∧ (s_.2.2 ≠ gb109) ∧ (gb128 ≠ s_.2.2) ∧ (s_.2.2 ≠ gb128) ∧ (Below w.heap.size w w')) ?_ ?_
      · · skip
          rintro ⟨v133, adz_v133, gb140⟩ w69 ⟨h0_, h1_, h2_, h3_, h4_, h5_, h6_, h7_, h8_, h9_, h10_, h11_⟩
          have n0_ : Aside0 (Kd.R (Kd.int .i64) 3 w69 w.heap.size (fun _ => True) v133 y132) := ⟨h0_⟩
          have n1_ : Aside0 (∃ c_, (v133 : Value) = .slice (some adz_v133) y132.length c_) := ⟨h1_⟩
          have n2_ : Aside0 (w69.heap[gb109]? = some (.cells #[.int .i64 ((rd_T23 y105 (ji8)).f0), .int .i64 ((rd_T23 y105 (ji8)).f1), .string ((rd_T23 y105 (ji8)).f2)] 23 (0, 0))) := ⟨h2_⟩
          have n3_ : Aside0 (w69.heap[gb128]? = some (.cells #[.int .i64 t124, .int .i64 t125, .string t126] 23 (0, 0))) := ⟨h3_⟩
          have n4_ : Aside0 (w69.heap[gb140]? = some (.cells #[.int .i64 0, .int .i64 0, .string (⟨#[]⟩ : ByteArray)] 23 (0, 0))) := ⟨h4_⟩
          have n5_ : Aside0 (w.heap.size ≤ gb140) := ⟨h5_⟩
          have n6_ : Aside0 (w.heap.size ≤ gb140) := ⟨h6_⟩
          have n7_ : Aside0 (gb109 ≠ gb140) := ⟨h7_⟩
          have n8_ : Aside0 (gb140 ≠ gb109) := ⟨h8_⟩
          have n9_ : Aside0 (gb128 ≠ gb140) := ⟨h9_⟩
          have n10_ : Aside0 (gb140 ≠ gb128) := ⟨h10_⟩
          have n11_ : Aside0 (Below w.heap.size w w69) := ⟨h11_⟩
          clear BK109
          clear BK128
          clear HB
          clear h0_ h1_ h2_ h3_ h4_ h5_ h6_ h7_ h8_ h9_ h10_ h11_
          have HO134 := n0_
          have HA_HO134 := n1_
          have BK109 := n2_
          have BK128 := n3_
          have BK140 := n4_
          have GW140 := n5_
          have GE140 := n6_
          have NB109_140 := n7_
          have NB140_109 := n8_
          have NB128_140 := n9_
          have NB140_128 := n10_
          have HB := n11_
          clear n0_ n1_ n2_ n3_ n4_ n5_ n6_ n7_ n8_ n9_ n10_ n11_
          have hHeld := trivial
          obtain ⟨co70, eo70⟩ := HA_HO134.out
          clear HA_HO134
          subst eo70
          refine norm_ (a' := ?_) ?_ ?_
          rotate_left
          · simp only [putAll, Act.put, List.setIfInBounds_toArray, List.set_cons_zero, List.set_cons_succ]
            rfl
          refine one_ (i := 0) (N := some 73) #[true, true, true, true, true, true, true, true, true, true, false, false, false, false, true, false, false] rfl rfl (one_of HT_.out (by kernel_rfl)) (by decide) (fun K hK => ?_)
          refine goes_ Try.func16 (by kernel_rfl) rfl #[] (by rfl) rfl rfl (by (try simp only [List.map_toArray, List.map_cons, List.map_nil]); first | done | rfl | (simp only [List.length_drop, List.length_take]; rfl)) ?_
          with_reducible refine (coder_New.calls  t129 t130 t131 _ A17.out).mono ?_
          rintro e w71 ⟨rfl, hb⟩
          refine ⟨_, rfl, ?_⟩
          have n0_ := Aside0.mk (Kd.R_below HO134.out hb)
          have n1_ := Aside0.mk (blk_below (g := gb109) (o := .cells #[.int .i64 ((rd_T23 y105 (ji8)).f0), .int .i64 ((rd_T23 y105 (ji8)).f1), .string ((rd_T23 y105 (ji8)).f2)] 23 (0, 0)) BK109.out hb)
          have n2_ := Aside0.mk (blk_below (g := gb128) (o := .cells #[.int .i64 t124, .int .i64 t125, .string t126] 23 (0, 0)) BK128.out hb)
          have n3_ := Aside0.mk (blk_below (g := gb140) (o := .cells #[.int .i64 0, .int .i64 0, .string (⟨#[]⟩ : ByteArray)] 23 (0, 0)) BK140.out hb)
          have n4_ := Aside0.mk (below_step HB.out hb)
          clear HO134
          clear BK109
          clear BK128
          clear BK140
          clear HB
          have HO134 := n0_
          have BK109 := n1_
          have BK128 := n2_
          have BK140 := n3_
          have HB := n4_
          clear n0_ n1_ n2_ n3_ n4_
          (try clear hb)
          (try clear hb2)
          (try clear hk)
          (try clear hi)
          refine hK.out _ _ trivial (fun hHeld => ?_)
          clear hK K
          refine norm_ (a' := ?_) ?_ ?_
          rotate_left
          · show Act.put _ (some 73) _ = _
            simp only [Act.put, List.setIfInBounds_toArray, List.set_cons_zero, List.set_cons_succ, i64_w, i32_w]
            rfl
          exact norm_ (by first | (simp only [putAll, Act.put, List.setIfInBounds_toArray, List.set_cons_zero, List.set_cons_succ]; done) | (simp only [putAll, Act.put, List.setIfInBounds_toArray, List.set_cons_zero, List.set_cons_succ]; rfl)) (hJ0_5_9_14 (.slice (some adz_v133) y132.length co70, adz_v133, gb140) _ ⟨HO134.out, ⟨_, rfl⟩, BK109.out, BK128.out, BK140.out, GW140.out, GE140.out, NB109_140.out, NB140_109.out, NB128_140.out, NB140_128.out, HB.out⟩)
      intro hJ5_9_14
      refine join_ (σ := Value × Addr) 8 #[true, true, true, true, true, true, true, true, true, false, false, false, false, false, false, false, false] (fun s_ => [(73, .agg #[.int .i64 t129, .int .i64 t130, .string t131]), (78, s_.1), (81, .pointer (some (s_.2.add ((Go.bits .and .i64 a0 1)).toNat)))]) (fun s_ w' => (Kd.R (Kd.int .i64) 3 w' w.heap.size (fun _ => True) s_.1 y132) ∧ (∃ c_, (s_.1 : Value) = .slice (some s_.2) y132.length c_) ∧ (w'.heap[gb109]? = some (.cells #[.int .i64 ((rd_T23 y105 (ji8)).f0), .int .i64 ((rd_T23 y105 (ji8)).f1), .string ((rd_T23 y105 (ji8)).f2)] 23 (0, 0))) ∧ (w'.heap[gb128]? = some (.cells #[.int .i64 t124, .int .i64 t125, .string t126] 23 (0, 0))) ∧ (Below w.heap.size w w')) ?_ ?_
      · · skip
          rintro ⟨v133, adz_v133⟩ w69 ⟨h0_, h1_, h2_, h3_, h4_⟩
          have n0_ : Aside0 (Kd.R (Kd.int .i64) 3 w69 w.heap.size (fun _ => True) v133 y132) := ⟨h0_⟩
          have n1_ : Aside0 (∃ c_, (v133 : Value) = .slice (some adz_v133) y132.length c_) := ⟨h1_⟩
          have n2_ : Aside0 (w69.heap[gb109]? = some (.cells #[.int .i64 ((rd_T23 y105 (ji8)).f0), .int .i64 ((rd_T23 y105 (ji8)).f1), .string ((rd_T23 y105 (ji8)).f2)] 23 (0, 0))) := ⟨h2_⟩
          have n3_ : Aside0 (w69.heap[gb128]? = some (.cells #[.int .i64 t124, .int .i64 t125, .string t126] 23 (0, 0))) := ⟨h3_⟩
          have n4_ : Aside0 (Below w.heap.size w w69) := ⟨h4_⟩
          clear BK109
          clear BK128
          clear HB
          clear h0_ h1_ h2_ h3_ h4_
          have HO134 := n0_
          have HA_HO134 := n1_
          have BK109 := n2_
          have BK128 := n3_
          have HB := n4_
          clear n0_ n1_ n2_ n3_ n4_
          have hHeld := trivial
          obtain ⟨co70, eo70⟩ := HA_HO134.out
          clear HA_HO134
          subst eo70
          refine norm_ (a' := ?_) ?_ ?_
          rotate_left
          · simp only [putAll, Act.put, List.setIfInBounds_toArray, List.set_cons_zero, List.set_cons_succ]
            rfl
          refine two_ (i := 9) (j := 14) (Ni := some 82) (Nj := some 14) #[true, true, true, true, true, true, true, true, true, true, false, false, false, false, false, false, false] #[true, true, true, true, true, true, true, true, true, false, false, false, false, false, true, false, false] rfl rfl rfl rfl (two_of HT_.out (by kernel_rfl)) (by decide) (by decide) (fun K hK => ?_) (fun K hK => ?_)
          · skip
            (have p135 : 0 ≤ ((Go.bits .and .i64 a0 1) : Int) := of_decide_eq_true (by first | (with_reducible assumption) | assumption); have q135 : (Go.bits .and .i64 a0 1) < (y132.length : Int) := of_decide_eq_true (by first | (with_reducible assumption) | assumption); obtain ⟨ad135, e135, hx135_0⟩ := Kd.at_int (Kd.R_reads' HO134.out).2.2 (Go.bits .and .i64 a0 1) p135 q135; obtain rfl : adz_v133 = ad135 := (by injection e135))
            refine value_ (w1 := ?_) (v := ?_) (by rfl) rfl ?_ ?_
            rotate_left 2
            · go_simp
              constructor
              · rfl
              · rfl
            clear hx135_0
            refine hK.out _ _ trivial (fun hHeld => ?_)
            clear hK K
            refine norm_ (a' := ?_) ?_ ?_
            rotate_left
            · show Act.put _ (some 82) _ = _
              simp only [Act.put, List.setIfInBounds_toArray, List.set_cons_zero, List.set_cons_succ, i64_w, i32_w]
              rfl
            exact norm_ (by first | (simp only [putAll, Act.put, List.setIfInBounds_toArray, List.set_cons_zero, List.set_cons_succ]; done) | (simp only [putAll, Act.put, List.setIfInBounds_toArray, List.set_cons_zero, List.set_cons_succ]; rfl)) (hJ0_5_9 (.slice (some adz_v133) y132.length co70, adz_v133) _ ⟨HO134.out, ⟨_, rfl⟩, BK109.out, BK128.out, HB.out⟩)
          · skip
            refine box_step ?hg (N := 14) ?hd (cs := #[.int .i64 0, .int .i64 0, .string (⟨#[]⟩ : ByteArray)]) (t := 23) ?hr ?_; (case hd => rfl); (case hg => rfl); (case hr => first | (go_simp; done) | (go_simp; rfl))
            intro gb140 hg w71 hbox hb
            have n0_ := Aside0.mk (Kd.R_below HO134.out hb)
            have n1_ := Aside0.mk (blk_below (g := gb109) (o := .cells #[.int .i64 ((rd_T23 y105 (ji8)).f0), .int .i64 ((rd_T23 y105 (ji8)).f1), .string ((rd_T23 y105 (ji8)).f2)] 23 (0, 0)) BK109.out hb)
            have n2_ := Aside0.mk (blk_below (g := gb128) (o := .cells #[.int .i64 t124, .int .i64 t125, .string t126] 23 (0, 0)) BK128.out hb)
            have n3_ := Aside0.mk (below_step HB.out hb)
            have n4_ := Aside0.mk (hbox)
            have n5_ := Aside0.mk ((by rw [hg]; exact (below_size HB.out) : w.heap.size ≤ gb140))
            have n6_ := Aside0.mk ((by rw [hg]; exact (below_size HB.out) : w.heap.size ≤ gb140))
            have n7_ := Aside0.mk ((by rw [hg]; exact Nat.ne_of_lt (blk_lt (g := gb109) (o := .cells #[.int .i64 ((rd_T23 y105 (ji8)).f0), .int .i64 ((rd_T23 y105 (ji8)).f1), .string ((rd_T23 y105 (ji8)).f2)] 23 (0, 0)) BK109.out) : gb109 ≠ gb140))
            have n8_ := Aside0.mk ((by rw [hg]; exact Nat.ne_of_gt (blk_lt (g := gb109) (o := .cells #[.int .i64 ((rd_T23 y105 (ji8)).f0), .int .i64 ((rd_T23 y105 (ji8)).f1), .string ((rd_T23 y105 (ji8)).f2)] 23 (0, 0)) BK109.out) : gb140 ≠ gb109))
            have n9_ := Aside0.mk ((by rw [hg]; exact Nat.ne_of_lt (blk_lt (g := gb128) (o := .cells #[.int .i64 t124, .int .i64 t125, .string t126] 23 (0, 0)) BK128.out) : gb128 ≠ gb140))
            have n10_ := Aside0.mk ((by rw [hg]; exact Nat.ne_of_gt (blk_lt (g := gb128) (o := .cells #[.int .i64 t124, .int .i64 t125, .string t126] 23 (0, 0)) BK128.out) : gb140 ≠ gb128))
            clear HO134
            clear BK109
            clear BK128
            clear HB
            have HO134 := n0_
            have BK109 := n1_
            have BK128 := n2_
            have HB := n3_
            have BK140 := n4_
            have GW140 := n5_
            have GE140 := n6_
            have NB109_140 := n7_
            have NB140_109 := n8_
            have NB128_140 := n9_
            have NB140_128 := n10_
            clear n0_ n1_ n2_ n3_ n4_ n5_ n6_ n7_ n8_ n9_ n10_
            clear hb hbox hg
            refine hK.out _ _ trivial (fun hHeld => ?_)
            clear hK K
            refine norm_ (a' := ?_) ?_ ?_
            rotate_left
            · show Act.put _ (some 14) _ = _
              simp only [Act.put, List.setIfInBounds_toArray, List.set_cons_zero, List.set_cons_succ, i64_w, i32_w]
              rfl
            exact norm_ (by first | (simp only [putAll, Act.put, List.setIfInBounds_toArray, List.set_cons_zero, List.set_cons_succ]; done) | (simp only [putAll, Act.put, List.setIfInBounds_toArray, List.set_cons_zero, List.set_cons_succ]; rfl)) (hJ0_5_14 (.slice (some adz_v133) y132.length co70, adz_v133, gb140) _ ⟨HO134.out, ⟨_, rfl⟩, BK109.out, BK128.out, BK140.out, GW140.out, GE140.out, NB109_140.out, NB140_109.out, NB128_140.out, NB140_128.out, HB.out⟩)
      intro hJ0_5
      refine join_ (σ := Nat) 9 #[true, true, true, true, true, false, true, true, false, false, false, false, false, false, true, false, false] (fun s_ => [(73, .agg #[.int .i64 t129, .int .i64 t130, .string t131]), (14, .pointer (some ⟨s_, 0, none⟩))]) (fun s_ w' => (w'.heap[gb109]? = some (.cells #[.int .i64 ((rd_T23 y105 (ji8)).f0), .int .i64 ((rd_T23 y105 (ji8)).f1), .string ((rd_T23 y105 (ji8)).f2)] 23 (0, 0))) ∧ (w'.heap[gb128]? = some (.cells #[.int .i64 t124, .int .i64 t125, .string t126] 23 (0, 0))) ∧ (w'.heap[s_]? = some (.cells #[.int .i64 0, .int .i64 0, .string (⟨#[]⟩ : ByteArray)] 23 (0, 0))) ∧ (w.heap.size ≤ s_) ∧ (w.heap.size ≤ s_) ∧ (gb109 ≠ s_) ∧ (s_ ≠ gb109) ∧ (gb128 ≠ s_) ∧ (s_ ≠ gb128) ∧ (Below w.heap.size w w')) ?_ ?_
      · · skip
          rintro gb140 w67 ⟨h0_, h1_, h2_, h3_, h4_, h5_, h6_, h7_, h8_, h9_⟩
          have n0_ : Aside0 (w67.heap[gb109]? = some (.cells #[.int .i64 ((rd_T23 y105 (ji8)).f0), .int .i64 ((rd_T23 y105 (ji8)).f1), .string ((rd_T23 y105 (ji8)).f2)] 23 (0, 0))) := ⟨h0_⟩
          have n1_ : Aside0 (w67.heap[gb128]? = some (.cells #[.int .i64 t124, .int .i64 t125, .string t126] 23 (0, 0))) := ⟨h1_⟩
          have n2_ : Aside0 (w67.heap[gb140]? = some (.cells #[.int .i64 0, .int .i64 0, .string (⟨#[]⟩ : ByteArray)] 23 (0, 0))) := ⟨h2_⟩
          have n3_ : Aside0 (w.heap.size ≤ gb140) := ⟨h3_⟩
          have n4_ : Aside0 (w.heap.size ≤ gb140) := ⟨h4_⟩
          have n5_ : Aside0 (gb109 ≠ gb140) := ⟨h5_⟩
          have n6_ : Aside0 (gb140 ≠ gb109) := ⟨h6_⟩
          have n7_ : Aside0 (gb128 ≠ gb140) := ⟨h7_⟩
          have n8_ : Aside0 (gb140 ≠ gb128) := ⟨h8_⟩
          have n9_ : Aside0 (Below w.heap.size w w67) := ⟨h9_⟩
          clear BK109
          clear BK128
          clear HB
          clear h0_ h1_ h2_ h3_ h4_ h5_ h6_ h7_ h8_ h9_
          have BK109 := n0_
          have BK128 := n1_
          have BK140 := n2_
          have GW140 := n3_
          have GE140 := n4_
          have NB109_140 := n5_
          have NB140_109 := n6_
          have NB128_140 := n7_
          have NB140_128 := n8_
          have HB := n9_
          clear n0_ n1_ n2_ n3_ n4_ n5_ n6_ n7_ n8_ n9_
          have hHeld := trivial
          refine norm_ (a' := ?_) ?_ ?_
          rotate_left
          · simp only [putAll, Act.put, List.setIfInBounds_toArray, List.set_cons_zero, List.set_cons_succ]
            rfl
          refine one_ (i := 5) (N := some 78) #[true, true, true, true, true, true, true, true, false, false, false, false, false, false, true, false, false] rfl rfl (one_of HT_.out (by kernel_rfl)) (by decide) (fun K hK => ?_)
          refine Kd.R_lit_step (Kd.int .i64) _ 3 ?hg (N := 78) ?hd (xs := ([wrap64 (1 - (wrap64 (1 + (Go.bits .and .i64 a1 1023)))), wrap64 (4095 + (wrap64 (1 + (Go.bits .and .i64 a1 1023))))] : List Int)) (inner := [.int .i64 (wrap64 (1 - (wrap64 (1 + (Go.bits .and .i64 a1 1023))))), .int .i64 (wrap64 (4095 + (wrap64 (1 + (Go.bits .and .i64 a1 1023)))))]) (ok := fun _ => True) (okp := fun _ => True) ?hr ?hp (fun _ hk => hk) trivial (Below.refl _ _) (Nat.le_refl _) (by simp) ?_; (case hd => rfl); (case hg => rfl); (case hr => first | (go_simp; done) | (go_simp; rfl)); (case hp => exact (Reps.one (show Kd.M (Kd.int .i64) _ _ _ (wrap64 (1 - (wrap64 (1 + (Go.bits .and .i64 a1 1023))))) [.int .i64 (wrap64 (1 - (wrap64 (1 + (Go.bits .and .i64 a1 1023)))))] from rfl) (Reps.one (show Kd.M (Kd.int .i64) _ _ _ (wrap64 (4095 + (wrap64 (1 + (Go.bits .and .i64 a1 1023))))) [.int .i64 (wrap64 (4095 + (wrap64 (1 + (Go.bits .and .i64 a1 1023)))))] from rfl) (Reps.none _ _))))
          intro v133 w68 ho69 hb hg_ hnew_
          clear hg_ hnew_
          (first | rw [← Ny132.out] at ho69 | (simp only [Int.reduceToNat] at ho69; rw [← Ny132.out] at ho69))
          have n0_ := Aside0.mk (Kd.R_lower ho69 (below_size HB.out))
          have n1_ := Aside0.mk (blk_below (g := gb109) (o := .cells #[.int .i64 ((rd_T23 y105 (ji8)).f0), .int .i64 ((rd_T23 y105 (ji8)).f1), .string ((rd_T23 y105 (ji8)).f2)] 23 (0, 0)) BK109.out hb)
          have n2_ := Aside0.mk (blk_below (g := gb128) (o := .cells #[.int .i64 t124, .int .i64 t125, .string t126] 23 (0, 0)) BK128.out hb)
          have n3_ := Aside0.mk (blk_below (g := gb140) (o := .cells #[.int .i64 0, .int .i64 0, .string (⟨#[]⟩ : ByteArray)] 23 (0, 0)) BK140.out hb)
          have n4_ := Aside0.mk (below_step HB.out hb)
          clear BK109
          clear BK128
          clear BK140
          clear HB
          have HO134 := n0_
          have BK109 := n1_
          have BK128 := n2_
          have BK140 := n3_
          have HB := n4_
          clear n0_ n1_ n2_ n3_ n4_
          clear hb ho69
          obtain ⟨Ao70, co70, eo70⟩ := Kd.R_slice HO134.out
          subst eo70
          obtain ⟨ado70, fo70, _⟩ := Kd.at_int (Kd.R_reads' HO134.out).2.2 0 (by decide) (by rw [Ny132.out]; simp)
          cases fo70
          refine hK.out _ _ trivial (fun hHeld => ?_)
          clear hK K
          refine norm_ (a' := ?_) ?_ ?_
          rotate_left
          · show Act.put _ (some 78) _ = _
            simp only [Act.put, List.setIfInBounds_toArray, List.set_cons_zero, List.set_cons_succ, i64_w, i32_w]
            rfl
          refine pure_ (i := 8) (N := some 81) (v := ?_) (a' := ?_) #[true, true, true, true, true, true, true, true, true, false, false, false, false, false, true, false, false] rfl rfl (any_of HT_.out (by kernel_rfl)) (fun _ _ _ h => h) (Or.inl ⟨by rfl, ?_⟩) ?_ ?_
          rotate_left
          · intro w'
            go_simp
            with_reducible rfl
          rotate_left
          · simp only [Act.put, List.setIfInBounds_toArray, List.set_cons_zero, List.set_cons_succ, i64_w, i32_w]
            rfl
          exact norm_ (by first | (simp only [putAll, Act.put, List.setIfInBounds_toArray, List.set_cons_zero, List.set_cons_succ]; done) | (simp only [putAll, Act.put, List.setIfInBounds_toArray, List.set_cons_zero, List.set_cons_succ]; rfl)) (hJ0_5_14 (.slice (some ado70) y132.length co70, ado70, gb140) _ ⟨HO134.out, ⟨_, rfl⟩, BK109.out, BK128.out, BK140.out, GW140.out, GE140.out, NB109_140.out, NB140_109.out, NB128_140.out, NB140_128.out, HB.out⟩)
      intro hJ0_14
      refine join_ (σ := Value × Addr) 8 #[false, true, true, true, true, true, true, true, true, true, false, false, false, false, false, false, false] (fun s_ => [(78, s_.1), (82, .int .i64 (rd y132 (Go.bits .and .i64 a0 1))), (81, .pointer (some (s_.2.add ((Go.bits .and .i64 a0 1)).toNat)))]) (fun s_ w' => (Kd.R (Kd.int .i64) 3 w' w.heap.size (fun _ => True) s_.1 y132) ∧ (∃ c_, (s_.1 : Value) = .slice (some s_.2) y132.length c_) ∧ (w'.heap[gb109]? = some (.cells #[.int .i64 ((rd_T23 y105 (ji8)).f0), .int .i64 ((rd_T23 y105 (ji8)).f1), .string ((rd_T23 y105 (ji8)).f2)] 23 (0, 0))) ∧ (w'.heap[gb128]? = some (.cells #[.int .i64 t124, .int .i64 t125, .string t126] 23 (0, 0))) ∧ (Below w.heap.size w w')) ?_ ?_
      · · skip
          rintro ⟨v133, adz_v133⟩ w68 ⟨h0_, h1_, h2_, h3_, h4_⟩
          have n0_ : Aside0 (Kd.R (Kd.int .i64) 3 w68 w.heap.size (fun _ => True) v133 y132) := ⟨h0_⟩
          have n1_ : Aside0 (∃ c_, (v133 : Value) = .slice (some adz_v133) y132.length c_) := ⟨h1_⟩
          have n2_ : Aside0 (w68.heap[gb109]? = some (.cells #[.int .i64 ((rd_T23 y105 (ji8)).f0), .int .i64 ((rd_T23 y105 (ji8)).f1), .string ((rd_T23 y105 (ji8)).f2)] 23 (0, 0))) := ⟨h2_⟩
          have n3_ : Aside0 (w68.heap[gb128]? = some (.cells #[.int .i64 t124, .int .i64 t125, .string t126] 23 (0, 0))) := ⟨h3_⟩
          have n4_ : Aside0 (Below w.heap.size w w68) := ⟨h4_⟩
          clear BK109
          clear BK128
          clear HB
          clear h0_ h1_ h2_ h3_ h4_
          have HO134 := n0_
          have HA_HO134 := n1_
          have BK109 := n2_
          have BK128 := n3_
          have HB := n4_
          clear n0_ n1_ n2_ n3_ n4_
          have hHeld := trivial
          obtain ⟨co69, eo69⟩ := HA_HO134.out
          clear HA_HO134
          subst eo69
          refine norm_ (a' := ?_) ?_ ?_
          rotate_left
          · simp only [putAll, Act.put, List.setIfInBounds_toArray, List.set_cons_zero, List.set_cons_succ]
            rfl
          refine two_ (i := 0) (j := 14) (Ni := some 73) (Nj := some 14) #[true, true, true, true, true, true, true, true, true, true, false, false, false, false, false, false, false] #[false, true, true, true, true, true, true, true, true, true, false, false, false, false, true, false, false] rfl rfl rfl rfl (two_of HT_.out (by kernel_rfl)) (by decide) (by decide) (fun K hK => ?_) (fun K hK => ?_)
          · skip
            refine goes_ Try.func16 (by kernel_rfl) rfl #[] (by rfl) rfl rfl (by (try simp only [List.map_toArray, List.map_cons, List.map_nil]); first | done | rfl | (simp only [List.length_drop, List.length_take]; rfl)) ?_
            with_reducible refine (coder_New.calls  t129 t130 t131 _ A17.out).mono ?_
            rintro e w70 ⟨rfl, hb⟩
            refine ⟨_, rfl, ?_⟩
            have n0_ := Aside0.mk (Kd.R_below HO134.out hb)
            have n1_ := Aside0.mk (blk_below (g := gb109) (o := .cells #[.int .i64 ((rd_T23 y105 (ji8)).f0), .int .i64 ((rd_T23 y105 (ji8)).f1), .string ((rd_T23 y105 (ji8)).f2)] 23 (0, 0)) BK109.out hb)
            have n2_ := Aside0.mk (blk_below (g := gb128) (o := .cells #[.int .i64 t124, .int .i64 t125, .string t126] 23 (0, 0)) BK128.out hb)
            have n3_ := Aside0.mk (below_step HB.out hb)
            clear HO134
            clear BK109
            clear BK128
            clear HB
            have HO134 := n0_
            have BK109 := n1_
            have BK128 := n2_
            have HB := n3_
            clear n0_ n1_ n2_ n3_
            (try clear hb)
            (try clear hb2)
            (try clear hk)
            (try clear hi)
            refine hK.out _ _ trivial (fun hHeld => ?_)
            clear hK K
            refine norm_ (a' := ?_) ?_ ?_
            rotate_left
            · show Act.put _ (some 73) _ = _
              simp only [Act.put, List.setIfInBounds_toArray, List.set_cons_zero, List.set_cons_succ, i64_w, i32_w]
              rfl
            exact norm_ (by first | (simp only [putAll, Act.put, List.setIfInBounds_toArray, List.set_cons_zero, List.set_cons_succ]; done) | (simp only [putAll, Act.put, List.setIfInBounds_toArray, List.set_cons_zero, List.set_cons_succ]; rfl)) (hJ0_5_9 (.slice (some adz_v133) y132.length co69, adz_v133) _ ⟨HO134.out, ⟨_, rfl⟩, BK109.out, BK128.out, HB.out⟩)
          · skip
            refine box_step ?hg (N := 14) ?hd (cs := #[.int .i64 0, .int .i64 0, .string (⟨#[]⟩ : ByteArray)]) (t := 23) ?hr ?_; (case hd => rfl); (case hg => rfl); (case hr => first | (go_simp; done) | (go_simp; rfl))
            intro gb140 hg w70 hbox hb
            have n0_ := Aside0.mk (Kd.R_below HO134.out hb)
            have n1_ := Aside0.mk (blk_below (g := gb109) (o := .cells #[.int .i64 ((rd_T23 y105 (ji8)).f0), .int .i64 ((rd_T23 y105 (ji8)).f1), .string ((rd_T23 y105 (ji8)).f2)] 23 (0, 0)) BK109.out hb)
            have n2_ := Aside0.mk (blk_below (g := gb128) (o := .cells #[.int .i64 t124, .int .i64 t125, .string t126] 23 (0, 0)) BK128.out hb)
            have n3_ := Aside0.mk (below_step HB.out hb)
            have n4_ := Aside0.mk (hbox)
            have n5_ := Aside0.mk ((by rw [hg]; exact (below_size HB.out) : w.heap.size ≤ gb140))
            have n6_ := Aside0.mk ((by rw [hg]; exact (below_size HB.out) : w.heap.size ≤ gb140))
            have n7_ := Aside0.mk ((by rw [hg]; exact Nat.ne_of_lt (blk_lt (g := gb109) (o := .cells #[.int .i64 ((rd_T23 y105 (ji8)).f0), .int .i64 ((rd_T23 y105 (ji8)).f1), .string ((rd_T23 y105 (ji8)).f2)] 23 (0, 0)) BK109.out) : gb109 ≠ gb140))
            have n8_ := Aside0.mk ((by rw [hg]; exact Nat.ne_of_gt (blk_lt (g := gb109) (o := .cells #[.int .i64 ((rd_T23 y105 (ji8)).f0), .int .i64 ((rd_T23 y105 (ji8)).f1), .string ((rd_T23 y105 (ji8)).f2)] 23 (0, 0)) BK109.out) : gb140 ≠ gb109))
            have n9_ := Aside0.mk ((by rw [hg]; exact Nat.ne_of_lt (blk_lt (g := gb128) (o := .cells #[.int .i64 t124, .int .i64 t125, .string t126] 23 (0, 0)) BK128.out) : gb128 ≠ gb140))
            have n10_ := Aside0.mk ((by rw [hg]; exact Nat.ne_of_gt (blk_lt (g := gb128) (o := .cells #[.int .i64 t124, .int .i64 t125, .string t126] 23 (0, 0)) BK128.out) : gb140 ≠ gb128))
            clear HO134
            clear BK109
            clear BK128
            clear HB
            have HO134 := n0_
            have BK109 := n1_
            have BK128 := n2_
            have HB := n3_
            have BK140 := n4_
            have GW140 := n5_
            have GE140 := n6_
            have NB109_140 := n7_
            have NB140_109 := n8_
            have NB128_140 := n9_
            have NB140_128 := n10_
            clear n0_ n1_ n2_ n3_ n4_ n5_ n6_ n7_ n8_ n9_ n10_
            clear hb hbox hg
            refine hK.out _ _ trivial (fun hHeld => ?_)
            clear hK K
            refine norm_ (a' := ?_) ?_ ?_
            rotate_left
            · show Act.put _ (some 14) _ = _
              simp only [Act.put, List.setIfInBounds_toArray, List.set_cons_zero, List.set_cons_succ, i64_w, i32_w]
              rfl
            exact norm_ (by first | (simp only [putAll, Act.put, List.setIfInBounds_toArray, List.set_cons_zero, List.set_cons_succ]; done) | (simp only [putAll, Act.put, List.setIfInBounds_toArray, List.set_cons_zero, List.set_cons_succ]; rfl)) (hJ5_9_14 (.slice (some adz_v133) y132.length co69, adz_v133, gb140) _ ⟨HO134.out, ⟨_, rfl⟩, BK109.out, BK128.out, BK140.out, GW140.out, GE140.out, NB109_140.out, NB140_109.out, NB128_140.out, NB140_128.out, HB.out⟩)
      intro hJ5_9
      refine join_ (σ := Value × Addr × Nat) 8 #[false, true, true, true, true, true, true, true, true, false, false, false, false, false, true, false, false] (fun s_ => [(78, s_.1), (14, .pointer (some ⟨s_.2.2, 0, none⟩)), (81, .pointer (some (s_.2.1.add ((Go.bits .and .i64 a0 1)).toNat)))]) (fun s_ w' => (Kd.R (Kd.int .i64) 3 w' w.heap.size (fun _ => True) s_.1 y132) ∧ (∃ c_, (s_.1 : Value) = .slice (some s_.2.1) y132.length c_) ∧ (w'.heap[gb109]? = some (.cells #[.int .i64 ((rd_T23 y105 (ji8)).f0), .int .i64 ((rd_T23 y105 (ji8)).f1), .string ((rd_T23 y105 (ji8)).f2)] 23 (0, 0))) ∧ (w'.heap[gb128]? = some (.cells #[.int .i64 t124, .int .i64 t125, .string t126] 23 (0, 0))) ∧ (w'.heap[s_.2.2]? = some (.cells #[.int .i64 0, .int .i64 0, .string (⟨#[]⟩ : ByteArray)] 23 (0, 0))) ∧ (w.heap.size ≤ s_.2.2) ∧ (w.heap.size ≤ s_.2.2) ∧ (gb109 ≠ s_.2.2) ∧ (s_.2.2 ≠ gb109) ∧ (gb128 ≠ s_.2.2) ∧ (s_.2.2 ≠ gb128) ∧ (Below w.heap.size w w')) ?_ ?_
      · · skip
          rintro ⟨v133, adz_v133, gb140⟩ w69 ⟨h0_, h1_, h2_, h3_, h4_, h5_, h6_, h7_, h8_, h9_, h10_, h11_⟩
          have n0_ : Aside0 (Kd.R (Kd.int .i64) 3 w69 w.heap.size (fun _ => True) v133 y132) := ⟨h0_⟩
          have n1_ : Aside0 (∃ c_, (v133 : Value) = .slice (some adz_v133) y132.length c_) := ⟨h1_⟩
          have n2_ : Aside0 (w69.heap[gb109]? = some (.cells #[.int .i64 ((rd_T23 y105 (ji8)).f0), .int .i64 ((rd_T23 y105 (ji8)).f1), .string ((rd_T23 y105 (ji8)).f2)] 23 (0, 0))) := ⟨h2_⟩
          have n3_ : Aside0 (w69.heap[gb128]? = some (.cells #[.int .i64 t124, .int .i64 t125, .string t126] 23 (0, 0))) := ⟨h3_⟩
          have n4_ : Aside0 (w69.heap[gb140]? = some (.cells #[.int .i64 0, .int .i64 0, .string (⟨#[]⟩ : ByteArray)] 23 (0, 0))) := ⟨h4_⟩
          have n5_ : Aside0 (w.heap.size ≤ gb140) := ⟨h5_⟩
          have n6_ : Aside0 (w.heap.size ≤ gb140) := ⟨h6_⟩
          have n7_ : Aside0 (gb109 ≠ gb140) := ⟨h7_⟩
          have n8_ : Aside0 (gb140 ≠ gb109) := ⟨h8_⟩
          have n9_ : Aside0 (gb128 ≠ gb140) := ⟨h9_⟩
          have n10_ : Aside0 (gb140 ≠ gb128) := ⟨h10_⟩
          have n11_ : Aside0 (Below w.heap.size w w69) := ⟨h11_⟩
          clear BK109
          clear BK128
          clear HB
          clear h0_ h1_ h2_ h3_ h4_ h5_ h6_ h7_ h8_ h9_ h10_ h11_
          have HO134 := n0_
          have HA_HO134 := n1_
          have BK109 := n2_
          have BK128 := n3_
          have BK140 := n4_
          have GW140 := n5_
          have GE140 := n6_
          have NB109_140 := n7_
          have NB140_109 := n8_
          have NB128_140 := n9_
          have NB140_128 := n10_
          have HB := n11_
          clear n0_ n1_ n2_ n3_ n4_ n5_ n6_ n7_ n8_ n9_ n10_ n11_
          have hHeld := trivial
          obtain ⟨co70, eo70⟩ := HA_HO134.out
          clear HA_HO134
          subst eo70
          refine norm_ (a' := ?_) ?_ ?_
          rotate_left
          · simp only [putAll, Act.put, List.setIfInBounds_toArray, List.set_cons_zero, List.set_cons_succ]
            rfl
          refine two_ (i := 0) (j := 9) (Ni := some 73) (Nj := some 82) #[true, true, true, true, true, true, true, true, true, false, false, false, false, false, true, false, false] #[false, true, true, true, true, true, true, true, true, true, false, false, false, false, true, false, false] rfl rfl rfl rfl (two_of HT_.out (by kernel_rfl)) (by decide) (by decide) (fun K hK => ?_) (fun K hK => ?_)
          · skip
            refine goes_ Try.func16 (by kernel_rfl) rfl #[] (by rfl) rfl rfl (by (try simp only [List.map_toArray, List.map_cons, List.map_nil]); first | done | rfl | (simp only [List.length_drop, List.length_take]; rfl)) ?_
            with_reducible refine (coder_New.calls  t129 t130 t131 _ A17.out).mono ?_
            rintro e w71 ⟨rfl, hb⟩
            refine ⟨_, rfl, ?_⟩
            have n0_ := Aside0.mk (Kd.R_below HO134.out hb)
            have n1_ := Aside0.mk (blk_below (g := gb109) (o := .cells #[.int .i64 ((rd_T23 y105 (ji8)).f0), .int .i64 ((rd_T23 y105 (ji8)).f1), .string ((rd_T23 y105 (ji8)).f2)] 23 (0, 0)) BK109.out hb)
            have n2_ := Aside0.mk (blk_below (g := gb128) (o := .cells #[.int .i64 t124, .int .i64 t125, .string t126] 23 (0, 0)) BK128.out hb)
            have n3_ := Aside0.mk (blk_below (g := gb140) (o := .cells #[.int .i64 0, .int .i64 0, .string (⟨#[]⟩ : ByteArray)] 23 (0, 0)) BK140.out hb)
            have n4_ := Aside0.mk (below_step HB.out hb)
            clear HO134
            clear BK109
            clear BK128
            clear BK140
            clear HB
            have HO134 := n0_
            have BK109 := n1_
            have BK128 := n2_
            have BK140 := n3_
            have HB := n4_
            clear n0_ n1_ n2_ n3_ n4_
            (try clear hb)
            (try clear hb2)
            (try clear hk)
            (try clear hi)
            refine hK.out _ _ trivial (fun hHeld => ?_)
            clear hK K
            refine norm_ (a' := ?_) ?_ ?_
            rotate_left
            · show Act.put _ (some 73) _ = _
              simp only [Act.put, List.setIfInBounds_toArray, List.set_cons_zero, List.set_cons_succ, i64_w, i32_w]
              rfl
            exact norm_ (by first | (simp only [putAll, Act.put, List.setIfInBounds_toArray, List.set_cons_zero, List.set_cons_succ]; done) | (simp only [putAll, Act.put, List.setIfInBounds_toArray, List.set_cons_zero, List.set_cons_succ]; rfl)) (hJ0_5_14 (.slice (some adz_v133) y132.length co70, adz_v133, gb140) _ ⟨HO134.out, ⟨_, rfl⟩, BK109.out, BK128.out, BK140.out, GW140.out, GE140.out, NB109_140.out, NB140_109.out, NB128_140.out, NB140_128.out, HB.out⟩)
          · skip
            (have p135 : 0 ≤ ((Go.bits .and .i64 a0 1) : Int) := of_decide_eq_true (by first | (with_reducible assumption) | assumption); have q135 : (Go.bits .and .i64 a0 1) < (y132.length : Int) := of_decide_eq_true (by first | (with_reducible assumption) | assumption); obtain ⟨ad135, e135, hx135_0⟩ := Kd.at_int (Kd.R_reads' HO134.out).2.2 (Go.bits .and .i64 a0 1) p135 q135; obtain rfl : adz_v133 = ad135 := (by injection e135))
            refine value_ (w1 := ?_) (v := ?_) (by rfl) rfl ?_ ?_
            rotate_left 2
            · go_simp
              constructor
              · rfl
              · rfl
            clear hx135_0
            refine hK.out _ _ trivial (fun hHeld => ?_)
            clear hK K
            refine norm_ (a' := ?_) ?_ ?_
            rotate_left
            · show Act.put _ (some 82) _ = _
              simp only [Act.put, List.setIfInBounds_toArray, List.set_cons_zero, List.set_cons_succ, i64_w, i32_w]
              rfl
            exact norm_ (by first | (simp only [putAll, Act.put, List.setIfInBounds_toArray, List.set_cons_zero, List.set_cons_succ]; done) | (simp only [putAll, Act.put, List.setIfInBounds_toArray, List.set_cons_zero, List.set_cons_succ]; rfl)) (hJ5_9_14 (.slice (some adz_v133) y132.length co70, adz_v133, gb140) _ ⟨HO134.out, ⟨_, rfl⟩, BK109.out, BK128.out, BK140.out, GW140.out, GE140.out, NB109_140.out, NB140_109.out, NB128_140.out, NB140_128.out, HB.out⟩)
      intro hJ5_14
      refine join_ (σ := Unit) 10 #[true, true, true, true, true, false, true, true, false, false, false, false, false, false, false, false, false] (fun s_ => [(73, .agg #[.int .i64 t129, .int .i64 t130, .string t131])]) (fun s_ w' => (w'.heap[gb109]? = some (.cells #[.int .i64 ((rd_T23 y105 (ji8)).f0), .int .i64 ((rd_T23 y105 (ji8)).f1), .string ((rd_T23 y105 (ji8)).f2)] 23 (0, 0))) ∧ (w'.heap[gb128]? = some (.cells #[.int .i64 t124, .int .i64 t125, .string t126] 23 (0, 0))) ∧ (Below w.heap.size w w')) ?_ ?_
      · · skip
          rintro _ w66 ⟨h0_, h1_, h2_⟩
          have n0_ : Aside0 (w66.heap[gb109]? = some (.cells #[.int .i64 ((rd_T23 y105 (ji8)).f0), .int .i64 ((rd_T23 y105 (ji8)).f1), .string ((rd_T23 y105 (ji8)).f2)] 23 (0, 0))) := ⟨h0_⟩
          have n1_ : Aside0 (w66.heap[gb128]? = some (.cells #[.int .i64 t124, .int .i64 t125, .string t126] 23 (0, 0))) := ⟨h1_⟩
          have n2_ : Aside0 (Below w.heap.size w w66) := ⟨h2_⟩
          clear BK109
          clear BK128
          clear HB
          clear h0_ h1_ h2_
          have BK109 := n0_
          have BK128 := n1_
          have HB := n2_
          clear n0_ n1_ n2_
          have hHeld := trivial
          refine norm_ (a' := ?_) ?_ ?_
          rotate_left
          · simp only [putAll, Act.put, List.setIfInBounds_toArray, List.set_cons_zero, List.set_cons_succ]
            rfl
          refine two_ (i := 5) (j := 14) (Ni := some 78) (Nj := some 14) #[true, true, true, true, true, true, true, true, false, false, false, false, false, false, false, false, false] #[true, true, true, true, true, false, true, true, false, false, false, false, false, false, true, false, false] rfl rfl rfl rfl (two_of HT_.out (by kernel_rfl)) (by decide) (by decide) (fun K hK => ?_) (fun K hK => ?_)
          · skip
            refine Kd.R_lit_step (Kd.int .i64) _ 3 ?hg (N := 78) ?hd (xs := ([wrap64 (1 - (wrap64 (1 + (Go.bits .and .i64 a1 1023)))), wrap64 (4095 + (wrap64 (1 + (Go.bits .and .i64 a1 1023))))] : List Int)) (inner := [.int .i64 (wrap64 (1 - (wrap64 (1 + (Go.bits .and .i64 a1 1023))))), .int .i64 (wrap64 (4095 + (wrap64 (1 + (Go.bits .and .i64 a1 1023)))))]) (ok := fun _ => True) (okp := fun _ => True) ?hr ?hp (fun _ hk => hk) trivial (Below.refl _ _) (Nat.le_refl _) (by simp) ?_; (case hd => rfl); (case hg => rfl); (case hr => first | (go_simp; done) | (go_simp; rfl)); (case hp => exact (Reps.one (show Kd.M (Kd.int .i64) _ _ _ (wrap64 (1 - (wrap64 (1 + (Go.bits .and .i64 a1 1023))))) [.int .i64 (wrap64 (1 - (wrap64 (1 + (Go.bits .and .i64 a1 1023)))))] from rfl) (Reps.one (show Kd.M (Kd.int .i64) _ _ _ (wrap64 (4095 + (wrap64 (1 + (Go.bits .and .i64 a1 1023))))) [.int .i64 (wrap64 (4095 + (wrap64 (1 + (Go.bits .and .i64 a1 1023)))))] from rfl) (Reps.none _ _))))
            intro v133 w67 ho68 hb hg_ hnew_
            clear hg_ hnew_
            (first | rw [← Ny132.out] at ho68 | (simp only [Int.reduceToNat] at ho68; rw [← Ny132.out] at ho68))
            have n0_ := Aside0.mk (Kd.R_lower ho68 (below_size HB.out))
            have n1_ := Aside0.mk (blk_below (g := gb109) (o := .cells #[.int .i64 ((rd_T23 y105 (ji8)).f0), .int .i64 ((rd_T23 y105 (ji8)).f1), .string ((rd_T23 y105 (ji8)).f2)] 23 (0, 0)) BK109.out hb)
            have n2_ := Aside0.mk (blk_below (g := gb128) (o := .cells #[.int .i64 t124, .int .i64 t125, .string t126] 23 (0, 0)) BK128.out hb)
            have n3_ := Aside0.mk (below_step HB.out hb)
            clear BK109
            clear BK128
            clear HB
            have HO134 := n0_
            have BK109 := n1_
            have BK128 := n2_
            have HB := n3_
            clear n0_ n1_ n2_ n3_
            clear hb ho68
            obtain ⟨Ao69, co69, eo69⟩ := Kd.R_slice HO134.out
            subst eo69
            obtain ⟨ado69, fo69, _⟩ := Kd.at_int (Kd.R_reads' HO134.out).2.2 0 (by decide) (by rw [Ny132.out]; simp)
            cases fo69
            refine hK.out _ _ trivial (fun hHeld => ?_)
            clear hK K
            refine norm_ (a' := ?_) ?_ ?_
            rotate_left
            · show Act.put _ (some 78) _ = _
              simp only [Act.put, List.setIfInBounds_toArray, List.set_cons_zero, List.set_cons_succ, i64_w, i32_w]
              rfl
            refine pure_ (i := 8) (N := some 81) (v := ?_) (a' := ?_) #[true, true, true, true, true, true, true, true, true, false, false, false, false, false, false, false, false] rfl rfl (any_of HT_.out (by kernel_rfl)) (fun _ _ _ h => h) (Or.inl ⟨by rfl, ?_⟩) ?_ ?_
            rotate_left
            · intro w'
              go_simp
              with_reducible rfl
            rotate_left
            · simp only [Act.put, List.setIfInBounds_toArray, List.set_cons_zero, List.set_cons_succ, i64_w, i32_w]
              rfl
            exact norm_ (by first | (simp only [putAll, Act.put, List.setIfInBounds_toArray, List.set_cons_zero, List.set_cons_succ]; done) | (simp only [putAll, Act.put, List.setIfInBounds_toArray, List.set_cons_zero, List.set_cons_succ]; rfl)) (hJ0_5 (.slice (some ado69) y132.length co69, ado69) _ ⟨HO134.out, ⟨_, rfl⟩, BK109.out, BK128.out, HB.out⟩)
          · skip
            refine box_step ?hg (N := 14) ?hd (cs := #[.int .i64 0, .int .i64 0, .string (⟨#[]⟩ : ByteArray)]) (t := 23) ?hr ?_; (case hd => rfl); (case hg => rfl); (case hr => first | (go_simp; done) | (go_simp; rfl))
            intro gb140 hg w67 hbox hb
            have n0_ := Aside0.mk (blk_below (g := gb109) (o := .cells #[.int .i64 ((rd_T23 y105 (ji8)).f0), .int .i64 ((rd_T23 y105 (ji8)).f1), .string ((rd_T23 y105 (ji8)).f2)] 23 (0, 0)) BK109.out hb)
            have n1_ := Aside0.mk (blk_below (g := gb128) (o := .cells #[.int .i64 t124, .int .i64 t125, .string t126] 23 (0, 0)) BK128.out hb)
            have n2_ := Aside0.mk (below_step HB.out hb)
            have n3_ := Aside0.mk (hbox)
            have n4_ := Aside0.mk ((by rw [hg]; exact (below_size HB.out) : w.heap.size ≤ gb140))
            have n5_ := Aside0.mk ((by rw [hg]; exact (below_size HB.out) : w.heap.size ≤ gb140))
            have n6_ := Aside0.mk ((by rw [hg]; exact Nat.ne_of_lt (blk_lt (g := gb109) (o := .cells #[.int .i64 ((rd_T23 y105 (ji8)).f0), .int .i64 ((rd_T23 y105 (ji8)).f1), .string ((rd_T23 y105 (ji8)).f2)] 23 (0, 0)) BK109.out) : gb109 ≠ gb140))
            have n7_ := Aside0.mk ((by rw [hg]; exact Nat.ne_of_gt (blk_lt (g := gb109) (o := .cells #[.int .i64 ((rd_T23 y105 (ji8)).f0), .int .i64 ((rd_T23 y105 (ji8)).f1), .string ((rd_T23 y105 (ji8)).f2)] 23 (0, 0)) BK109.out) : gb140 ≠ gb109))
            have n8_ := Aside0.mk ((by rw [hg]; exact Nat.ne_of_lt (blk_lt (g := gb128) (o := .cells #[.int .i64 t124, .int .i64 t125, .string t126] 23 (0, 0)) BK128.out) : gb128 ≠ gb140))
            have n9_ := Aside0.mk ((by rw [hg]; exact Nat.ne_of_gt (blk_lt (g := gb128) (o := .cells #[.int .i64 t124, .int .i64 t125, .string t126] 23 (0, 0)) BK128.out) : gb140 ≠ gb128))
            clear BK109
            clear BK128
            clear HB
            have BK109 := n0_
            have BK128 := n1_
            have HB := n2_
            have BK140 := n3_
            have GW140 := n4_
            have GE140 := n5_
            have NB109_140 := n6_
            have NB140_109 := n7_
            have NB128_140 := n8_
            have NB140_128 := n9_
            clear n0_ n1_ n2_ n3_ n4_ n5_ n6_ n7_ n8_ n9_
            clear hb hbox hg
            refine hK.out _ _ trivial (fun hHeld => ?_)
            clear hK K
            refine norm_ (a' := ?_) ?_ ?_
            rotate_left
            · show Act.put _ (some 14) _ = _
              simp only [Act.put, List.setIfInBounds_toArray, List.set_cons_zero, List.set_cons_succ, i64_w, i32_w]
              rfl
            exact norm_ (by first | (simp only [putAll, Act.put, List.setIfInBounds_toArray, List.set_cons_zero, List.set_cons_succ]; done) | (simp only [putAll, Act.put, List.setIfInBounds_toArray, List.set_cons_zero, List.set_cons_succ]; rfl)) (hJ0_14 (gb140) _ ⟨BK109.out, BK128.out, BK140.out, GW140.out, GE140.out, NB109_140.out, NB140_109.out, NB128_140.out, NB140_128.out, HB.out⟩)
      intro hJ0
      refine join_ (σ := Value × Addr) 9 #[false, true, true, true, true, true, true, true, true, false, false, false, false, false, false, false, false] (fun s_ => [(78, s_.1), (81, .pointer (some (s_.2.add ((Go.bits .and .i64 a0 1)).toNat)))]) (fun s_ w' => (Kd.R (Kd.int .i64) 3 w' w.heap.size (fun _ => True) s_.1 y132) ∧ (∃ c_, (s_.1 : Value) = .slice (some s_.2) y132.length c_) ∧ (w'.heap[gb109]? = some (.cells #[.int .i64 ((rd_T23 y105 (ji8)).f0), .int .i64 ((rd_T23 y105 (ji8)).f1), .string ((rd_T23 y105 (ji8)).f2)] 23 (0, 0))) ∧ (w'.heap[gb128]? = some (.cells #[.int .i64 t124, .int .i64 t125, .string t126] 23 (0, 0))) ∧ (Below w.heap.size w w')) ?_ ?_
      · · skip
          rintro ⟨v133, adz_v133⟩ w68 ⟨h0_, h1_, h2_, h3_, h4_⟩
          have n0_ : Aside0 (Kd.R (Kd.int .i64) 3 w68 w.heap.size (fun _ => True) v133 y132) := ⟨h0_⟩
          have n1_ : Aside0 (∃ c_, (v133 : Value) = .slice (some adz_v133) y132.length c_) := ⟨h1_⟩
          have n2_ : Aside0 (w68.heap[gb109]? = some (.cells #[.int .i64 ((rd_T23 y105 (ji8)).f0), .int .i64 ((rd_T23 y105 (ji8)).f1), .string ((rd_T23 y105 (ji8)).f2)] 23 (0, 0))) := ⟨h2_⟩
          have n3_ : Aside0 (w68.heap[gb128]? = some (.cells #[.int .i64 t124, .int .i64 t125, .string t126] 23 (0, 0))) := ⟨h3_⟩
          have n4_ : Aside0 (Below w.heap.size w w68) := ⟨h4_⟩
          clear BK109
          clear BK128
          clear HB
          clear h0_ h1_ h2_ h3_ h4_
          have HO134 := n0_
          have HA_HO134 := n1_
          have BK109 := n2_
          have BK128 := n3_
          have HB := n4_
          clear n0_ n1_ n2_ n3_ n4_
          have hHeld := trivial
          obtain ⟨co69, eo69⟩ := HA_HO134.out
          clear HA_HO134
          subst eo69
          refine norm_ (a' := ?_) ?_ ?_
          rotate_left
          · simp only [putAll, Act.put, List.setIfInBounds_toArray, List.set_cons_zero, List.set_cons_succ]
            rfl
          refine three_ (i := 0) (j := 9) (k := 14) (Ni := some 73) (Nj := some 82) (Nk := some 14) #[true, true, true, true, true, true, true, true, true, false, false, false, false, false, false, false, false] #[false, true, true, true, true, true, true, true, true, true, false, false, false, false, false, false, false] #[false, true, true, true, true, true, true, true, true, false, false, false, false, false, true, false, false] rfl rfl rfl rfl rfl rfl (three_of HT_.out (by kernel_rfl)) (by decide) (by decide) (by decide) (fun K hK => ?_) (fun K hK => ?_) (fun K hK => ?_)
          · skip
            refine goes_ Try.func16 (by kernel_rfl) rfl #[] (by rfl) rfl rfl (by (try simp only [List.map_toArray, List.map_cons, List.map_nil]); first | done | rfl | (simp only [List.length_drop, List.length_take]; rfl)) ?_
            with_reducible refine (coder_New.calls  t129 t130 t131 _ A17.out).mono ?_
            rintro e w70 ⟨rfl, hb⟩
            refine ⟨_, rfl, ?_⟩
            have n0_ := Aside0.mk (Kd.R_below HO134.out hb)
            have n1_ := Aside0.mk (blk_below (g := gb109) (o := .cells #[.int .i64 ((rd_T23 y105 (ji8)).f0), .int .i64 ((rd_T23 y105 (ji8)).f1), .string ((rd_T23 y105 (ji8)).f2)] 23 (0, 0)) BK109.out hb)
            have n2_ := Aside0.mk (blk_below (g := gb128) (o := .cells #[.int .i64 t124, .int .i64 t125, .string t126] 23 (0, 0)) BK128.out hb)
            have n3_ := Aside0.mk (below_step HB.out hb)
            clear HO134
            clear BK109
            clear BK128
            clear HB
            have HO134 := n0_
            have BK109 := n1_
            have BK128 := n2_
            have HB := n3_
            clear n0_ n1_ n2_ n3_
            (try clear hb)
            (try clear hb2)
            (try clear hk)
            (try clear hi)
            refine hK.out _ _ trivial (fun hHeld => ?_)
            clear hK K
            refine norm_ (a' := ?_) ?_ ?_
            rotate_left
            · show Act.put _ (some 73) _ = _
              simp only [Act.put, List.setIfInBounds_toArray, List.set_cons_zero, List.set_cons_succ, i64_w, i32_w]
              rfl
            exact norm_ (by first | (simp only [putAll, Act.put, List.setIfInBounds_toArray, List.set_cons_zero, List.set_cons_succ]; done) | (simp only [putAll, Act.put, List.setIfInBounds_toArray, List.set_cons_zero, List.set_cons_succ]; rfl)) (hJ0_5 (.slice (some adz_v133) y132.length co69, adz_v133) _ ⟨HO134.out, ⟨_, rfl⟩, BK109.out, BK128.out, HB.out⟩)
          · skip
            (have p135 : 0 ≤ ((Go.bits .and .i64 a0 1) : Int) := of_decide_eq_true (by first | (with_reducible assumption) | assumption); have q135 : (Go.bits .and .i64 a0 1) < (y132.length : Int) := of_decide_eq_true (by first | (with_reducible assumption) | assumption); obtain ⟨ad135, e135, hx135_0⟩ := Kd.at_int (Kd.R_reads' HO134.out).2.2 (Go.bits .and .i64 a0 1) p135 q135; obtain rfl : adz_v133 = ad135 := (by injection e135))
            refine value_ (w1 := ?_) (v := ?_) (by rfl) rfl ?_ ?_
            rotate_left 2
            · go_simp
              constructor
              · rfl
              · rfl
            clear hx135_0
            refine hK.out _ _ trivial (fun hHeld => ?_)
            clear hK K
            refine norm_ (a' := ?_) ?_ ?_
            rotate_left
            · show Act.put _ (some 82) _ = _
              simp only [Act.put, List.setIfInBounds_toArray, List.set_cons_zero, List.set_cons_succ, i64_w, i32_w]
              rfl
            exact norm_ (by first | (simp only [putAll, Act.put, List.setIfInBounds_toArray, List.set_cons_zero, List.set_cons_succ]; done) | (simp only [putAll, Act.put, List.setIfInBounds_toArray, List.set_cons_zero, List.set_cons_succ]; rfl)) (hJ5_9 (.slice (some adz_v133) y132.length co69, adz_v133) _ ⟨HO134.out, ⟨_, rfl⟩, BK109.out, BK128.out, HB.out⟩)
          · skip
            refine box_step ?hg (N := 14) ?hd (cs := #[.int .i64 0, .int .i64 0, .string (⟨#[]⟩ : ByteArray)]) (t := 23) ?hr ?_; (case hd => rfl); (case hg => rfl); (case hr => first | (go_simp; done) | (go_simp; rfl))
            intro gb140 hg w70 hbox hb
            have n0_ := Aside0.mk (Kd.R_below HO134.out hb)
            have n1_ := Aside0.mk (blk_below (g := gb109) (o := .cells #[.int .i64 ((rd_T23 y105 (ji8)).f0), .int .i64 ((rd_T23 y105 (ji8)).f1), .string ((rd_T23 y105 (ji8)).f2)] 23 (0, 0)) BK109.out hb)
            have n2_ := Aside0.mk (blk_below (g := gb128) (o := .cells #[.int .i64 t124, .int .i64 t125, .string t126] 23 (0, 0)) BK128.out hb)
            have n3_ := Aside0.mk (below_step HB.out hb)
            have n4_ := Aside0.mk (hbox)
            have n5_ := Aside0.mk ((by rw [hg]; exact (below_size HB.out) : w.heap.size ≤ gb140))
            have n6_ := Aside0.mk ((by rw [hg]; exact (below_size HB.out) : w.heap.size ≤ gb140))
            have n7_ := Aside0.mk ((by rw [hg]; exact Nat.ne_of_lt (blk_lt (g := gb109) (o := .cells #[.int .i64 ((rd_T23 y105 (ji8)).f0), .int .i64 ((rd_T23 y105 (ji8)).f1), .string ((rd_T23 y105 (ji8)).f2)] 23 (0, 0)) BK109.out) : gb109 ≠ gb140))
            have n8_ := Aside0.mk ((by rw [hg]; exact Nat.ne_of_gt (blk_lt (g := gb109) (o := .cells #[.int .i64 ((rd_T23 y105 (ji8)).f0), .int .i64 ((rd_T23 y105 (ji8)).f1), .string ((rd_T23 y105 (ji8)).f2)] 23 (0, 0)) BK109.out) : gb140 ≠ gb109))
            have n9_ := Aside0.mk ((by rw [hg]; exact Nat.ne_of_lt (blk_lt (g := gb128) (o := .cells #[.int .i64 t124, .int .i64 t125, .string t126] 23 (0, 0)) BK128.out) : gb128 ≠ gb140))
            have n10_ := Aside0.mk ((by rw [hg]; exact Nat.ne_of_gt (blk_lt (g := gb128) (o := .cells #[.int .i64 t124, .int .i64 t125, .string t126] 23 (0, 0)) BK128.out) : gb140 ≠ gb128))
            clear HO134
            clear BK109
            clear BK128
            clear HB
            have HO134 := n0_
            have BK109 := n1_
            have BK128 := n2_
            have HB := n3_
            have BK140 := n4_
            have GW140 := n5_
            have GE140 := n6_
            have NB109_140 := n7_
            have NB140_109 := n8_
            have NB128_140 := n9_
            have NB140_128 := n10_
            clear n0_ n1_ n2_ n3_ n4_ n5_ n6_ n7_ n8_ n9_ n10_
            clear hb hbox hg
            refine hK.out _ _ trivial (fun hHeld => ?_)
            clear hK K
            refine norm_ (a' := ?_) ?_ ?_
            rotate_left
            · show Act.put _ (some 14) _ = _
              simp only [Act.put, List.setIfInBounds_toArray, List.set_cons_zero, List.set_cons_succ, i64_w, i32_w]
              rfl
            exact norm_ (by first | (simp only [putAll, Act.put, List.setIfInBounds_toArray, List.set_cons_zero, List.set_cons_succ]; done) | (simp only [putAll, Act.put, List.setIfInBounds_toArray, List.set_cons_zero, List.set_cons_succ]; rfl)) (hJ5_14 (.slice (some adz_v133) y132.length co69, adz_v133, gb140) _ ⟨HO134.out, ⟨_, rfl⟩, BK109.out, BK128.out, BK140.out, GW140.out, GE140.out, NB109_140.out, NB140_109.out, NB128_140.out, NB140_128.out, HB.out⟩)
      intro hJ5
      refine join_ (σ := Nat) 10 #[false, true, true, true, true, false, true, true, false, false, false, false, false, false, true, false, false] (fun s_ => [(14, .pointer (some ⟨s_, 0, none⟩))]) (fun s_ w' => (w'.heap[gb109]? = some (.cells #[.int .i64 ((rd_T23 y105 (ji8)).f0), .int .i64 ((rd_T23 y105 (ji8)).f1), .string ((rd_T23 y105 (ji8)).f2)] 23 (0, 0))) ∧ (w'.heap[gb128]? = some (.cells #[.int .i64 t124, .int .i64 t125, .string t126] 23 (0, 0))) ∧ (w'.heap[s_]? = some (.cells #[.int .i64 0, .int .i64 0, .string (⟨#[]⟩ : ByteArray)] 23 (0, 0))) ∧ (w.heap.size ≤ s_) ∧ (w.heap.size ≤ s_) ∧ (gb109 ≠ s_) ∧ (s_ ≠ gb109) ∧ (gb128 ≠ s_) ∧ (s_ ≠ gb128) ∧ (Below w.heap.size w w')) ?_ ?_
      · · skip
          rintro gb140 w66 ⟨h0_, h1_, h2_, h3_, h4_, h5_, h6_, h7_, h8_, h9_⟩
          have n0_ : Aside0 (w66.heap[gb109]? = some (.cells #[.int .i64 ((rd_T23 y105 (ji8)).f0), .int .i64 ((rd_T23 y105 (ji8)).f1), .string ((rd_T23 y105 (ji8)).f2)] 23 (0, 0))) := ⟨h0_⟩
          have n1_ : Aside0 (w66.heap[gb128]? = some (.cells #[.int .i64 t124, .int .i64 t125, .string t126] 23 (0, 0))) := ⟨h1_⟩
          have n2_ : Aside0 (w66.heap[gb140]? = some (.cells #[.int .i64 0, .int .i64 0, .string (⟨#[]⟩ : ByteArray)] 23 (0, 0))) := ⟨h2_⟩
          have n3_ : Aside0 (w.heap.size ≤ gb140) := ⟨h3_⟩
          have n4_ : Aside0 (w.heap.size ≤ gb140) := ⟨h4_⟩
          have n5_ : Aside0 (gb109 ≠ gb140) := ⟨h5_⟩
          have n6_ : Aside0 (gb140 ≠ gb109) := ⟨h6_⟩
          have n7_ : Aside0 (gb128 ≠ gb140) := ⟨h7_⟩
          have n8_ : Aside0 (gb140 ≠ gb128) := ⟨h8_⟩
          have n9_ : Aside0 (Below w.heap.size w w66) := ⟨h9_⟩
          clear BK109
          clear BK128
          clear HB
          clear h0_ h1_ h2_ h3_ h4_ h5_ h6_ h7_ h8_ h9_
          have BK109 := n0_
          have BK128 := n1_
          have BK140 := n2_
          have GW140 := n3_
          have GE140 := n4_
          have NB109_140 := n5_
          have NB140_109 := n6_
          have NB128_140 := n7_
          have NB140_128 := n8_
          have HB := n9_
          clear n0_ n1_ n2_ n3_ n4_ n5_ n6_ n7_ n8_ n9_
          have hHeld := trivial
          refine norm_ (a' := ?_) ?_ ?_
          rotate_left
          · simp only [putAll, Act.put, List.setIfInBounds_toArray, List.set_cons_zero, List.set_cons_succ]
            rfl
          refine two_ (i := 0) (j := 5) (Ni := some 73) (Nj := some 78) #[true, true, true, true, true, false, true, true, false, false, false, false, false, false, true, false, false] #[false, true, true, true, true, true, true, true, false, false, false, false, false, false, true, false, false] rfl rfl rfl rfl (two_of HT_.out (by kernel_rfl)) (by decide) (by decide) (fun K hK => ?_) (fun K hK => ?_)
          · skip
            refine goes_ Try.func16 (by kernel_rfl) rfl #[] (by rfl) rfl rfl (by (try simp only [List.map_toArray, List.map_cons, List.map_nil]); first | done | rfl | (simp only [List.length_drop, List.length_take]; rfl)) ?_
            with_reducible refine (coder_New.calls  t129 t130 t131 _ A17.out).mono ?_
            rintro e w67 ⟨rfl, hb⟩
            refine ⟨_, rfl, ?_⟩
            have n0_ := Aside0.mk (blk_below (g := gb109) (o := .cells #[.int .i64 ((rd_T23 y105 (ji8)).f0), .int .i64 ((rd_T23 y105 (ji8)).f1), .string ((rd_T23 y105 (ji8)).f2)] 23 (0, 0)) BK109.out hb)
            have n1_ := Aside0.mk (blk_below (g := gb128) (o := .cells #[.int .i64 t124, .int .i64 t125, .string t126] 23 (0, 0)) BK128.out hb)
            have n2_ := Aside0.mk (blk_below (g := gb140) (o := .cells #[.int .i64 0, .int .i64 0, .string (⟨#[]⟩ : ByteArray)] 23 (0, 0)) BK140.out hb)
            have n3_ := Aside0.mk (below_step HB.out hb)
            clear BK109
            clear BK128
            clear BK140
            clear HB
            have BK109 := n0_
            have BK128 := n1_
            have BK140 := n2_
            have HB := n3_
            clear n0_ n1_ n2_ n3_
            (try clear hb)
            (try clear hb2)
            (try clear hk)
            (try clear hi)
            refine hK.out _ _ trivial (fun hHeld => ?_)
            clear hK K
            refine norm_ (a' := ?_) ?_ ?_
            rotate_left
            · show Act.put _ (some 73) _ = _
              simp only [Act.put, List.setIfInBounds_toArray, List.set_cons_zero, List.set_cons_succ, i64_w, i32_w]
              rfl
            exact norm_ (by first | (simp only [putAll, Act.put, List.setIfInBounds_toArray, List.set_cons_zero, List.set_cons_succ]; done) | (simp only [putAll, Act.put, List.setIfInBounds_toArray, List.set_cons_zero, List.set_cons_succ]; rfl)) (hJ0_14 (gb140) _ ⟨BK109.out, BK128.out, BK140.out, GW140.out, GE140.out, NB109_140.out, NB140_109.out, NB128_140.out, NB140_128.out, HB.out⟩)
          · skip
            refine Kd.R_lit_step (Kd.int .i64) _ 3 ?hg (N := 78) ?hd (xs := ([wrap64 (1 - (wrap64 (1 + (Go.bits .and .i64 a1 1023)))), wrap64 (4095 + (wrap64 (1 + (Go.bits .and .i64 a1 1023))))] : List Int)) (inner := [.int .i64 (wrap64 (1 - (wrap64 (1 + (Go.bits .and .i64 a1 1023))))), .int .i64 (wrap64 (4095 + (wrap64 (1 + (Go.bits .and .i64 a1 1023)))))]) (ok := fun _ => True) (okp := fun _ => True) ?hr ?hp (fun _ hk => hk) trivial (Below.refl _ _) (Nat.le_refl _) (by simp) ?_; (case hd => rfl); (case hg => rfl); (case hr => first | (go_simp; done) | (go_simp; rfl)); (case hp => exact (Reps.one (show Kd.M (Kd.int .i64) _ _ _ (wrap64 (1 - (wrap64 (1 + (Go.bits .and .i64 a1 1023))))) [.int .i64 (wrap64 (1 - (wrap64 (1 + (Go.bits .and .i64 a1 1023)))))] from rfl) (Reps.one (show Kd.M (Kd.int .i64) _ _ _ (wrap64 (4095 + (wrap64 (1 + (Go.bits .and .i64 a1 1023))))) [.int .i64 (wrap64 (4095 + (wrap64 (1 + (Go.bits .and .i64 a1 1023)))))] from rfl) (Reps.none _ _))))
            intro v133 w67 ho68 hb hg_ hnew_
            clear hg_ hnew_
            (first | rw [← Ny132.out] at ho68 | (simp only [Int.reduceToNat] at ho68; rw [← Ny132.out] at ho68))
            have n0_ := Aside0.mk (Kd.R_lower ho68 (below_size HB.out))
            have n1_ := Aside0.mk (blk_below (g := gb109) (o := .cells #[.int .i64 ((rd_T23 y105 (ji8)).f0), .int .i64 ((rd_T23 y105 (ji8)).f1), .string ((rd_T23 y105 (ji8)).f2)] 23 (0, 0)) BK109.out hb)
            have n2_ := Aside0.mk (blk_below (g := gb128) (o := .cells #[.int .i64 t124, .int .i64 t125, .string t126] 23 (0, 0)) BK128.out hb)
            have n3_ := Aside0.mk (blk_below (g := gb140) (o := .cells #[.int .i64 0, .int .i64 0, .string (⟨#[]⟩ : ByteArray)] 23 (0, 0)) BK140.out hb)
            have n4_ := Aside0.mk (below_step HB.out hb)
            clear BK109
            clear BK128
            clear BK140
            clear HB
            have HO134 := n0_
            have BK109 := n1_
            have BK128 := n2_
            have BK140 := n3_
            have HB := n4_
            clear n0_ n1_ n2_ n3_ n4_
            clear hb ho68
            obtain ⟨Ao69, co69, eo69⟩ := Kd.R_slice HO134.out
            subst eo69
            obtain ⟨ado69, fo69, _⟩ := Kd.at_int (Kd.R_reads' HO134.out).2.2 0 (by decide) (by rw [Ny132.out]; simp)
            cases fo69
            refine hK.out _ _ trivial (fun hHeld => ?_)
            clear hK K
            refine norm_ (a' := ?_) ?_ ?_
            rotate_left
            · show Act.put _ (some 78) _ = _
              simp only [Act.put, List.setIfInBounds_toArray, List.set_cons_zero, List.set_cons_succ, i64_w, i32_w]
              rfl
            refine pure_ (i := 8) (N := some 81) (v := ?_) (a' := ?_) #[false, true, true, true, true, true, true, true, true, false, false, false, false, false, true, false, false] rfl rfl (any_of HT_.out (by kernel_rfl)) (fun _ _ _ h => h) (Or.inl ⟨by rfl, ?_⟩) ?_ ?_
            rotate_left
            · intro w'
              go_simp
              with_reducible rfl
            rotate_left
            · simp only [Act.put, List.setIfInBounds_toArray, List.set_cons_zero, List.set_cons_succ, i64_w, i32_w]
              rfl
            exact norm_ (by first | (simp only [putAll, Act.put, List.setIfInBounds_toArray, List.set_cons_zero, List.set_cons_succ]; done) | (simp only [putAll, Act.put, List.setIfInBounds_toArray, List.set_cons_zero, List.set_cons_succ]; rfl)) (hJ5_14 (.slice (some ado69) y132.length co69, ado69, gb140) _ ⟨HO134.out, ⟨_, rfl⟩, BK109.out, BK128.out, BK140.out, GW140.out, GE140.out, NB109_140.out, NB140_109.out, NB128_140.out, NB140_128.out, HB.out⟩)
      intro hJ14
      refine three_ (i := 0) (j := 5) (k := 14) (Ni := some 73) (Nj := some 78) (Nk := some 14) #[true, true, true, true, true, false, true, true, false, false, false, false, false, false, false, false, false] #[false, true, true, true, true, true, true, true, false, false, false, false, false, false, false, false, false] #[false, true, true, true, true, false, true, true, false, false, false, false, false, false, true, false, false] rfl rfl rfl rfl rfl rfl (three_of HT_.out (by kernel_rfl)) (by decide) (by decide) (by decide) (fun K hK => ?_) (fun K hK => ?_) (fun K hK => ?_)
      · skip
        refine goes_ Try.func16 (by kernel_rfl) rfl #[] (by rfl) rfl rfl (by (try simp only [List.map_toArray, List.map_cons, List.map_nil]); first | done | rfl | (simp only [List.length_drop, List.length_take]; rfl)) ?_
        with_reducible refine (coder_New.calls  t129 t130 t131 _ A17.out).mono ?_
        rintro e w65 ⟨rfl, hb⟩
        refine ⟨_, rfl, ?_⟩
        have n0_ := Aside0.mk (blk_below (g := gb109) (o := .cells #[.int .i64 ((rd_T23 y105 (ji8)).f0), .int .i64 ((rd_T23 y105 (ji8)).f1), .string ((rd_T23 y105 (ji8)).f2)] 23 (0, 0)) BK109.out hb)
        have n1_ := Aside0.mk (blk_below (g := gb128) (o := .cells #[.int .i64 t124, .int .i64 t125, .string t126] 23 (0, 0)) BK128.out hb)
        have n2_ := Aside0.mk (below_step HB.out hb)
        clear BK109
        clear BK128
        clear HB
        have BK109 := n0_
        have BK128 := n1_
        have HB := n2_
        clear n0_ n1_ n2_
        (try clear hb)
        (try clear hb2)
        (try clear hk)
        (try clear hi)
        refine hK.out _ _ trivial (fun hHeld => ?_)
        clear hK K
        refine norm_ (a' := ?_) ?_ ?_
        rotate_left
        · show Act.put _ (some 73) _ = _
          simp only [Act.put, List.setIfInBounds_toArray, List.set_cons_zero, List.set_cons_succ, i64_w, i32_w]
          rfl
        exact norm_ (by first | (simp only [putAll, Act.put, List.setIfInBounds_toArray, List.set_cons_zero, List.set_cons_succ]; done) | (simp only [putAll, Act.put, List.setIfInBounds_toArray, List.set_cons_zero, List.set_cons_succ]; rfl)) (hJ0 () _ ⟨BK109.out, BK128.out, HB.out⟩)
      · skip
        refine Kd.R_lit_step (Kd.int .i64) _ 3 ?hg (N := 78) ?hd (xs := ([wrap64 (1 - (wrap64 (1 + (Go.bits .and .i64 a1 1023)))), wrap64 (4095 + (wrap64 (1 + (Go.bits .and .i64 a1 1023))))] : List Int)) (inner := [.int .i64 (wrap64 (1 - (wrap64 (1 + (Go.bits .and .i64 a1 1023))))), .int .i64 (wrap64 (4095 + (wrap64 (1 + (Go.bits .and .i64 a1 1023)))))]) (ok := fun _ => True) (okp := fun _ => True) ?hr ?hp (fun _ hk => hk) trivial (Below.refl _ _) (Nat.le_refl _) (by simp) ?_; (case hd => rfl); (case hg => rfl); (case hr => first | (go_simp; done) | (go_simp; rfl)); (case hp => exact (Reps.one (show Kd.M (Kd.int .i64) _ _ _ (wrap64 (1 - (wrap64 (1 + (Go.bits .and .i64 a1 1023))))) [.int .i64 (wrap64 (1 - (wrap64 (1 + (Go.bits .and .i64 a1 1023)))))] from rfl) (Reps.one (show Kd.M (Kd.int .i64) _ _ _ (wrap64 (4095 + (wrap64 (1 + (Go.bits .and .i64 a1 1023))))) [.int .i64 (wrap64 (4095 + (wrap64 (1 + (Go.bits .and .i64 a1 1023)))))] from rfl) (Reps.none _ _))))
        intro v133 w65 ho66 hb hg_ hnew_
        clear hg_ hnew_
        (first | rw [← Ny132.out] at ho66 | (simp only [Int.reduceToNat] at ho66; rw [← Ny132.out] at ho66))
        have n0_ := Aside0.mk (Kd.R_lower ho66 (below_size HB.out))
        have n1_ := Aside0.mk (blk_below (g := gb109) (o := .cells #[.int .i64 ((rd_T23 y105 (ji8)).f0), .int .i64 ((rd_T23 y105 (ji8)).f1), .string ((rd_T23 y105 (ji8)).f2)] 23 (0, 0)) BK109.out hb)
        have n2_ := Aside0.mk (blk_below (g := gb128) (o := .cells #[.int .i64 t124, .int .i64 t125, .string t126] 23 (0, 0)) BK128.out hb)
        have n3_ := Aside0.mk (below_step HB.out hb)
        clear BK109
        clear BK128
        clear HB
        have HO134 := n0_
        have BK109 := n1_
        have BK128 := n2_
        have HB := n3_
        clear n0_ n1_ n2_ n3_
        clear hb ho66
        obtain ⟨Ao67, co67, eo67⟩ := Kd.R_slice HO134.out
        subst eo67
        obtain ⟨ado67, fo67, _⟩ := Kd.at_int (Kd.R_reads' HO134.out).2.2 0 (by decide) (by rw [Ny132.out]; simp)
        cases fo67
        refine hK.out _ _ trivial (fun hHeld => ?_)
        clear hK K
        refine norm_ (a' := ?_) ?_ ?_
        rotate_left
        · show Act.put _ (some 78) _ = _
          simp only [Act.put, List.setIfInBounds_toArray, List.set_cons_zero, List.set_cons_succ, i64_w, i32_w]
          rfl
        refine pure_ (i := 8) (N := some 81) (v := ?_) (a' := ?_) #[false, true, true, true, true, true, true, true, true, false, false, false, false, false, false, false, false] rfl rfl (any_of HT_.out (by kernel_rfl)) (fun _ _ _ h => h) (Or.inl ⟨by rfl, ?_⟩) ?_ ?_
        rotate_left
        · intro w'
          go_simp
          with_reducible rfl
        rotate_left
        · simp only [Act.put, List.setIfInBounds_toArray, List.set_cons_zero, List.set_cons_succ, i64_w, i32_w]
          rfl
        exact norm_ (by first | (simp only [putAll, Act.put, List.setIfInBounds_toArray, List.set_cons_zero, List.set_cons_succ]; done) | (simp only [putAll, Act.put, List.setIfInBounds_toArray, List.set_cons_zero, List.set_cons_succ]; rfl)) (hJ5 (.slice (some ado67) y132.length co67, ado67) _ ⟨HO134.out, ⟨_, rfl⟩, BK109.out, BK128.out, HB.out⟩)
      · skip
        refine box_step ?hg (N := 14) ?hd (cs := #[.int .i64 0, .int .i64 0, .string (⟨#[]⟩ : ByteArray)]) (t := 23) ?hr ?_; (case hd => rfl); (case hg => rfl); (case hr => first | (go_simp; done) | (go_simp; rfl))
        intro gb140 hg w65 hbox hb
        have n0_ := Aside0.mk (blk_below (g := gb109) (o := .cells #[.int .i64 ((rd_T23 y105 (ji8)).f0), .int .i64 ((rd_T23 y105 (ji8)).f1), .string ((rd_T23 y105 (ji8)).f2)] 23 (0, 0)) BK109.out hb)
        have n1_ := Aside0.mk (blk_below (g := gb128) (o := .cells #[.int .i64 t124, .int .i64 t125, .string t126] 23 (0, 0)) BK128.out hb)
        have n2_ := Aside0.mk (below_step HB.out hb)
        have n3_ := Aside0.mk (hbox)
        have n4_ := Aside0.mk ((by rw [hg]; exact (below_size HB.out) : w.heap.size ≤ gb140))
        have n5_ := Aside0.mk ((by rw [hg]; exact (below_size HB.out) : w.heap.size ≤ gb140))
        have n6_ := Aside0.mk ((by rw [hg]; exact Nat.ne_of_lt (blk_lt (g := gb109) (o := .cells #[.int .i64 ((rd_T23 y105 (ji8)).f0), .int .i64 ((rd_T23 y105 (ji8)).f1), .string ((rd_T23 y105 (ji8)).f2)] 23 (0, 0)) BK109.out) : gb109 ≠ gb140))
        have n7_ := Aside0.mk ((by rw [hg]; exact Nat.ne_of_gt (blk_lt (g := gb109) (o := .cells #[.int .i64 ((rd_T23 y105 (ji8)).f0), .int .i64 ((rd_T23 y105 (ji8)).f1), .string ((rd_T23 y105 (ji8)).f2)] 23 (0, 0)) BK109.out) : gb140 ≠ gb109))
        have n8_ := Aside0.mk ((by rw [hg]; exact Nat.ne_of_lt (blk_lt (g := gb128) (o := .cells #[.int .i64 t124, .int .i64 t125, .string t126] 23 (0, 0)) BK128.out) : gb128 ≠ gb140))
        have n9_ := Aside0.mk ((by rw [hg]; exact Nat.ne_of_gt (blk_lt (g := gb128) (o := .cells #[.int .i64 t124, .int .i64 t125, .string t126] 23 (0, 0)) BK128.out) : gb140 ≠ gb128))
        clear BK109
        clear BK128
        clear HB
        have BK109 := n0_
        have BK128 := n1_
        have HB := n2_
        have BK140 := n3_
        have GW140 := n4_
        have GE140 := n5_
        have NB109_140 := n6_
        have NB140_109 := n7_
        have NB128_140 := n8_
        have NB140_128 := n9_
        clear n0_ n1_ n2_ n3_ n4_ n5_ n6_ n7_ n8_ n9_
        clear hb hbox hg
        refine hK.out _ _ trivial (fun hHeld => ?_)
        clear hK K
        refine norm_ (a' := ?_) ?_ ?_
        rotate_left
        · show Act.put _ (some 14) _ = _
          simp only [Act.put, List.setIfInBounds_toArray, List.set_cons_zero, List.set_cons_succ, i64_w, i32_w]
          rfl
        exact norm_ (by first | (simp only [putAll, Act.put, List.setIfInBounds_toArray, List.set_cons_zero, List.set_cons_succ]; done) | (simp only [putAll, Act.put, List.setIfInBounds_toArray, List.set_cons_zero, List.set_cons_succ]; rfl)) (hJ14 (gb140) _ ⟨BK109.out, BK128.out, BK140.out, GW140.out, GE140.out, NB109_140.out, NB140_109.out, NB128_140.out, NB140_128.out, HB.out⟩)
    intro hJ0_5_9_10_14
    refine join_ (σ := Value × Addr) 3 #[true, true, true, true, true, true, true, true, true, true, true, true, true, true, false, false, false] (fun s_ => [(59, .agg #[.int .i64 t117, .int .i64 t118, .string t119]), (64, s_.1), (68, .int .i64 (rd y120 (Go.bits .and .i64 a0 1))), (69, .tuple #[.agg #[.int .i64 t124, .int .i64 t125, .string t126], .int .i64 t127]), (67, .pointer (some (s_.2.add ((Go.bits .and .i64 a0 1)).toNat))), (58, .tuple #[.agg #[.int .i64 t124, .int .i64 t125, .string t126], .int .i64 t127]), (70, .agg #[.int .i64 t124, .int .i64 t125, .string t126]), (71, .int .i64 t127)]) (fun s_ w' => (Kd.R (Kd.int .i64) 3 w' w.heap.size (fun _ => True) s_.1 y120) ∧ (∃ c_, (s_.1 : Value) = .slice (some s_.2) y120.length c_) ∧ (w'.heap[gb109]? = some (.cells #[.int .i64 ((rd_T23 y105 (ji8)).f0), .int .i64 ((rd_T23 y105 (ji8)).f1), .string ((rd_T23 y105 (ji8)).f2)] 23 (0, 0))) ∧ (Below w.heap.size w w')) ?_ ?_
    · · skip
        rintro ⟨v121, adz_v121⟩ w57 ⟨h0_, h1_, h2_, h3_⟩
        have n0_ : Aside0 (Kd.R (Kd.int .i64) 3 w57 w.heap.size (fun _ => True) v121 y120) := ⟨h0_⟩
        have n1_ : Aside0 (∃ c_, (v121 : Value) = .slice (some adz_v121) y120.length c_) := ⟨h1_⟩
        have n2_ : Aside0 (w57.heap[gb109]? = some (.cells #[.int .i64 ((rd_T23 y105 (ji8)).f0), .int .i64 ((rd_T23 y105 (ji8)).f1), .string ((rd_T23 y105 (ji8)).f2)] 23 (0, 0))) := ⟨h2_⟩
        have n3_ : Aside0 (Below w.heap.size w w57) := ⟨h3_⟩
        clear BK109
        clear HB
        clear h0_ h1_ h2_ h3_
        have HO122 := n0_
        have HA_HO122 := n1_
        have BK109 := n2_
        have HB := n3_
        clear n0_ n1_ n2_ n3_
        have hHeld := trivial
        obtain ⟨co58, eo58⟩ := HA_HO122.out
        clear HA_HO122
        subst eo58
        refine norm_ (a' := ?_) ?_ ?_
        rotate_left
        · simp only [putAll, Act.put, List.setIfInBounds_toArray, List.set_cons_zero, List.set_cons_succ]
          rfl
        refine one_ (i := 14) (N := some 12) #[true, true, true, true, true, true, true, true, true, true, true, true, true, true, true, false, false] rfl rfl (one_of HT_.out (by kernel_rfl)) (by decide) (fun K hK => ?_)
        refine box_step ?hg (N := 12) ?hd (cs := #[.int .i64 0, .int .i64 0, .string (⟨#[]⟩ : ByteArray)]) (t := 23) ?hr ?_; (case hd => rfl); (case hg => rfl); (case hr => first | (go_simp; done) | (go_simp; rfl))
        intro gb128 hg w59 hbox hb
        have n0_ := Aside0.mk (Kd.R_below HO122.out hb)
        have n1_ := Aside0.mk (blk_below (g := gb109) (o := .cells #[.int .i64 ((rd_T23 y105 (ji8)).f0), .int .i64 ((rd_T23 y105 (ji8)).f1), .string ((rd_T23 y105 (ji8)).f2)] 23 (0, 0)) BK109.out hb)
        have n2_ := Aside0.mk (below_step HB.out hb)
        have n3_ := Aside0.mk (hbox)
        have n4_ := Aside0.mk ((by rw [hg]; exact (below_size HB.out) : w.heap.size ≤ gb128))
        have n5_ := Aside0.mk ((by rw [hg]; exact (below_size HB.out) : w.heap.size ≤ gb128))
        have n6_ := Aside0.mk ((by rw [hg]; exact Nat.ne_of_lt (blk_lt (g := gb109) (o := .cells #[.int .i64 ((rd_T23 y105 (ji8)).f0), .int .i64 ((rd_T23 y105 (ji8)).f1), .string ((rd_T23 y105 (ji8)).f2)] 23 (0, 0)) BK109.out) : gb109 ≠ gb128))
        have n7_ := Aside0.mk ((by rw [hg]; exact Nat.ne_of_gt (blk_lt (g := gb109) (o := .cells #[.int .i64 ((rd_T23 y105 (ji8)).f0), .int .i64 ((rd_T23 y105 (ji8)).f1), .string ((rd_T23 y105 (ji8)).f2)] 23 (0, 0)) BK109.out) : gb128 ≠ gb109))
        clear HO122
        clear BK109
        clear HB
        have HO122 := n0_
        have BK109 := n1_
        have HB := n2_
        have BK128 := n3_
        have GW128 := n4_
        have GE128 := n5_
        have NB109_128 := n6_
        have NB128_109 := n7_
        clear n0_ n1_ n2_ n3_ n4_ n5_ n6_ n7_
        clear hb hbox hg
        refine hK.out _ _ trivial (fun hHeld => ?_)
        clear hK K
        refine norm_ (a' := ?_) ?_ ?_
        rotate_left
        · show Act.put _ (some 12) _ = _
          simp only [Act.put, List.setIfInBounds_toArray, List.set_cons_zero, List.set_cons_succ, i64_w, i32_w]
          rfl
        exact norm_ (by first | (simp only [putAll, Act.put, List.setIfInBounds_toArray, List.set_cons_zero, List.set_cons_succ]; done) | (simp only [putAll, Act.put, List.setIfInBounds_toArray, List.set_cons_zero, List.set_cons_succ]; rfl)) (hJ0_5_9_10_14 (.slice (some adz_v121) y120.length co58, adz_v121, gb128) _ ⟨HO122.out, ⟨_, rfl⟩, BK109.out, BK128.out, GW128.out, GE128.out, NB109_128.out, NB128_109.out, HB.out⟩)
    intro hJ0_5_9_10
    refine join_ (σ := Value × Addr × Nat) 6 #[true, true, true, true, true, true, true, true, true, true, false, false, false, false, true, false, false] (fun s_ => [(59, .agg #[.int .i64 t117, .int .i64 t118, .string t119]), (64, s_.1), (68, .int .i64 (rd y120 (Go.bits .and .i64 a0 1))), (12, .pointer (some ⟨s_.2.2, 0, none⟩)), (67, .pointer (some (s_.2.1.add ((Go.bits .and .i64 a0 1)).toNat)))]) (fun s_ w' => (Kd.R (Kd.int .i64) 3 w' w.heap.size (fun _ => True) s_.1 y120) ∧ (∃ c_, (s_.1 : Value) = .slice (some s_.2.1) y120.length c_) ∧ (w'.heap[gb109]? = some (.cells #[.int .i64 ((rd_T23 y105 (ji8)).f0), .int .i64 ((rd_T23 y105 (ji8)).f1), .string ((rd_T23 y105 (ji8)).f2)] 23 (0, 0))) ∧ (w'.heap[s_.2.2]? = some (.cells #[.int .i64 0, .int .i64 0, .string (⟨#[]⟩ : ByteArray)] 23 (0, 0))) ∧ (w.heap.size ≤ s_.2.2) ∧ (w.heap.size ≤ s_.2.2) ∧ (gb109 ≠ s_.2.2) ∧ (s_.2.2 ≠ gb109) ∧ (Below w.heap.size w w')) ?_ ?_
    · · skip
        rintro ⟨v121, adz_v121, gb128⟩ w57 ⟨h0_, h1_, h2_, h3_, h4_, h5_, h6_, h7_, h8_⟩
        have n0_ : Aside0 (Kd.R (Kd.int .i64) 3 w57 w.heap.size (fun _ => True) v121 y120) := ⟨h0_⟩
        have n1_ : Aside0 (∃ c_, (v121 : Value) = .slice (some adz_v121) y120.length c_) := ⟨h1_⟩
        have n2_ : Aside0 (w57.heap[gb109]? = some (.cells #[.int .i64 ((rd_T23 y105 (ji8)).f0), .int .i64 ((rd_T23 y105 (ji8)).f1), .string ((rd_T23 y105 (ji8)).f2)] 23 (0, 0))) := ⟨h2_⟩
        have n3_ : Aside0 (w57.heap[gb128]? = some (.cells #[.int .i64 0, .int .i64 0, .string (⟨#[]⟩ : ByteArray)] 23 (0, 0))) := ⟨h3_⟩
        have n4_ : Aside0 (w.heap.size ≤ gb128) := ⟨h4_⟩
        have n5_ : Aside0 (w.heap.size ≤ gb128) := ⟨h5_⟩
        have n6_ : Aside0 (gb109 ≠ gb128) := ⟨h6_⟩
        have n7_ : Aside0 (gb128 ≠ gb109) := ⟨h7_⟩
        have n8_ : Aside0 (Below w.heap.size w w57) := ⟨h8_⟩
        clear BK109
        clear HB
        clear h0_ h1_ h2_ h3_ h4_ h5_ h6_ h7_ h8_
        have HO122 := n0_
        have HA_HO122 := n1_
        have BK109 := n2_
        have BK128 := n3_
        have GW128 := n4_
        have GE128 := n5_
        have NB109_128 := n6_
        have NB128_109 := n7_
        have HB := n8_
        clear n0_ n1_ n2_ n3_ n4_ n5_ n6_ n7_ n8_
        have hHeld := trivial
        obtain ⟨co58, eo58⟩ := HA_HO122.out
        clear HA_HO122
        subst eo58
        refine norm_ (a' := ?_) ?_ ?_
        rotate_left
        · simp only [putAll, Act.put, List.setIfInBounds_toArray, List.set_cons_zero, List.set_cons_succ]
          rfl
        refine one_ (i := 10) (N := some 69) #[true, true, true, true, true, true, true, true, true, true, true, false, false, false, true, false, false] rfl rfl (one_of HT_.out (by kernel_rfl)) (by decide) (fun K hK => ?_)
        refine goes_ Try.func9 (by kernel_rfl) rfl #[.agg #[.int .i64 t117, .int .i64 t118, .string t119], .int .i64 (rd y120 (Go.bits .and .i64 a0 1)), .int .i64 9] (by rfl) rfl rfl (by (try simp only [List.map_toArray, List.map_cons, List.map_nil]); first | done | rfl | (simp only [List.length_drop, List.length_take]; rfl)) ?_
        with_reducible refine (coder_Bit.calls t117 t118 t119 (rd y120 (Go.bits .and .i64 a0 1)) 9 t124 t125 t126 t127 _ A16.out).mono ?_
        rintro e w59 ⟨rfl, hb⟩
        refine ⟨_, rfl, ?_⟩
        have n0_ := Aside0.mk (Kd.R_below HO122.out hb)
        have n1_ := Aside0.mk (blk_below (g := gb109) (o := .cells #[.int .i64 ((rd_T23 y105 (ji8)).f0), .int .i64 ((rd_T23 y105 (ji8)).f1), .string ((rd_T23 y105 (ji8)).f2)] 23 (0, 0)) BK109.out hb)
        have n2_ := Aside0.mk (blk_below (g := gb128) (o := .cells #[.int .i64 0, .int .i64 0, .string (⟨#[]⟩ : ByteArray)] 23 (0, 0)) BK128.out hb)
        have n3_ := Aside0.mk (below_step HB.out hb)
        clear HO122
        clear BK109
        clear BK128
        clear HB
        have HO122 := n0_
        have BK109 := n1_
        have BK128 := n2_
        have HB := n3_
        clear n0_ n1_ n2_ n3_
        (try clear hb)
        (try clear hb2)
        (try clear hk)
        (try clear hi)
        refine hK.out _ _ trivial (fun hHeld => ?_)
        clear hK K
        refine norm_ (a' := ?_) ?_ ?_
        rotate_left
        · show Act.put _ (some 69) _ = _
          simp only [Act.put, List.setIfInBounds_toArray, List.set_cons_zero, List.set_cons_succ, i64_w, i32_w]
          rfl
        refine pure_ (i := 11) (N := some 58) (v := ?_) (a' := ?_) #[true, true, true, true, true, true, true, true, true, true, true, true, false, false, true, false, false] rfl rfl (any_of HT_.out (by kernel_rfl)) (fun _ _ _ h => h) (Or.inl ⟨by rfl, ?_⟩) ?_ ?_
        rotate_left
        · intro w'
          go_simp
          with_reducible rfl
        rotate_left
        · simp only [Act.put, List.setIfInBounds_toArray, List.set_cons_zero, List.set_cons_succ, i64_w, i32_w]
          rfl
        refine pure_ (i := 12) (N := some 70) (v := ?_) (a' := ?_) #[true, true, true, true, true, true, true, true, true, true, true, true, true, false, true, false, false] rfl rfl (any_of HT_.out (by kernel_rfl)) (fun _ _ _ h => h) (Or.inl ⟨by rfl, ?_⟩) ?_ ?_
        rotate_left
        · intro w'
          go_simp
          with_reducible rfl
        rotate_left
        · simp only [Act.put, List.setIfInBounds_toArray, List.set_cons_zero, List.set_cons_succ, i64_w, i32_w]
          rfl
        refine pure_ (i := 13) (N := some 71) (v := ?_) (a' := ?_) #[true, true, true, true, true, true, true, true, true, true, true, true, true, true, true, false, false] rfl rfl (any_of HT_.out (by kernel_rfl)) (fun _ _ _ h => h) (Or.inl ⟨by rfl, ?_⟩) ?_ ?_
        rotate_left
        · intro w'
          go_simp
          with_reducible rfl
        rotate_left
        · simp only [Act.put, List.setIfInBounds_toArray, List.set_cons_zero, List.set_cons_succ, i64_w, i32_w]
          rfl
        exact norm_ (by first | (simp only [putAll, Act.put, List.setIfInBounds_toArray, List.set_cons_zero, List.set_cons_succ]; done) | (simp only [putAll, Act.put, List.setIfInBounds_toArray, List.set_cons_zero, List.set_cons_succ]; rfl)) (hJ0_5_9_10_14 (.slice (some adz_v121) y120.length co58, adz_v121, gb128) _ ⟨HO122.out, ⟨_, rfl⟩, BK109.out, BK128.out, GW128.out, GE128.out, NB109_128.out, NB128_109.out, HB.out⟩)
    intro hJ0_5_9_14
    refine join_ (σ := Value × Addr) 7 #[true, true, true, true, true, true, true, true, true, true, false, false, false, false, false, false, false] (fun s_ => [(59, .agg #[.int .i64 t117, .int .i64 t118, .string t119]), (64, s_.1), (68, .int .i64 (rd y120 (Go.bits .and .i64 a0 1))), (67, .pointer (some (s_.2.add ((Go.bits .and .i64 a0 1)).toNat)))]) (fun s_ w' => (Kd.R (Kd.int .i64) 3 w' w.heap.size (fun _ => True) s_.1 y120) ∧ (∃ c_, (s_.1 : Value) = .slice (some s_.2) y120.length c_) ∧ (w'.heap[gb109]? = some (.cells #[.int .i64 ((rd_T23 y105 (ji8)).f0), .int .i64 ((rd_T23 y105 (ji8)).f1), .string ((rd_T23 y105 (ji8)).f2)] 23 (0, 0))) ∧ (Below w.heap.size w w')) ?_ ?_
    · · skip
        rintro ⟨v121, adz_v121⟩ w56 ⟨h0_, h1_, h2_, h3_⟩
        have n0_ : Aside0 (Kd.R (Kd.int .i64) 3 w56 w.heap.size (fun _ => True) v121 y120) := ⟨h0_⟩
        have n1_ : Aside0 (∃ c_, (v121 : Value) = .slice (some adz_v121) y120.length c_) := ⟨h1_⟩
        have n2_ : Aside0 (w56.heap[gb109]? = some (.cells #[.int .i64 ((rd_T23 y105 (ji8)).f0), .int .i64 ((rd_T23 y105 (ji8)).f1), .string ((rd_T23 y105 (ji8)).f2)] 23 (0, 0))) := ⟨h2_⟩
        have n3_ : Aside0 (Below w.heap.size w w56) := ⟨h3_⟩
        clear BK109
        clear HB
        clear h0_ h1_ h2_ h3_
        have HO122 := n0_
        have HA_HO122 := n1_
        have BK109 := n2_
        have HB := n3_
        clear n0_ n1_ n2_ n3_
        have hHeld := trivial
        obtain ⟨co57, eo57⟩ := HA_HO122.out
        clear HA_HO122
        subst eo57
        refine norm_ (a' := ?_) ?_ ?_
        rotate_left
        · simp only [putAll, Act.put, List.setIfInBounds_toArray, List.set_cons_zero, List.set_cons_succ]
          rfl
        refine two_ (i := 10) (j := 14) (Ni := some 69) (Nj := some 12) #[true, true, true, true, true, true, true, true, true, true, true, false, false, false, false, false, false] #[true, true, true, true, true, true, true, true, true, true, false, false, false, false, true, false, false] rfl rfl rfl rfl (two_of HT_.out (by kernel_rfl)) (by decide) (by decide) (fun K hK => ?_) (fun K hK => ?_)
        · skip
          refine goes_ Try.func9 (by kernel_rfl) rfl #[.agg #[.int .i64 t117, .int .i64 t118, .string t119], .int .i64 (rd y120 (Go.bits .and .i64 a0 1)), .int .i64 9] (by rfl) rfl rfl (by (try simp only [List.map_toArray, List.map_cons, List.map_nil]); first | done | rfl | (simp only [List.length_drop, List.length_take]; rfl)) ?_
          with_reducible refine (coder_Bit.calls t117 t118 t119 (rd y120 (Go.bits .and .i64 a0 1)) 9 t124 t125 t126 t127 _ A16.out).mono ?_
          rintro e w58 ⟨rfl, hb⟩
          refine ⟨_, rfl, ?_⟩
          have n0_ := Aside0.mk (Kd.R_below HO122.out hb)
          have n1_ := Aside0.mk (blk_below (g := gb109) (o := .cells #[.int .i64 ((rd_T23 y105 (ji8)).f0), .int .i64 ((rd_T23 y105 (ji8)).f1), .string ((rd_T23 y105 (ji8)).f2)] 23 (0, 0)) BK109.out hb)
          have n2_ := Aside0.mk (below_step HB.out hb)
          clear HO122
          clear BK109
          clear HB
          have HO122 := n0_
          have BK109 := n1_
          have HB := n2_
          clear n0_ n1_ n2_
          (try clear hb)
          (try clear hb2)
          (try clear hk)
          (try clear hi)
          refine hK.out _ _ trivial (fun hHeld => ?_)
          clear hK K
          refine norm_ (a' := ?_) ?_ ?_
          rotate_left
          · show Act.put _ (some 69) _ = _
            simp only [Act.put, List.setIfInBounds_toArray, List.set_cons_zero, List.set_cons_succ, i64_w, i32_w]
            rfl
          refine pure_ (i := 11) (N := some 58) (v := ?_) (a' := ?_) #[true, true, true, true, true, true, true, true, true, true, true, true, false, false, false, false, false] rfl rfl (any_of HT_.out (by kernel_rfl)) (fun _ _ _ h => h) (Or.inl ⟨by rfl, ?_⟩) ?_ ?_
          rotate_left
          · intro w'
            go_simp
            with_reducible rfl
          rotate_left
          · simp only [Act.put, List.setIfInBounds_toArray, List.set_cons_zero, List.set_cons_succ, i64_w, i32_w]
            rfl
          refine pure_ (i := 12) (N := some 70) (v := ?_) (a' := ?_) #[true, true, true, true, true, true, true, true, true, true, true, true, true, false, false, false, false] rfl rfl (any_of HT_.out (by kernel_rfl)) (fun _ _ _ h => h) (Or.inl ⟨by rfl, ?_⟩) ?_ ?_
          rotate_left
          · intro w'
            go_simp
            with_reducible rfl
          rotate_left
          · simp only [Act.put, List.setIfInBounds_toArray, List.set_cons_zero, List.set_cons_succ, i64_w, i32_w]
            rfl
          refine pure_ (i := 13) (N := some 71) (v := ?_) (a' := ?_) #[true, true, true, true, true, true, true, true, true, true, true, true, true, true, false, false, false] rfl rfl (any_of HT_.out (by kernel_rfl)) (fun _ _ _ h => h) (Or.inl ⟨by rfl, ?_⟩) ?_ ?_
          rotate_left
          · intro w'
            go_simp
            with_reducible rfl
          rotate_left
          · simp only [Act.put, List.setIfInBounds_toArray, List.set_cons_zero, List.set_cons_succ, i64_w, i32_w]
            rfl
          exact norm_ (by first | (simp only [putAll, Act.put, List.setIfInBounds_toArray, List.set_cons_zero, List.set_cons_succ]; done) | (simp only [putAll, Act.put, List.setIfInBounds_toArray, List.set_cons_zero, List.set_cons_succ]; rfl)) (hJ0_5_9_10 (.slice (some adz_v121) y120.length co57, adz_v121) _ ⟨HO122.out, ⟨_, rfl⟩, BK109.out, HB.out⟩)
        · skip
          refine box_step ?hg (N := 12) ?hd (cs := #[.int .i64 0, .int .i64 0, .string (⟨#[]⟩ : ByteArray)]) (t := 23) ?hr ?_; (case hd => rfl); (case hg => rfl); (case hr => first | (go_simp; done) | (go_simp; rfl))
          intro gb128 hg w58 hbox hb
          have n0_ := Aside0.mk (Kd.R_below HO122.out hb)
          have n1_ := Aside0.mk (blk_below (g := gb109) (o := .cells #[.int .i64 ((rd_T23 y105 (ji8)).f0), .int .i64 ((rd_T23 y105 (ji8)).f1), .string ((rd_T23 y105 (ji8)).f2)] 23 (0, 0)) BK109.out hb)
          have n2_ := Aside0.mk (below_step HB.out hb)
          have n3_ := Aside0.mk (hbox)
          have n4_ := Aside0.mk ((by rw [hg]; exact (below_size HB.out) : w.heap.size ≤ gb128))
          have n5_ := Aside0.mk ((by rw [hg]; exact (below_size HB.out) : w.heap.size ≤ gb128))
          have n6_ := Aside0.mk ((by rw [hg]; exact Nat.ne_of_lt (blk_lt (g := gb109) (o := .cells #[.int .i64 ((rd_T23 y105 (ji8)).f0), .int .i64 ((rd_T23 y105 (ji8)).f1), .string ((rd_T23 y105 (ji8)).f2)] 23 (0, 0)) BK109.out) : gb109 ≠ gb128))
          have n7_ := Aside0.mk ((by rw [hg]; exact Nat.ne_of_gt (blk_lt (g := gb109) (o := .cells #[.int .i64 ((rd_T23 y105 (ji8)).f0), .int .i64 ((rd_T23 y105 (ji8)).f1), .string ((rd_T23 y105 (ji8)).f2)] 23 (0, 0)) BK109.out) : gb128 ≠ gb109))
          clear HO122
          clear BK109
          clear HB
          have HO122 := n0_
          have BK109 := n1_
          have HB := n2_
          have BK128 := n3_
          have GW128 := n4_
          have GE128 := n5_
          have NB109_128 := n6_
          have NB128_109 := n7_
          clear n0_ n1_ n2_ n3_ n4_ n5_ n6_ n7_
          clear hb hbox hg
          refine hK.out _ _ trivial (fun hHeld => ?_)
          clear hK K
          refine norm_ (a' := ?_) ?_ ?_
          rotate_left
          · show Act.put _ (some 12) _ = _
            simp only [Act.put, List.setIfInBounds_toArray, List.set_cons_zero, List.set_cons_succ, i64_w, i32_w]
            rfl
          exact norm_ (by first | (simp only [putAll, Act.put, List.setIfInBounds_toArray, List.set_cons_zero, List.set_cons_succ]; done) | (simp only [putAll, Act.put, List.setIfInBounds_toArray, List.set_cons_zero, List.set_cons_succ]; rfl)) (hJ0_5_9_14 (.slice (some adz_v121) y120.length co57, adz_v121, gb128) _ ⟨HO122.out, ⟨_, rfl⟩, BK109.out, BK128.out, GW128.out, GE128.out, NB109_128.out, NB128_109.out, HB.out⟩)
    intro hJ0_5_9
    refine join_ (σ := Value × Addr × Nat) 7 #[true, true, true, true, true, true, true, true, true, false, false, false, false, false, true, false, false] (fun s_ => [(59, .agg #[.int .i64 t117, .int .i64 t118, .string t119]), (64, s_.1), (12, .pointer (some ⟨s_.2.2, 0, none⟩)), (67, .pointer (some (s_.2.1.add ((Go.bits .and .i64 a0 1)).toNat)))]) (fun s_ w' => (Kd.R (Kd.int .i64) 3 w' w.heap.size (fun _ => True) s_.1 y120) ∧ (∃ c_, (s_.1 : Value) = .slice (some s_.2.1) y120.length c_) ∧ (w'.heap[gb109]? = some (.cells #[.int .i64 ((rd_T23 y105 (ji8)).f0), .int .i64 ((rd_T23 y105 (ji8)).f1), .string ((rd_T23 y105 (ji8)).f2)] 23 (0, 0))) ∧ (w'.heap[s_.2.2]? = some (.cells #[.int .i64 0, .int .i64 0, .string (⟨#[]⟩ : ByteArray)] 23 (0, 0))) ∧ (w.heap.size ≤ s_.2.2) ∧ (w.heap.size ≤ s_.2.2) ∧ (gb109 ≠ s_.2.2) ∧ (s_.2.2 ≠ gb109) ∧ (Below w.heap.size w w')) ?_ ?_
    · · skip
        rintro ⟨v121, adz_v121, gb128⟩ w57 ⟨h0_, h1_, h2_, h3_, h4_, h5_, h6_, h7_, h8_⟩
        have n0_ : Aside0 (Kd.R (Kd.int .i64) 3 w57 w.heap.size (fun _ => True) v121 y120) := ⟨h0_⟩
        have n1_ : Aside0 (∃ c_, (v121 : Value) = .slice (some adz_v121) y120.length c_) := ⟨h1_⟩
        have n2_ : Aside0 (w57.heap[gb109]? = some (.cells #[.int .i64 ((rd_T23 y105 (ji8)).f0), .int .i64 ((rd_T23 y105 (ji8)).f1), .string ((rd_T23 y105 (ji8)).f2)] 23 (0, 0))) := ⟨h2_⟩
        have n3_ : Aside0 (w57.heap[gb128]? = some (.cells #[.int .i64 0, .int .i64 0, .string (⟨#[]⟩ : ByteArray)] 23 (0, 0))) := ⟨h3_⟩
        have n4_ : Aside0 (w.heap.size ≤ gb128) := ⟨h4_⟩
        have n5_ : Aside0 (w.heap.size ≤ gb128) := ⟨h5_⟩
        have n6_ : Aside0 (gb109 ≠ gb128) := ⟨h6_⟩
        have n7_ : Aside0 (gb128 ≠ gb109) := ⟨h7_⟩
        have n8_ : Aside0 (Below w.heap.size w w57) := ⟨h8_⟩
        clear BK109
        clear HB
        clear h0_ h1_ h2_ h3_ h4_ h5_ h6_ h7_ h8_
        have HO122 := n0_
        have HA_HO122 := n1_
        have BK109 := n2_
        have BK128 := n3_
        have GW128 := n4_
        have GE128 := n5_
        have NB109_128 := n6_
        have NB128_109 := n7_
        have HB := n8_
        clear n0_ n1_ n2_ n3_ n4_ n5_ n6_ n7_ n8_
        have hHeld := trivial
        obtain ⟨co58, eo58⟩ := HA_HO122.out
        clear HA_HO122
        subst eo58
        refine norm_ (a' := ?_) ?_ ?_
        rotate_left
        · simp only [putAll, Act.put, List.setIfInBounds_toArray, List.set_cons_zero, List.set_cons_succ]
          rfl
        refine one_ (i := 9) (N := some 68) #[true, true, true, true, true, true, true, true, true, true, false, false, false, false, true, false, false] rfl rfl (one_of HT_.out (by kernel_rfl)) (by decide) (fun K hK => ?_)
        (have p123 : 0 ≤ ((Go.bits .and .i64 a0 1) : Int) := of_decide_eq_true (by first | (with_reducible assumption) | assumption); have q123 : (Go.bits .and .i64 a0 1) < (y120.length : Int) := of_decide_eq_true (by first | (with_reducible assumption) | assumption); obtain ⟨ad123, e123, hx123_0⟩ := Kd.at_int (Kd.R_reads' HO122.out).2.2 (Go.bits .and .i64 a0 1) p123 q123; obtain rfl : adz_v121 = ad123 := (by injection e123))
        refine value_ (w1 := ?_) (v := ?_) (by rfl) rfl ?_ ?_
        rotate_left 2
        · go_simp
          constructor
          · rfl
          · rfl
        clear hx123_0
        refine hK.out _ _ trivial (fun hHeld => ?_)
        clear hK K
        refine norm_ (a' := ?_) ?_ ?_
        rotate_left
        · show Act.put _ (some 68) _ = _
          simp only [Act.put, List.setIfInBounds_toArray, List.set_cons_zero, List.set_cons_succ, i64_w, i32_w]
          rfl
        exact norm_ (by first | (simp only [putAll, Act.put, List.setIfInBounds_toArray, List.set_cons_zero, List.set_cons_succ]; done) | (simp only [putAll, Act.put, List.setIfInBounds_toArray, List.set_cons_zero, List.set_cons_succ]; rfl)) (hJ0_5_9_14 (.slice (some adz_v121) y120.length co58, adz_v121, gb128) _ ⟨HO122.out, ⟨_, rfl⟩, BK109.out, BK128.out, GW128.out, GE128.out, NB109_128.out, NB128_109.out, HB.out⟩)
    intro hJ0_5_14
    refine join_ (σ := Value × Addr × Nat) 7 #[false, true, true, true, true, true, true, true, true, true, false, false, false, false, true, false, false] (fun s_ => [(64, s_.1), (68, .int .i64 (rd y120 (Go.bits .and .i64 a0 1))), (12, .pointer (some ⟨s_.2.2, 0, none⟩)), (67, .pointer (some (s_.2.1.add ((Go.bits .and .i64 a0 1)).toNat)))]) (fun s_ w' => (Kd.R (Kd.int .i64) 3 w' w.heap.size (fun _ => True) s_.1 y120) ∧ (∃ c_, (s_.1 : Value) = .slice (some s_.2.1) y120.length c_) ∧ (w'.heap[gb109]? = some (.cells #[.int .i64 ((rd_T23 y105 (ji8)).f0), .int .i64 ((rd_T23 y105 (ji8)).f1), .string ((rd_T23 y105 (ji8)).f2)] 23 (0, 0))) ∧ (w'.heap[s_.2.2]? = some (.cells #[.int .i64 0, .int .i64 0, .string (⟨#[]⟩ : ByteArray)] 23 (0, 0))) ∧ (w.heap.size ≤ s_.2.2) ∧ (w.heap.size ≤ s_.2.2) ∧ (gb109 ≠ s_.2.2) ∧ (s_.2.2 ≠ gb109) ∧ (Below w.heap.size w w')) ?_ ?_
    · · skip
        rintro ⟨v121, adz_v121, gb128⟩ w56 ⟨h0_, h1_, h2_, h3_, h4_, h5_, h6_, h7_, h8_⟩
        have n0_ : Aside0 (Kd.R (Kd.int .i64) 3 w56 w.heap.size (fun _ => True) v121 y120) := ⟨h0_⟩
        have n1_ : Aside0 (∃ c_, (v121 : Value) = .slice (some adz_v121) y120.length c_) := ⟨h1_⟩
        have n2_ : Aside0 (w56.heap[gb109]? = some (.cells #[.int .i64 ((rd_T23 y105 (ji8)).f0), .int .i64 ((rd_T23 y105 (ji8)).f1), .string ((rd_T23 y105 (ji8)).f2)] 23 (0, 0))) := ⟨h2_⟩
        have n3_ : Aside0 (w56.heap[gb128]? = some (.cells #[.int .i64 0, .int .i64 0, .string (⟨#[]⟩ : ByteArray)] 23 (0, 0))) := ⟨h3_⟩
        have n4_ : Aside0 (w.heap.size ≤ gb128) := ⟨h4_⟩
        have n5_ : Aside0 (w.heap.size ≤ gb128) := ⟨h5_⟩
        have n6_ : Aside0 (gb109 ≠ gb128) := ⟨h6_⟩
        have n7_ : Aside0 (gb128 ≠ gb109) := ⟨h7_⟩
        have n8_ : Aside0 (Below w.heap.size w w56) := ⟨h8_⟩
        clear BK109
        clear HB
        clear h0_ h1_ h2_ h3_ h4_ h5_ h6_ h7_ h8_
        have HO122 := n0_
        have HA_HO122 := n1_
        have BK109 := n2_
        have BK128 := n3_
        have GW128 := n4_
        have GE128 := n5_
        have NB109_128 := n6_
        have NB128_109 := n7_
        have HB := n8_
        clear n0_ n1_ n2_ n3_ n4_ n5_ n6_ n7_ n8_
        have hHeld := trivial
        obtain ⟨co57, eo57⟩ := HA_HO122.out
        clear HA_HO122
        subst eo57
        refine norm_ (a' := ?_) ?_ ?_
        rotate_left
        · simp only [putAll, Act.put, List.setIfInBounds_toArray, List.set_cons_zero, List.set_cons_succ]
          rfl
        refine one_ (i := 0) (N := some 59) #[true, true, true, true, true, true, true, true, true, true, false, false, false, false, true, false, false] rfl rfl (one_of HT_.out (by kernel_rfl)) (by decide) (fun K hK => ?_)
        refine goes_ Try.func16 (by kernel_rfl) rfl #[] (by rfl) rfl rfl (by (try simp only [List.map_toArray, List.map_cons, List.map_nil]); first | done | rfl | (simp only [List.length_drop, List.length_take]; rfl)) ?_
        with_reducible refine (coder_New.calls  t117 t118 t119 _ A13.out).mono ?_
        rintro e w58 ⟨rfl, hb⟩
        refine ⟨_, rfl, ?_⟩
        have n0_ := Aside0.mk (Kd.R_below HO122.out hb)
        have n1_ := Aside0.mk (blk_below (g := gb109) (o := .cells #[.int .i64 ((rd_T23 y105 (ji8)).f0), .int .i64 ((rd_T23 y105 (ji8)).f1), .string ((rd_T23 y105 (ji8)).f2)] 23 (0, 0)) BK109.out hb)
        have n2_ := Aside0.mk (blk_below (g := gb128) (o := .cells #[.int .i64 0, .int .i64 0, .string (⟨#[]⟩ : ByteArray)] 23 (0, 0)) BK128.out hb)
        have n3_ := Aside0.mk (below_step HB.out hb)
        clear HO122
        clear BK109
        clear BK128
        clear HB
        have HO122 := n0_
        have BK109 := n1_
        have BK128 := n2_
        have HB := n3_
        clear n0_ n1_ n2_ n3_
        (try clear hb)
        (try clear hb2)
        (try clear hk)
        (try clear hi)
        refine hK.out _ _ trivial (fun hHeld => ?_)
        clear hK K
        refine norm_ (a' := ?_) ?_ ?_
        rotate_left
        · show Act.put _ (some 59) _ = _
          simp only [Act.put, List.setIfInBounds_toArray, List.set_cons_zero, List.set_cons_succ, i64_w, i32_w]
          rfl
        exact norm_ (by first | (simp only [putAll, Act.put, List.setIfInBounds_toArray, List.set_cons_zero, List.set_cons_succ]; done) | (simp only [putAll, Act.put, List.setIfInBounds_toArray, List.set_cons_zero, List.set_cons_succ]; rfl)) (hJ0_5_9_14 (.slice (some adz_v121) y120.length co57, adz_v121, gb128) _ ⟨HO122.out, ⟨_, rfl⟩, BK109.out, BK128.out, GW128.out, GE128.out, NB109_128.out, NB128_109.out, HB.out⟩)
    intro hJ5_9_14
    refine join_ (σ := Value × Addr) 8 #[true, true, true, true, true, true, true, true, true, false, false, false, false, false, false, false, false] (fun s_ => [(59, .agg #[.int .i64 t117, .int .i64 t118, .string t119]), (64, s_.1), (67, .pointer (some (s_.2.add ((Go.bits .and .i64 a0 1)).toNat)))]) (fun s_ w' => (Kd.R (Kd.int .i64) 3 w' w.heap.size (fun _ => True) s_.1 y120) ∧ (∃ c_, (s_.1 : Value) = .slice (some s_.2) y120.length c_) ∧ (w'.heap[gb109]? = some (.cells #[.int .i64 ((rd_T23 y105 (ji8)).f0), .int .i64 ((rd_T23 y105 (ji8)).f1), .string ((rd_T23 y105 (ji8)).f2)] 23 (0, 0))) ∧ (Below w.heap.size w w')) ?_ ?_
    · · skip
        rintro ⟨v121, adz_v121⟩ w56 ⟨h0_, h1_, h2_, h3_⟩
        have n0_ : Aside0 (Kd.R (Kd.int .i64) 3 w56 w.heap.size (fun _ => True) v121 y120) := ⟨h0_⟩
        have n1_ : Aside0 (∃ c_, (v121 : Value) = .slice (some adz_v121) y120.length c_) := ⟨h1_⟩
        have n2_ : Aside0 (w56.heap[gb109]? = some (.cells #[.int .i64 ((rd_T23 y105 (ji8)).f0), .int .i64 ((rd_T23 y105 (ji8)).f1), .string ((rd_T23 y105 (ji8)).f2)] 23 (0, 0))) := ⟨h2_⟩
        have n3_ : Aside0 (Below w.heap.size w w56) := ⟨h3_⟩
        clear BK109
        clear HB
        clear h0_ h1_ h2_ h3_
        have HO122 := n0_
        have HA_HO122 := n1_
        have BK109 := n2_
        have HB := n3_
        clear n0_ n1_ n2_ n3_
        have hHeld := trivial
        obtain ⟨co57, eo57⟩ := HA_HO122.out
        clear HA_HO122
        subst eo57
        refine norm_ (a' := ?_) ?_ ?_
        rotate_left
        · simp only [putAll, Act.put, List.setIfInBounds_toArray, List.set_cons_zero, List.set_cons_succ]
          rfl
        refine two_ (i := 9) (j := 14) (Ni := some 68) (Nj := some 12) #[true, true, true, true, true, true, true, true, true, true, false, false, false, false, false, false, false] #[true, true, true, true, true, true, true, true, true, false, false, false, false, false, true, false, false] rfl rfl rfl rfl (two_of HT_.out (by kernel_rfl)) (by decide) (by decide) (fun K hK => ?_) (fun K hK => ?_)
        · skip
          (have p123 : 0 ≤ ((Go.bits .and .i64 a0 1) : Int) := of_decide_eq_true (by first | (with_reducible assumption) | assumption); have q123 : (Go.bits .and .i64 a0 1) < (y120.length : Int) := of_decide_eq_true (by first | (with_reducible assumption) | assumption); obtain ⟨ad123, e123, hx123_0⟩ := Kd.at_int (Kd.R_reads' HO122.out).2.2 (Go.bits .and .i64 a0 1) p123 q123; obtain rfl : adz_v121 = ad123 := (by injection e123))
          refine value_ (w1 := ?_) (v := ?_) (by rfl) rfl ?_ ?_
          rotate_left 2
          · go_simp
            constructor
            · rfl
            · rfl
          clear hx123_0
          refine hK.out _ _ trivial (fun hHeld => ?_)
          clear hK K
          refine norm_ (a' := ?_) ?_ ?_
          rotate_left
          · show Act.put _ (some 68) _ = _
            simp only [Act.put, List.setIfInBounds_toArray, List.set_cons_zero, List.set_cons_succ, i64_w, i32_w]
            rfl
          exact norm_ (by first | (simp only [putAll, Act.put, List.setIfInBounds_toArray, List.set_cons_zero, List.set_cons_succ]; done) | (simp only [putAll, Act.put, List.setIfInBounds_toArray, List.set_cons_zero, List.set_cons_succ]; rfl)) (hJ0_5_9 (.slice (some adz_v121) y120.length co57, adz_v121) _ ⟨HO122.out, ⟨_, rfl⟩, BK109.out, HB.out⟩)
        · skip
          refine box_step ?hg (N := 12) ?hd (cs := #[.int .i64 0, .int .i64 0, .string (⟨#[]⟩ : ByteArray)]) (t := 23) ?hr ?_; (case hd => rfl); (case hg => rfl); (case hr => first | (go_simp; done) | (go_simp; rfl))
          intro gb128 hg w58 hbox hb
          have n0_ := Aside0.mk (Kd.R_below HO122.out hb)
          have n1_ := Aside0.mk (blk_below (g := gb109) (o := .cells #[.int .i64 ((rd_T23 y105 (ji8)).f0), .int .i64 ((rd_T23 y105 (ji8)).f1), .string ((rd_T23 y105 (ji8)).f2)] 23 (0, 0)) BK109.out hb)
          have n2_ := Aside0.mk (below_step HB.out hb)
          have n3_ := Aside0.mk (hbox)
          have n4_ := Aside0.mk ((by rw [hg]; exact (below_size HB.out) : w.heap.size ≤ gb128))
          have n5_ := Aside0.mk ((by rw [hg]; exact (below_size HB.out) : w.heap.size ≤ gb128))
          have n6_ := Aside0.mk ((by rw [hg]; exact Nat.ne_of_lt (blk_lt (g := gb109) (o := .cells #[.int .i64 ((rd_T23 y105 (ji8)).f0), .int .i64 ((rd_T23 y105 (ji8)).f1), .string ((rd_T23 y105 (ji8)).f2)] 23 (0, 0)) BK109.out) : gb109 ≠ gb128))
          have n7_ := Aside0.mk ((by rw [hg]; exact Nat.ne_of_gt (blk_lt (g := gb109) (o := .cells #[.int .i64 ((rd_T23 y105 (ji8)).f0), .int .i64 ((rd_T23 y105 (ji8)).f1), .string ((rd_T23 y105 (ji8)).f2)] 23 (0, 0)) BK109.out) : gb128 ≠ gb109))
          clear HO122
          clear BK109
          clear HB
          have HO122 := n0_
          have BK109 := n1_
          have HB := n2_
          have BK128 := n3_
          have GW128 := n4_
          have GE128 := n5_
          have NB109_128 := n6_
          have NB128_109 := n7_
          clear n0_ n1_ n2_ n3_ n4_ n5_ n6_ n7_
          clear hb hbox hg
          refine hK.out _ _ trivial (fun hHeld => ?_)
          clear hK K
          refine norm_ (a' := ?_) ?_ ?_
          rotate_left
          · show Act.put _ (some 12) _ = _
            simp only [Act.put, List.setIfInBounds_toArray, List.set_cons_zero, List.set_cons_succ, i64_w, i32_w]
            rfl
          exact norm_ (by first | (simp only [putAll, Act.put, List.setIfInBounds_toArray, List.set_cons_zero, List.set_cons_succ]; done) | (simp only [putAll, Act.put, List.setIfInBounds_toArray, List.set_cons_zero, List.set_cons_succ]; rfl)) (hJ0_5_14 (.slice (some adz_v121) y120.length co57, adz_v121, gb128) _ ⟨HO122.out, ⟨_, rfl⟩, BK109.out, BK128.out, GW128.out, GE128.out, NB109_128.out, NB128_109.out, HB.out⟩)
    intro hJ0_5
    refine join_ (σ := Nat) 9 #[true, true, true, true, true, false, true, true, false, false, false, false, false, false, true, false, false] (fun s_ => [(59, .agg #[.int .i64 t117, .int .i64 t118, .string t119]), (12, .pointer (some ⟨s_, 0, none⟩))]) (fun s_ w' => (w'.heap[gb109]? = some (.cells #[.int .i64 ((rd_T23 y105 (ji8)).f0), .int .i64 ((rd_T23 y105 (ji8)).f1), .string ((rd_T23 y105 (ji8)).f2)] 23 (0, 0))) ∧ (w'.heap[s_]? = some (.cells #[.int .i64 0, .int .i64 0, .string (⟨#[]⟩ : ByteArray)] 23 (0, 0))) ∧ (w.heap.size ≤ s_) ∧ (w.heap.size ≤ s_) ∧ (gb109 ≠ s_) ∧ (s_ ≠ gb109) ∧ (Below w.heap.size w w')) ?_ ?_
    · · skip
        rintro gb128 w54 ⟨h0_, h1_, h2_, h3_, h4_, h5_, h6_⟩
        have n0_ : Aside0 (w54.heap[gb109]? = some (.cells #[.int .i64 ((rd_T23 y105 (ji8)).f0), .int .i64 ((rd_T23 y105 (ji8)).f1), .string ((rd_T23 y105 (ji8)).f2)] 23 (0, 0))) := ⟨h0_⟩
        have n1_ : Aside0 (w54.heap[gb128]? = some (.cells #[.int .i64 0, .int .i64 0, .string (⟨#[]⟩ : ByteArray)] 23 (0, 0))) := ⟨h1_⟩
        have n2_ : Aside0 (w.heap.size ≤ gb128) := ⟨h2_⟩
        have n3_ : Aside0 (w.heap.size ≤ gb128) := ⟨h3_⟩
        have n4_ : Aside0 (gb109 ≠ gb128) := ⟨h4_⟩
        have n5_ : Aside0 (gb128 ≠ gb109) := ⟨h5_⟩
        have n6_ : Aside0 (Below w.heap.size w w54) := ⟨h6_⟩
        clear BK109
        clear HB
        clear h0_ h1_ h2_ h3_ h4_ h5_ h6_
        have BK109 := n0_
        have BK128 := n1_
        have GW128 := n2_
        have GE128 := n3_
        have NB109_128 := n4_
        have NB128_109 := n5_
        have HB := n6_
        clear n0_ n1_ n2_ n3_ n4_ n5_ n6_
        have hHeld := trivial
        refine norm_ (a' := ?_) ?_ ?_
        rotate_left
        · simp only [putAll, Act.put, List.setIfInBounds_toArray, List.set_cons_zero, List.set_cons_succ]
          rfl
        refine one_ (i := 5) (N := some 64) #[true, true, true, true, true, true, true, true, false, false, false, false, false, false, true, false, false] rfl rfl (one_of HT_.out (by kernel_rfl)) (by decide) (fun K hK => ?_)
        refine Kd.R_lit_step (Kd.int .i64) _ 3 ?hg (N := 64) ?hd (xs := ([wrap64 (-(wrap64 (1 + (Go.bits .and .i64 a1 1023)))), wrap64 (1 + (wrap64 (1 + (Go.bits .and .i64 a1 1023))))] : List Int)) (inner := [.int .i64 (wrap64 (-(wrap64 (1 + (Go.bits .and .i64 a1 1023))))), .int .i64 (wrap64 (1 + (wrap64 (1 + (Go.bits .and .i64 a1 1023)))))]) (ok := fun _ => True) (okp := fun _ => True) ?hr ?hp (fun _ hk => hk) trivial (Below.refl _ _) (Nat.le_refl _) (by simp) ?_; (case hd => rfl); (case hg => rfl); (case hr => first | (go_simp; done) | (go_simp; rfl)); (case hp => exact (Reps.one (show Kd.M (Kd.int .i64) _ _ _ (wrap64 (-(wrap64 (1 + (Go.bits .and .i64 a1 1023))))) [.int .i64 (wrap64 (-(wrap64 (1 + (Go.bits .and .i64 a1 1023)))))] from rfl) (Reps.one (show Kd.M (Kd.int .i64) _ _ _ (wrap64 (1 + (wrap64 (1 + (Go.bits .and .i64 a1 1023))))) [.int .i64 (wrap64 (1 + (wrap64 (1 + (Go.bits .and .i64 a1 1023)))))] from rfl) (Reps.none _ _))))
        intro v121 w55 ho56 hb hg_ hnew_
        clear hg_ hnew_
        (first | rw [← Ny120.out] at ho56 | (simp only [Int.reduceToNat] at ho56; rw [← Ny120.out] at ho56))
        have n0_ := Aside0.mk (Kd.R_lower ho56 (below_size HB.out))
        have n1_ := Aside0.mk (blk_below (g := gb109) (o := .cells #[.int .i64 ((rd_T23 y105 (ji8)).f0), .int .i64 ((rd_T23 y105 (ji8)).f1), .string ((rd_T23 y105 (ji8)).f2)] 23 (0, 0)) BK109.out hb)
        have n2_ := Aside0.mk (blk_below (g := gb128) (o := .cells #[.int .i64 0, .int .i64 0, .string (⟨#[]⟩ : ByteArray)] 23 (0, 0)) BK128.out hb)
        have n3_ := Aside0.mk (below_step HB.out hb)
        clear BK109
        clear BK128
        clear HB
        have HO122 := n0_
        have BK109 := n1_
        have BK128 := n2_
        have HB := n3_
        clear n0_ n1_ n2_ n3_
        clear hb ho56
        obtain ⟨Ao57, co57, eo57⟩ := Kd.R_slice HO122.out
        subst eo57
        obtain ⟨ado57, fo57, _⟩ := Kd.at_int (Kd.R_reads' HO122.out).2.2 0 (by decide) (by rw [Ny120.out]; simp)
        cases fo57
        refine hK.out _ _ trivial (fun hHeld => ?_)
        clear hK K
        refine norm_ (a' := ?_) ?_ ?_
        rotate_left
        · show Act.put _ (some 64) _ = _
          simp only [Act.put, List.setIfInBounds_toArray, List.set_cons_zero, List.set_cons_succ, i64_w, i32_w]
          rfl
        refine pure_ (i := 8) (N := some 67) (v := ?_) (a' := ?_) #[true, true, true, true, true, true, true, true, true, false, false, false, false, false, true, false, false] rfl rfl (any_of HT_.out (by kernel_rfl)) (fun _ _ _ h => h) (Or.inl ⟨by rfl, ?_⟩) ?_ ?_
        rotate_left
        · intro w'
          go_simp
          with_reducible rfl
        rotate_left
        · simp only [Act.put, List.setIfInBounds_toArray, List.set_cons_zero, List.set_cons_succ, i64_w, i32_w]
          rfl
        exact norm_ (by first | (simp only [putAll, Act.put, List.setIfInBounds_toArray, List.set_cons_zero, List.set_cons_succ]; done) | (simp only [putAll, Act.put, List.setIfInBounds_toArray, List.set_cons_zero, List.set_cons_succ]; rfl)) (hJ0_5_14 (.slice (some ado57) y120.length co57, ado57, gb128) _ ⟨HO122.out, ⟨_, rfl⟩, BK109.out, BK128.out, GW128.out, GE128.out, NB109_128.out, NB128_109.out, HB.out⟩)
    intro hJ0_14
    refine join_ (σ := Value × Addr) 8 #[false, true, true, true, true, true, true, true, true, true, false, false, false, false, false, false, false] (fun s_ => [(64, s_.1), (68, .int .i64 (rd y120 (Go.bits .and .i64 a0 1))), (67, .pointer (some (s_.2.add ((Go.bits .and .i64 a0 1)).toNat)))]) (fun s_ w' => (Kd.R (Kd.int .i64) 3 w' w.heap.size (fun _ => True) s_.1 y120) ∧ (∃ c_, (s_.1 : Value) = .slice (some s_.2) y120.length c_) ∧ (w'.heap[gb109]? = some (.cells #[.int .i64 ((rd_T23 y105 (ji8)).f0), .int .i64 ((rd_T23 y105 (ji8)).f1), .string ((rd_T23 y105 (ji8)).f2)] 23 (0, 0))) ∧ (Below w.heap.size w w')) ?_ ?_
    · · skip
        rintro ⟨v121, adz_v121⟩ w55 ⟨h0_, h1_, h2_, h3_⟩
        have n0_ : Aside0 (Kd.R (Kd.int .i64) 3 w55 w.heap.size (fun _ => True) v121 y120) := ⟨h0_⟩
        have n1_ : Aside0 (∃ c_, (v121 : Value) = .slice (some adz_v121) y120.length c_) := ⟨h1_⟩
        have n2_ : Aside0 (w55.heap[gb109]? = some (.cells #[.int .i64 ((rd_T23 y105 (ji8)).f0), .int .i64 ((rd_T23 y105 (ji8)).f1), .string ((rd_T23 y105 (ji8)).f2)] 23 (0, 0))) := ⟨h2_⟩
        have n3_ : Aside0 (Below w.heap.size w w55) := ⟨h3_⟩
        clear BK109
        clear HB
        clear h0_ h1_ h2_ h3_
        have HO122 := n0_
        have HA_HO122 := n1_
        have BK109 := n2_
        have HB := n3_
        clear n0_ n1_ n2_ n3_
        have hHeld := trivial
        obtain ⟨co56, eo56⟩ := HA_HO122.out
        clear HA_HO122
        subst eo56
        refine norm_ (a' := ?_) ?_ ?_
        rotate_left
        · simp only [putAll, Act.put, List.setIfInBounds_toArray, List.set_cons_zero, List.set_cons_succ]
          rfl
        refine two_ (i := 0) (j := 14) (Ni := some 59) (Nj := some 12) #[true, true, true, true, true, true, true, true, true, true, false, false, false, false, false, false, false] #[false, true, true, true, true, true, true, true, true, true, false, false, false, false, true, false, false] rfl rfl rfl rfl (two_of HT_.out (by kernel_rfl)) (by decide) (by decide) (fun K hK => ?_) (fun K hK => ?_)
        · skip
          refine goes_ Try.func16 (by kernel_rfl) rfl #[] (by rfl) rfl rfl (by (try simp only [List.map_toArray, List.map_cons, List.map_nil]); first | done | rfl | (simp only [List.length_drop, List.length_take]; rfl)) ?_
          with_reducible refine (coder_New.calls  t117 t118 t119 _ A13.out).mono ?_
          rintro e w57 ⟨rfl, hb⟩
          refine ⟨_, rfl, ?_⟩
          have n0_ := Aside0.mk (Kd.R_below HO122.out hb)
          have n1_ := Aside0.mk (blk_below (g := gb109) (o := .cells #[.int .i64 ((rd_T23 y105 (ji8)).f0), .int .i64 ((rd_T23 y105 (ji8)).f1), .string ((rd_T23 y105 (ji8)).f2)] 23 (0, 0)) BK109.out hb)
          have n2_ := Aside0.mk (below_step HB.out hb)
          clear HO122
          clear BK109
          clear HB
          have HO122 := n0_
          have BK109 := n1_
          have HB := n2_
          clear n0_ n1_ n2_
          (try clear hb)
          (try clear hb2)
          (try clear hk)
          (try clear hi)
          refine hK.out _ _ trivial (fun hHeld => ?_)
          clear hK K
          refine norm_ (a' := ?_) ?_ ?_
          rotate_left
          · show Act.put _ (some 59) _ = _
            simp only [Act.put, List.setIfInBounds_toArray, List.set_cons_zero, List.set_cons_succ, i64_w, i32_w]
            rfl
          exact norm_ (by first | (simp only [putAll, Act.put, List.setIfInBounds_toArray, List.set_cons_zero, List.set_cons_succ]; done) | (simp only [putAll, Act.put, List.setIfInBounds_toArray, List.set_cons_zero, List.set_cons_succ]; rfl)) (hJ0_5_9 (.slice (some adz_v121) y120.length co56, adz_v121) _ ⟨HO122.out, ⟨_, rfl⟩, BK109.out, HB.out⟩)
        · skip
          refine box_step ?hg (N := 12) ?hd (cs := #[.int .i64 0, .int .i64 0, .string (⟨#[]⟩ : ByteArray)]) (t := 23) ?hr ?_; (case hd => rfl); (case hg => rfl); (case hr => first | (go_simp; done) | (go_simp; rfl))
          intro gb128 hg w57 hbox hb
          have n0_ := Aside0.mk (Kd.R_below HO122.out hb)
          have n1_ := Aside0.mk (blk_below (g := gb109) (o := .cells #[.int .i64 ((rd_T23 y105 (ji8)).f0), .int .i64 ((rd_T23 y105 (ji8)).f1), .string ((rd_T23 y105 (ji8)).f2)] 23 (0, 0)) BK109.out hb)
          have n2_ := Aside0.mk (below_step HB.out hb)
          have n3_ := Aside0.mk (hbox)
          have n4_ := Aside0.mk ((by rw [hg]; exact (below_size HB.out) : w.heap.size ≤ gb128))
          have n5_ := Aside0.mk ((by rw [hg]; exact (below_size HB.out) : w.heap.size ≤ gb128))
          have n6_ := Aside0.mk ((by rw [hg]; exact Nat.ne_of_lt (blk_lt (g := gb109) (o := .cells #[.int .i64 ((rd_T23 y105 (ji8)).f0), .int .i64 ((rd_T23 y105 (ji8)).f1), .string ((rd_T23 y105 (ji8)).f2)] 23 (0, 0)) BK109.out) : gb109 ≠ gb128))
          have n7_ := Aside0.mk ((by rw [hg]; exact Nat.ne_of_gt (blk_lt (g := gb109) (o := .cells #[.int .i64 ((rd_T23 y105 (ji8)).f0), .int .i64 ((rd_T23 y105 (ji8)).f1), .string ((rd_T23 y105 (ji8)).f2)] 23 (0, 0)) BK109.out) : gb128 ≠ gb109))
          clear HO122
          clear BK109
          clear HB
          have HO122 := n0_
          have BK109 := n1_
          have HB := n2_
          have BK128 := n3_
          have GW128 := n4_
          have GE128 := n5_
          have NB109_128 := n6_
          have NB128_109 := n7_
          clear n0_ n1_ n2_ n3_ n4_ n5_ n6_ n7_
          clear hb hbox hg
          refine hK.out _ _ trivial (fun hHeld => ?_)
          clear hK K
          refine norm_ (a' := ?_) ?_ ?_
          rotate_left
          · show Act.put _ (some 12) _ = _
            simp only [Act.put, List.setIfInBounds_toArray, List.set_cons_zero, List.set_cons_succ, i64_w, i32_w]
            rfl
          exact norm_ (by first | (simp only [putAll, Act.put, List.setIfInBounds_toArray, List.set_cons_zero, List.set_cons_succ]; done) | (simp only [putAll, Act.put, List.setIfInBounds_toArray, List.set_cons_zero, List.set_cons_succ]; rfl)) (hJ5_9_14 (.slice (some adz_v121) y120.length co56, adz_v121, gb128) _ ⟨HO122.out, ⟨_, rfl⟩, BK109.out, BK128.out, GW128.out, GE128.out, NB109_128.out, NB128_109.out, HB.out⟩)
    intro hJ5_9
    refine join_ (σ := Value × Addr × Nat) 8 #[false, true, true, true, true, true, true, true, true, false, false, false, false, false, true, false, false] (fun s_ => [(64, s_.1), (12, .pointer (some ⟨s_.2.2, 0, none⟩)), (67, .pointer (some (s_.2.1.add ((Go.bits .and .i64 a0 1)).toNat)))]) (fun s_ w' => (Kd.R (Kd.int .i64) 3 w' w.heap.size (fun _ => True) s_.1 y120) ∧ (∃ c_, (s_.1 : Value) = .slice (some s_.2.1) y120.length c_) ∧ (w'.heap[gb109]? = some (.cells #[.int .i64 ((rd_T23 y105 (ji8)).f0), .int .i64 ((rd_T23 y105 (ji8)).f1), .string ((rd_T23 y105 (ji8)).f2)] 23 (0, 0))) ∧ (w'.heap[s_.2.2]? = some (.cells #[.int .i64 0, .int .i64 0, .string (⟨#[]⟩ : ByteArray)] 23 (0, 0))) ∧ (w.heap.size ≤ s_.2.2) ∧ (w.heap.size ≤ s_.2.2) ∧ (gb109 ≠ s_.2.2) ∧ (s_.2.2 ≠ gb109) ∧ (Below w.heap.size w w')) ?_ ?_
    · · skip
        rintro ⟨v121, adz_v121, gb128⟩ w56 ⟨h0_, h1_, h2_, h3_, h4_, h5_, h6_, h7_, h8_⟩
        have n0_ : Aside0 (Kd.R (Kd.int .i64) 3 w56 w.heap.size (fun _ => True) v121 y120) := ⟨h0_⟩
        have n1_ : Aside0 (∃ c_, (v121 : Value) = .slice (some adz_v121) y120.length c_) := ⟨h1_⟩
        have n2_ : Aside0 (w56.heap[gb109]? = some (.cells #[.int .i64 ((rd_T23 y105 (ji8)).f0), .int .i64 ((rd_T23 y105 (ji8)).f1), .string ((rd_T23 y105 (ji8)).f2)] 23 (0, 0))) := ⟨h2_⟩
        have n3_ : Aside0 (w56.heap[gb128]? = some (.cells #[.int .i64 0, .int .i64 0, .string (⟨#[]⟩ : ByteArray)] 23 (0, 0))) := ⟨h3_⟩
        have n4_ : Aside0 (w.heap.size ≤ gb128) := ⟨h4_⟩
        have n5_ : Aside0 (w.heap.size ≤ gb128) := ⟨h5_⟩
        have n6_ : Aside0 (gb109 ≠ gb128) := ⟨h6_⟩
        have n7_ : Aside0 (gb128 ≠ gb109) := ⟨h7_⟩
        have n8_ : Aside0 (Below w.heap.size w w56) := ⟨h8_⟩
        clear BK109
        clear HB
        clear h0_ h1_ h2_ h3_ h4_ h5_ h6_ h7_ h8_
        have HO122 := n0_
        have HA_HO122 := n1_
        have BK109 := n2_
        have BK128 := n3_
        have GW128 := n4_
        have GE128 := n5_
        have NB109_128 := n6_
        have NB128_109 := n7_
        have HB := n8_
        clear n0_ n1_ n2_ n3_ n4_ n5_ n6_ n7_ n8_
        have hHeld := trivial
        obtain ⟨co57, eo57⟩ := HA_HO122.out
        clear HA_HO122
        subst eo57
        refine norm_ (a' := ?_) ?_ ?_
        rotate_left
        · simp only [putAll, Act.put, List.setIfInBounds_toArray, List.set_cons_zero, List.set_cons_succ]
          rfl
        refine two_ (i := 0) (j := 9) (Ni := some 59) (Nj := some 68) #[true, true, true, true, true, true, true, true, true, false, false, false, false, false, true, false, false] #[false, true, true, true, true, true, true, true, true, true, false, false, false, false, true, false, false] rfl rfl rfl rfl (two_of HT_.out (by kernel_rfl)) (by decide) (by decide) (fun K hK => ?_) (fun K hK => ?_)
        · skip
          refine goes_ Try.func16 (by kernel_rfl) rfl #[] (by rfl) rfl rfl (by (try simp only [List.map_toArray, List.map_cons, List.map_nil]); first | done | rfl | (simp only [List.length_drop, List.length_take]; rfl)) ?_
          with_reducible refine (coder_New.calls  t117 t118 t119 _ A13.out).mono ?_
          rintro e w58 ⟨rfl, hb⟩
          refine ⟨_, rfl, ?_⟩
          have n0_ := Aside0.mk (Kd.R_below HO122.out hb)
          have n1_ := Aside0.mk (blk_below (g := gb109) (o := .cells #[.int .i64 ((rd_T23 y105 (ji8)).f0), .int .i64 ((rd_T23 y105 (ji8)).f1), .string ((rd_T23 y105 (ji8)).f2)] 23 (0, 0)) BK109.out hb)
          have n2_ := Aside0.mk (blk_below (g := gb128) (o := .cells #[.int .i64 0, .int .i64 0, .string (⟨#[]⟩ : ByteArray)] 23 (0, 0)) BK128.out hb)
          have n3_ := Aside0.mk (below_step HB.out hb)
          clear HO122
          clear BK109
          clear BK128
          clear HB
          have HO122 := n0_
          have BK109 := n1_
          have BK128 := n2_
          have HB := n3_
          clear n0_ n1_ n2_ n3_
          (try clear hb)
          (try clear hb2)
          (try clear hk)
          (try clear hi)
          refine hK.out _ _ trivial (fun hHeld => ?_)
          clear hK K
          refine norm_ (a' := ?_) ?_ ?_
          rotate_left
          · show Act.put _ (some 59) _ = _
            simp only [Act.put, List.setIfInBounds_toArray, List.set_cons_zero, List.set_cons_succ, i64_w, i32_w]
            rfl
          exact norm_ (by first | (simp only [putAll, Act.put, List.setIfInBounds_toArray, List.set_cons_zero, List.set_cons_succ]; done) | (simp only [putAll, Act.put, List.setIfInBounds_toArray, List.set_cons_zero, List.set_cons_succ]; rfl)) (hJ0_5_14 (.slice (some adz_v121) y120.length co57, adz_v121, gb128) _ ⟨HO122.out, ⟨_, rfl⟩, BK109.out, BK128.out, GW128.out, GE128.out, NB109_128.out, NB128_109.out, HB.out⟩)
        · skip
          (have p123 : 0 ≤ ((Go.bits .and .i64 a0 1) : Int) := of_decide_eq_true (by first | (with_reducible assumption) | assumption); have q123 : (Go.bits .and .i64 a0 1) < (y120.length : Int) := of_decide_eq_true (by first | (with_reducible assumption) | assumption); obtain ⟨ad123, e123, hx123_0⟩ := Kd.at_int (Kd.R_reads' HO122.out).2.2 (Go.bits .and .i64 a0 1) p123 q123; obtain rfl : adz_v121 = ad123 := (by injection e123))
          refine value_ (w1 := ?_) (v := ?_) (by rfl) rfl ?_ ?_
          rotate_left 2
          · go_simp
            constructor
            · rfl
            · rfl
          clear hx123_0
          refine hK.out _ _ trivial (fun hHeld => ?_)
          clear hK K
          refine norm_ (a' := ?_) ?_ ?_
          rotate_left
          · show Act.put _ (some 68) _ = _
            simp only [Act.put, List.setIfInBounds_toArray, List.set_cons_zero, List.set_cons_succ, i64_w, i32_w]
            rfl
          exact norm_ (by first | (simp only [putAll, Act.put, List.setIfInBounds_toArray, List.set_cons_zero, List.set_cons_succ]; done) | (simp only [putAll, Act.put, List.setIfInBounds_toArray, List.set_cons_zero, List.set_cons_succ]; rfl)) (hJ5_9_14 (.slice (some adz_v121) y120.length co57, adz_v121, gb128) _ ⟨HO122.out, ⟨_, rfl⟩, BK109.out, BK128.out, GW128.out, GE128.out, NB109_128.out, NB128_109.out, HB.out⟩)
    intro hJ5_14
    refine join_ (σ := Unit) 10 #[true, true, true, true, true, false, true, true, false, false, false, false, false, false, false, false, false] (fun s_ => [(59, .agg #[.int .i64 t117, .int .i64 t118, .string t119])]) (fun s_ w' => (w'.heap[gb109]? = some (.cells #[.int .i64 ((rd_T23 y105 (ji8)).f0), .int .i64 ((rd_T23 y105 (ji8)).f1), .string ((rd_T23 y105 (ji8)).f2)] 23 (0, 0))) ∧ (Below w.heap.size w w')) ?_ ?_
    · · skip
        rintro _ w53 ⟨h0_, h1_⟩
        have n0_ : Aside0 (w53.heap[gb109]? = some (.cells #[.int .i64 ((rd_T23 y105 (ji8)).f0), .int .i64 ((rd_T23 y105 (ji8)).f1), .string ((rd_T23 y105 (ji8)).f2)] 23 (0, 0))) := ⟨h0_⟩
        have n1_ : Aside0 (Below w.heap.size w w53) := ⟨h1_⟩
        clear BK109
        clear HB
        clear h0_ h1_
        have BK109 := n0_
        have HB := n1_
        clear n0_ n1_
        have hHeld := trivial
        refine norm_ (a' := ?_) ?_ ?_
        rotate_left
        · simp only [putAll, Act.put, List.setIfInBounds_toArray, List.set_cons_zero, List.set_cons_succ]
          rfl
        refine two_ (i := 5) (j := 14) (Ni := some 64) (Nj := some 12) #[true, true, true, true, true, true, true, true, false, false, false, false, false, false, false, false, false] #[true, true, true, true, true, false, true, true, false, false, false, false, false, false, true, false, false] rfl rfl rfl rfl (two_of HT_.out (by kernel_rfl)) (by decide) (by decide) (fun K hK => ?_) (fun K hK => ?_)
        · skip
          refine Kd.R_lit_step (Kd.int .i64) _ 3 ?hg (N := 64) ?hd (xs := ([wrap64 (-(wrap64 (1 + (Go.bits .and .i64 a1 1023)))), wrap64 (1 + (wrap64 (1 + (Go.bits .and .i64 a1 1023))))] : List Int)) (inner := [.int .i64 (wrap64 (-(wrap64 (1 + (Go.bits .and .i64 a1 1023))))), .int .i64 (wrap64 (1 + (wrap64 (1 + (Go.bits .and .i64 a1 1023)))))]) (ok := fun _ => True) (okp := fun _ => True) ?hr ?hp (fun _ hk => hk) trivial (Below.refl _ _) (Nat.le_refl _) (by simp) ?_; (case hd => rfl); (case hg => rfl); (case hr => first | (go_simp; done) | (go_simp; rfl)); (case hp => exact (Reps.one (show Kd.M (Kd.int .i64) _ _ _ (wrap64 (-(wrap64 (1 + (Go.bits .and .i64 a1 1023))))) [.int .i64 (wrap64 (-(wrap64 (1 + (Go.bits .and .i64 a1 1023)))))] from rfl) (Reps.one (show Kd.M (Kd.int .i64) _ _ _ (wrap64 (1 + (wrap64 (1 + (Go.bits .and .i64 a1 1023))))) [.int .i64 (wrap64 (1 + (wrap64 (1 + (Go.bits .and .i64 a1 1023)))))] from rfl) (Reps.none _ _))))
          intro v121 w54 ho55 hb hg_ hnew_
          clear hg_ hnew_
          (first | rw [← Ny120.out] at ho55 | (simp only [Int.reduceToNat] at ho55; rw [← Ny120.out] at ho55))
          have n0_ := Aside0.mk (Kd.R_lower ho55 (below_size HB.out))
          have n1_ := Aside0.mk (blk_below (g := gb109) (o := .cells #[.int .i64 ((rd_T23 y105 (ji8)).f0), .int .i64 ((rd_T23 y105 (ji8)).f1), .string ((rd_T23 y105 (ji8)).f2)] 23 (0, 0)) BK109.out hb)
          have n2_ := Aside0.mk (below_step HB.out hb)
          clear BK109
          clear HB
          have HO122 := n0_
          have BK109 := n1_
          have HB := n2_
          clear n0_ n1_ n2_
          clear hb ho55
          obtain ⟨Ao56, co56, eo56⟩ := Kd.R_slice HO122.out
          subst eo56
          obtain ⟨ado56, fo56, _⟩ := Kd.at_int (Kd.R_reads' HO122.out).2.2 0 (by decide) (by rw [Ny120.out]; simp)
          cases fo56
          refine hK.out _ _ trivial (fun hHeld => ?_)
          clear hK K
          refine norm_ (a' := ?_) ?_ ?_
          rotate_left
          · show Act.put _ (some 64) _ = _
            simp only [Act.put, List.setIfInBounds_toArray, List.set_cons_zero, List.set_cons_succ, i64_w, i32_w]
            rfl
          refine pure_ (i := 8) (N := some 67) (v := ?_) (a' := ?_) #[true, true, true, true, true, true, true, true, true, false, false, false, false, false, false, false, false] rfl rfl (any_of HT_.out (by kernel_rfl)) (fun _ _ _ h => h) (Or.inl ⟨by rfl, ?_⟩) ?_ ?_
          rotate_left
          · intro w'
            go_simp
            with_reducible rfl
          rotate_left
          · simp only [Act.put, List.setIfInBounds_toArray, List.set_cons_zero, List.set_cons_succ, i64_w, i32_w]
            rfl
          exact norm_ (by first | (simp only [putAll, Act.put, List.setIfInBounds_toArray, List.set_cons_zero, List.set_cons_succ]; done) | (simp only [putAll, Act.put, List.setIfInBounds_toArray, List.set_cons_zero, List.set_cons_succ]; rfl)) (hJ0_5 (.slice (some ado56) y120.length co56, ado56) _ ⟨HO122.out, ⟨_, rfl⟩, BK109.out, HB.out⟩)
        · skip
          refine box_step ?hg (N := 12) ?hd (cs := #[.int .i64 0, .int .i64 0, .string (⟨#[]⟩ : ByteArray)]) (t := 23) ?hr ?_; (case hd => rfl); (case hg => rfl); (case hr => first | (go_simp; done) | (go_simp; rfl))
          intro gb128 hg w54 hbox hb
          have n0_ := Aside0.mk (blk_below (g := gb109) (o := .cells #[.int .i64 ((rd_T23 y105 (ji8)).f0), .int .i64 ((rd_T23 y105 (ji8)).f1), .string ((rd_T23 y105 (ji8)).f2)] 23 (0, 0)) BK109.out hb)
          have n1_ := Aside0.mk (below_step HB.out hb)
          have n2_ := Aside0.mk (hbox)
          have n3_ := Aside0.mk ((by rw [hg]; exact (below_size HB.out) : w.heap.size ≤ gb128))
          have n4_ := Aside0.mk ((by rw [hg]; exact (below_size HB.out) : w.heap.size ≤ gb128))
          have n5_ := Aside0.mk ((by rw [hg]; exact Nat.ne_of_lt (blk_lt (g := gb109) (o := .cells #[.int .i64 ((rd_T23 y105 (ji8)).f0), .int .i64 ((rd_T23 y105 (ji8)).f1), .string ((rd_T23 y105 (ji8)).f2)] 23 (0, 0)) BK109.out) : gb109 ≠ gb128))
          have n6_ := Aside0.mk ((by rw [hg]; exact Nat.ne_of_gt (blk_lt (g := gb109) (o := .cells #[.int .i64 ((rd_T23 y105 (ji8)).f0), .int .i64 ((rd_T23 y105 (ji8)).f1), .string ((rd_T23 y105 (ji8)).f2)] 23 (0, 0)) BK109.out) : gb128 ≠ gb109))
          clear BK109
          clear HB
          have BK109 := n0_
          have HB := n1_
          have BK128 := n2_
          have GW128 := n3_
          have GE128 := n4_
          have NB109_128 := n5_
          have NB128_109 := n6_
          clear n0_ n1_ n2_ n3_ n4_ n5_ n6_
          clear hb hbox hg
          refine hK.out _ _ trivial (fun hHeld => ?_)
          clear hK K
          refine norm_ (a' := ?_) ?_ ?_
          rotate_left
          · show Act.put _ (some 12) _ = _
            simp only [Act.put, List.setIfInBounds_toArray, List.set_cons_zero, List.set_cons_succ, i64_w, i32_w]
            rfl
          exact norm_ (by first | (simp only [putAll, Act.put, List.setIfInBounds_toArray, List.set_cons_zero, List.set_cons_succ]; done) | (simp only [putAll, Act.put, List.setIfInBounds_toArray, List.set_cons_zero, List.set_cons_succ]; rfl)) (hJ0_14 (gb128) _ ⟨BK109.out, BK128.out, GW128.out, GE128.out, NB109_128.out, NB128_109.out, HB.out⟩)
    intro hJ0
    refine join_ (σ := Value × Addr) 9 #[false, true, true, true, true, true, true, true, true, false, false, false, false, false, false, false, false] (fun s_ => [(64, s_.1), (67, .pointer (some (s_.2.add ((Go.bits .and .i64 a0 1)).toNat)))]) (fun s_ w' => (Kd.R (Kd.int .i64) 3 w' w.heap.size (fun _ => True) s_.1 y120) ∧ (∃ c_, (s_.1 : Value) = .slice (some s_.2) y120.length c_) ∧ (w'.heap[gb109]? = some (.cells #[.int .i64 ((rd_T23 y105 (ji8)).f0), .int .i64 ((rd_T23 y105 (ji8)).f1), .string ((rd_T23 y105 (ji8)).f2)] 23 (0, 0))) ∧ (Below w.heap.size w w')) ?_ ?_
    · · skip
        rintro ⟨v121, adz_v121⟩ w55 ⟨h0_, h1_, h2_, h3_⟩
        have n0_ : Aside0 (Kd.R (Kd.int .i64) 3 w55 w.heap.size (fun _ => True) v121 y120) := ⟨h0_⟩
        have n1_ : Aside0 (∃ c_, (v121 : Value) = .slice (some adz_v121) y120.length c_) := ⟨h1_⟩
        have n2_ : Aside0 (w55.heap[gb109]? = some (.cells #[.int .i64 ((rd_T23 y105 (ji8)).f0), .int .i64 ((rd_T23 y105 (ji8)).f1), .string ((rd_T23 y105 (ji8)).f2)] 23 (0, 0))) := ⟨h2_⟩
        have n3_ : Aside0 (Below w.heap.size w w55) := ⟨h3_⟩
        clear BK109
        clear HB
        clear h0_ h1_ h2_ h3_
        have HO122 := n0_
        have HA_HO122 := n1_
        have BK109 := n2_
        have HB := n3_
        clear n0_ n1_ n2_ n3_
        have hHeld := trivial
        obtain ⟨co56, eo56⟩ := HA_HO122.out
        clear HA_HO122
        subst eo56
        refine norm_ (a' := ?_) ?_ ?_
        rotate_left
        · simp only [putAll, Act.put, List.setIfInBounds_toArray, List.set_cons_zero, List.set_cons_succ]
          rfl
        refine three_ (i := 0) (j := 9) (k := 14) (Ni := some 59) (Nj := some 68) (Nk := some 12) #[true, true, true, true, true, true, true, true, true, false, false, false, false, false, false, false, false] #[false, true, true, true, true, true, true, true, true, true, false, false, false, false, false, false, false] #[false, true, true, true, true, true, true, true, true, false, false, false, false, false, true, false, false] rfl rfl rfl rfl rfl rfl (three_of HT_.out (by kernel_rfl)) (by decide) (by decide) (by decide) (fun K hK => ?_) (fun K hK => ?_) (fun K hK => ?_)
        · skip
          refine goes_ Try.func16 (by kernel_rfl) rfl #[] (by rfl) rfl rfl (by (try simp only [List.map_toArray, List.map_cons, List.map_nil]); first | done | rfl | (simp only [List.length_drop, List.length_take]; rfl)) ?_
          with_reducible refine (coder_New.calls  t117 t118 t119 _ A13.out).mono ?_
          rintro e w57 ⟨rfl, hb⟩
          refine ⟨_, rfl, ?_⟩
          have n0_ := Aside0.mk (Kd.R_below HO122.out hb)
          have n1_ := Aside0.mk (blk_below (g := gb109) (o := .cells #[.int .i64 ((rd_T23 y105 (ji8)).f0), .int .i64 ((rd_T23 y105 (ji8)).f1), .string ((rd_T23 y105 (ji8)).f2)] 23 (0, 0)) BK109.out hb)
          have n2_ := Aside0.mk (below_step HB.out hb)
          clear HO122
          clear BK109
          clear HB
          have HO122 := n0_
          have BK109 := n1_
          have HB := n2_
          clear n0_ n1_ n2_
          (try clear hb)
          (try clear hb2)
          (try clear hk)
          (try clear hi)
          refine hK.out _ _ trivial (fun hHeld => ?_)
          clear hK K
          refine norm_ (a' := ?_) ?_ ?_
          rotate_left
          · show Act.put _ (some 59) _ = _
            simp only [Act.put, List.setIfInBounds_toArray, List.set_cons_zero, List.set_cons_succ, i64_w, i32_w]
            rfl
          exact norm_ (by first | (simp only [putAll, Act.put, List.setIfInBounds_toArray, List.set_cons_zero, List.set_cons_succ]; done) | (simp only [putAll, Act.put, List.setIfInBounds_toArray, List.set_cons_zero, List.set_cons_succ]; rfl)) (hJ0_5 (.slice (some adz_v121) y120.length co56, adz_v121) _ ⟨HO122.out, ⟨_, rfl⟩, BK109.out, HB.out⟩)
        · skip
          (have p123 : 0 ≤ ((Go.bits .and .i64 a0 1) : Int) := of_decide_eq_true (by first | (with_reducible assumption) | assumption); have q123 : (Go.bits .and .i64 a0 1) < (y120.length : Int) := of_decide_eq_true (by first | (with_reducible assumption) | assumption); obtain ⟨ad123, e123, hx123_0⟩ := Kd.at_int (Kd.R_reads' HO122.out).2.2 (Go.bits .and .i64 a0 1) p123 q123; obtain rfl : adz_v121 = ad123 := (by injection e123))
          refine value_ (w1 := ?_) (v := ?_) (by rfl) rfl ?_ ?_
          rotate_left 2
          · go_simp
            constructor
            · rfl
            · rfl
          clear hx123_0
          refine hK.out _ _ trivial (fun hHeld => ?_)
          clear hK K
          refine norm_ (a' := ?_) ?_ ?_
          rotate_left
          · show Act.put _ (some 68) _ = _
            simp only [Act.put, List.setIfInBounds_toArray, List.set_cons_zero, List.set_cons_succ, i64_w, i32_w]
            rfl
          exact norm_ (by first | (simp only [putAll, Act.put, List.setIfInBounds_toArray, List.set_cons_zero, List.set_cons_succ]; done) | (simp only [putAll, Act.put, List.setIfInBounds_toArray, List.set_cons_zero, List.set_cons_succ]; rfl)) (hJ5_9 (.slice (some adz_v121) y120.length co56, adz_v121) _ ⟨HO122.out, ⟨_, rfl⟩, BK109.out, HB.out⟩)
        · skip
          refine box_step ?hg (N := 12) ?hd (cs := #[.int .i64 0, .int .i64 0, .string (⟨#[]⟩ : ByteArray)]) (t := 23) ?hr ?_; (case hd => rfl); (case hg => rfl); (case hr => first | (go_simp; done) | (go_simp; rfl))
          intro gb128 hg w57 hbox hb
          have n0_ := Aside0.mk (Kd.R_below HO122.out hb)
          have n1_ := Aside0.mk (blk_below (g := gb109) (o := .cells #[.int .i64 ((rd_T23 y105 (ji8)).f0), .int .i64 ((rd_T23 y105 (ji8)).f1), .string ((rd_T23 y105 (ji8)).f2)] 23 (0, 0)) BK109.out hb)
          have n2_ := Aside0.mk (below_step HB.out hb)
          have n3_ := Aside0.mk (hbox)
          have n4_ := Aside0.mk ((by rw [hg]; exact (below_size HB.out) : w.heap.size ≤ gb128))
          have n5_ := Aside0.mk ((by rw [hg]; exact (below_size HB.out) : w.heap.size ≤ gb128))
          have n6_ := Aside0.mk ((by rw [hg]; exact Nat.ne_of_lt (blk_lt (g := gb109) (o := .cells #[.int .i64 ((rd_T23 y105 (ji8)).f0), .int .i64 ((rd_T23 y105 (ji8)).f1), .string ((rd_T23 y105 (ji8)).f2)] 23 (0, 0)) BK109.out) : gb109 ≠ gb128))
          have n7_ := Aside0.mk ((by rw [hg]; exact Nat.ne_of_gt (blk_lt (g := gb109) (o := .cells #[.int .i64 ((rd_T23 y105 (ji8)).f0), .int .i64 ((rd_T23 y105 (ji8)).f1), .string ((rd_T23 y105 (ji8)).f2)] 23 (0, 0)) BK109.out) : gb128 ≠ gb109))
          clear HO122
          clear BK109
          clear HB
          have HO122 := n0_
          have BK109 := n1_
          have HB := n2_
          have BK128 := n3_
          have GW128 := n4_
          have GE128 := n5_
          have NB109_128 := n6_
          have NB128_109 := n7_
          clear n0_ n1_ n2_ n3_ n4_ n5_ n6_ n7_
          clear hb hbox hg
          refine hK.out _ _ trivial (fun hHeld => ?_)
          clear hK K
          refine norm_ (a' := ?_) ?_ ?_
          rotate_left
          · show Act.put _ (some 12) _ = _
            simp only [Act.put, List.setIfInBounds_toArray, List.set_cons_zero, List.set_cons_succ, i64_w, i32_w]
            rfl
          exact norm_ (by first | (simp only [putAll, Act.put, List.setIfInBounds_toArray, List.set_cons_zero, List.set_cons_succ]; done) | (simp only [putAll, Act.put, List.setIfInBounds_toArray, List.set_cons_zero, List.set_cons_succ]; rfl)) (hJ5_14 (.slice (some adz_v121) y120.length co56, adz_v121, gb128) _ ⟨HO122.out, ⟨_, rfl⟩, BK109.out, BK128.out, GW128.out, GE128.out, NB109_128.out, NB128_109.out, HB.out⟩)
    intro hJ5
    refine join_ (σ := Nat) 10 #[false, true, true, true, true, false, true, true, false, false, false, false, false, false, true, false, false] (fun s_ => [(12, .pointer (some ⟨s_, 0, none⟩))]) (fun s_ w' => (w'.heap[gb109]? = some (.cells #[.int .i64 ((rd_T23 y105 (ji8)).f0), .int .i64 ((rd_T23 y105 (ji8)).f1), .string ((rd_T23 y105 (ji8)).f2)] 23 (0, 0))) ∧ (w'.heap[s_]? = some (.cells #[.int .i64 0, .int .i64 0, .string (⟨#[]⟩ : ByteArray)] 23 (0, 0))) ∧ (w.heap.size ≤ s_) ∧ (w.heap.size ≤ s_) ∧ (gb109 ≠ s_) ∧ (s_ ≠ gb109) ∧ (Below w.heap.size w w')) ?_ ?_
    · · skip
        rintro gb128 w53 ⟨h0_, h1_, h2_, h3_, h4_, h5_, h6_⟩
        have n0_ : Aside0 (w53.heap[gb109]? = some (.cells #[.int .i64 ((rd_T23 y105 (ji8)).f0), .int .i64 ((rd_T23 y105 (ji8)).f1), .string ((rd_T23 y105 (ji8)).f2)] 23 (0, 0))) := ⟨h0_⟩
        have n1_ : Aside0 (w53.heap[gb128]? = some (.cells #[.int .i64 0, .int .i64 0, .string (⟨#[]⟩ : ByteArray)] 23 (0, 0))) := ⟨h1_⟩
        have n2_ : Aside0 (w.heap.size ≤ gb128) := ⟨h2_⟩
        have n3_ : Aside0 (w.heap.size ≤ gb128) := ⟨h3_⟩
        have n4_ : Aside0 (gb109 ≠ gb128) := ⟨h4_⟩
        have n5_ : Aside0 (gb128 ≠ gb109) := ⟨h5_⟩
        have n6_ : Aside0 (Below w.heap.size w w53) := ⟨h6_⟩
        clear BK109
        clear HB
        clear h0_ h1_ h2_ h3_ h4_ h5_ h6_
        have BK109 := n0_
        have BK128 := n1_
        have GW128 := n2_
        have GE128 := n3_
        have NB109_128 := n4_
        have NB128_109 := n5_
        have HB := n6_
        clear n0_ n1_ n2_ n3_ n4_ n5_ n6_
        have hHeld := trivial
        refine norm_ (a' := ?_) ?_ ?_
        rotate_left
        · simp only [putAll, Act.put, List.setIfInBounds_toArray, List.set_cons_zero, List.set_cons_succ]
          rfl
        refine two_ (i := 0) (j := 5) (Ni := some 59) (Nj := some 64) #[true, true, true, true, true, false, true, true, false, false, false, false, false, false, true, false, false] #[false, true, true, true, true, true, true, true, false, false, false, false, false, false, true, false, false] rfl rfl rfl rfl (two_of HT_.out (by kernel_rfl)) (by decide) (by decide) (fun K hK => ?_) (fun K hK => ?_)
        · skip
          refine goes_ Try.func16 (by kernel_rfl) rfl #[] (by rfl) rfl rfl (by (try simp only [List.map_toArray, List.map_cons, List.map_nil]); first | done | rfl | (simp only [List.length_drop, List.length_take]; rfl)) ?_
          with_reducible refine (coder_New.calls  t117 t118 t119 _ A13.out).mono ?_
          rintro e w54 ⟨rfl, hb⟩
          refine ⟨_, rfl, ?_⟩
          have n0_ := Aside0.mk (blk_below (g := gb109) (o := .cells #[.int .i64 ((rd_T23 y105 (ji8)).f0), .int .i64 ((rd_T23 y105 (ji8)).f1), .string ((rd_T23 y105 (ji8)).f2)] 23 (0, 0)) BK109.out hb)
          have n1_ := Aside0.mk (blk_below (g := gb128) (o := .cells #[.int .i64 0, .int .i64 0, .string (⟨#[]⟩ : ByteArray)] 23 (0, 0)) BK128.out hb)
          have n2_ := Aside0.mk (below_step HB.out hb)
          clear BK109
          clear BK128
          clear HB
          have BK109 := n0_
          have BK128 := n1_
          have HB := n2_
          clear n0_ n1_ n2_
          (try clear hb)
          (try clear hb2)
          (try clear hk)
          (try clear hi)
          refine hK.out _ _ trivial (fun hHeld => ?_)
          clear hK K
          refine norm_ (a' := ?_) ?_ ?_
          rotate_left
          · show Act.put _ (some 59) _ = _
            simp only [Act.put, List.setIfInBounds_toArray, List.set_cons_zero, List.set_cons_succ, i64_w, i32_w]
            rfl
          exact norm_ (by first | (simp only [putAll, Act.put, List.setIfInBounds_toArray, List.set_cons_zero, List.set_cons_succ]; done) | (simp only [putAll, Act.put, List.setIfInBounds_toArray, List.set_cons_zero, List.set_cons_succ]; rfl)) (hJ0_14 (gb128) _ ⟨BK109.out, BK128.out, GW128.out, GE128.out, NB109_128.out, NB128_109.out, HB.out⟩)
        · skip
          refine Kd.R_lit_step (Kd.int .i64) _ 3 ?hg (N := 64) ?hd (xs := ([wrap64 (-(wrap64 (1 + (Go.bits .and .i64 a1 1023)))), wrap64 (1 + (wrap64 (1 + (Go.bits .and .i64 a1 1023))))] : List Int)) (inner := [.int .i64 (wrap64 (-(wrap64 (1 + (Go.bits .and .i64 a1 1023))))), .int .i64 (wrap64 (1 + (wrap64 (1 + (Go.bits .and .i64 a1 1023)))))]) (ok := fun _ => True) (okp := fun _ => True) ?hr ?hp (fun _ hk => hk) trivial (Below.refl _ _) (Nat.le_refl _) (by simp) ?_; (case hd => rfl); (case hg => rfl); (case hr => first | (go_simp; done) | (go_simp; rfl)); (case hp => exact (Reps.one (show Kd.M (Kd.int .i64) _ _ _ (wrap64 (-(wrap64 (1 + (Go.bits .and .i64 a1 1023))))) [.int .i64 (wrap64 (-(wrap64 (1 + (Go.bits .and .i64 a1 1023)))))] from rfl) (Reps.one (show Kd.M (Kd.int .i64) _ _ _ (wrap64 (1 + (wrap64 (1 + (Go.bits .and .i64 a1 1023))))) [.int .i64 (wrap64 (1 + (wrap64 (1 + (Go.bits .and .i64 a1 1023)))))] from rfl) (Reps.none _ _))))
          intro v121 w54 ho55 hb hg_ hnew_
          clear hg_ hnew_
          (first | rw [← Ny120.out] at ho55 | (simp only [Int.reduceToNat] at ho55; rw [← Ny120.out] at ho55))
          have n0_ := Aside0.mk (Kd.R_lower ho55 (below_size HB.out))
          have n1_ := Aside0.mk (blk_below (g := gb109) (o := .cells #[.int .i64 ((rd_T23 y105 (ji8)).f0), .int .i64 ((rd_T23 y105 (ji8)).f1), .string ((rd_T23 y105 (ji8)).f2)] 23 (0, 0)) BK109.out hb)
          have n2_ := Aside0.mk (blk_below (g := gb128) (o := .cells #[.int .i64 0, .int .i64 0, .string (⟨#[]⟩ : ByteArray)] 23 (0, 0)) BK128.out hb)
          have n3_ := Aside0.mk (below_step HB.out hb)
          clear BK109
          clear BK128
          clear HB
          have HO122 := n0_
          have BK109 := n1_
          have BK128 := n2_
          have HB := n3_
          clear n0_ n1_ n2_ n3_
          clear hb ho55
          obtain ⟨Ao56, co56, eo56⟩ := Kd.R_slice HO122.out
          subst eo56
          obtain ⟨ado56, fo56, _⟩ := Kd.at_int (Kd.R_reads' HO122.out).2.2 0 (by decide) (by rw [Ny120.out]; simp)
          cases fo56
          refine hK.out _ _ trivial (fun hHeld => ?_)
          clear hK K
          refine norm_ (a' := ?_) ?_ ?_
          rotate_left
          · show Act.put _ (some 64) _ = _
            simp only [Act.put, List.setIfInBounds_toArray, List.set_cons_zero, List.set_cons_succ, i64_w, i32_w]
            rfl
          refine pure_ (i := 8) (N := some 67) (v := ?_) (a' := ?_) #[false, true, true, true, true, true, true, true, true, false, false, false, false, false, true, false, false] rfl rfl (any_of HT_.out (by kernel_rfl)) (fun _ _ _ h => h) (Or.inl ⟨by rfl, ?_⟩) ?_ ?_
          rotate_left
          · intro w'
            go_simp
            with_reducible rfl
          rotate_left
          · simp only [Act.put, List.setIfInBounds_toArray, List.set_cons_zero, List.set_cons_succ, i64_w, i32_w]
            rfl
          exact norm_ (by first | (simp only [putAll, Act.put, List.setIfInBounds_toArray, List.set_cons_zero, List.set_cons_succ]; done) | (simp only [putAll, Act.put, List.setIfInBounds_toArray, List.set_cons_zero, List.set_cons_succ]; rfl)) (hJ5_14 (.slice (some ado56) y120.length co56, ado56, gb128) _ ⟨HO122.out, ⟨_, rfl⟩, BK109.out, BK128.out, GW128.out, GE128.out, NB109_128.out, NB128_109.out, HB.out⟩)
    intro hJ14
    refine three_ (i := 0) (j := 5) (k := 14) (Ni := some 59) (Nj := some 64) (Nk := some 12) #[true, true, true, true, true, false, true, true, false, false, false, false, false, false, false, false, false] #[false, true, true, true, true, true, true, true, false, false, false, false, false, false, false, false, false] #[false, true, true, true, true, false, true, true, false, false, false, false, false, false, true, false, false] rfl rfl rfl rfl rfl rfl (three_of HT_.out (by kernel_rfl)) (by decide) (by decide) (by decide) (fun K hK => ?_) (fun K hK => ?_) (fun K hK => ?_)
    · skip
      refine goes_ Try.func16 (by kernel_rfl) rfl #[] (by rfl) rfl rfl (by (try simp only [List.map_toArray, List.map_cons, List.map_nil]); first | done | rfl | (simp only [List.length_drop, List.length_take]; rfl)) ?_
      with_reducible refine (coder_New.calls  t117 t118 t119 _ A13.out).mono ?_
      rintro e w52 ⟨rfl, hb⟩
      refine ⟨_, rfl, ?_⟩
      have n0_ := Aside0.mk (blk_below (g := gb109) (o := .cells #[.int .i64 ((rd_T23 y105 (ji8)).f0), .int .i64 ((rd_T23 y105 (ji8)).f1), .string ((rd_T23 y105 (ji8)).f2)] 23 (0, 0)) BK109.out hb)
      have n1_ := Aside0.mk (below_step HB.out hb)
      clear BK109
      clear HB
      have BK109 := n0_
      have HB := n1_
      clear n0_ n1_
      (try clear hb)
      (try clear hb2)
      (try clear hk)
      (try clear hi)
      refine hK.out _ _ trivial (fun hHeld => ?_)
      clear hK K
      refine norm_ (a' := ?_) ?_ ?_
      rotate_left
      · show Act.put _ (some 59) _ = _
        simp only [Act.put, List.setIfInBounds_toArray, List.set_cons_zero, List.set_cons_succ, i64_w, i32_w]
        rfl
      exact norm_ (by first | (simp only [putAll, Act.put, List.setIfInBounds_toArray, List.set_cons_zero, List.set_cons_succ]; done) | (simp only [putAll, Act.put, List.setIfInBounds_toArray, List.set_cons_zero, List.set_cons_succ]; rfl)) (hJ0 () _ ⟨BK109.out, HB.out⟩)
    · skip
      refine Kd.R_lit_step (Kd.int .i64) _ 3 ?hg (N := 64) ?hd (xs := ([wrap64 (-(wrap64 (1 + (Go.bits .and .i64 a1 1023)))), wrap64 (1 + (wrap64 (1 + (Go.bits .and .i64 a1 1023))))] : List Int)) (inner := [.int .i64 (wrap64 (-(wrap64 (1 + (Go.bits .and .i64 a1 1023))))), .int .i64 (wrap64 (1 + (wrap64 (1 + (Go.bits .and .i64 a1 1023)))))]) (ok := fun _ => True) (okp := fun _ => True) ?hr ?hp (fun _ hk => hk) trivial (Below.refl _ _) (Nat.le_refl _) (by simp) ?_; (case hd => rfl); (case hg => rfl); (case hr => first | (go_simp; done) | (go_simp; rfl)); (case hp => exact (Reps.one (show Kd.M (Kd.int .i64) _ _ _ (wrap64 (-(wrap64 (1 + (Go.bits .and .i64 a1 1023))))) [.int .i64 (wrap64 (-(wrap64 (1 + (Go.bits .and .i64 a1 1023)))))] from rfl) (Reps.one (show Kd.M (Kd.int .i64) _ _ _ (wrap64 (1 + (wrap64 (1 + (Go.bits .and .i64 a1 1023))))) [.int .i64 (wrap64 (1 + (wrap64 (1 + (Go.bits .and .i64 a1 1023)))))] from rfl) (Reps.none _ _))))
      intro v121 w52 ho53 hb hg_ hnew_
      clear hg_ hnew_
      (first | rw [← Ny120.out] at ho53 | (simp only [Int.reduceToNat] at ho53; rw [← Ny120.out] at ho53))
      have n0_ := Aside0.mk (Kd.R_lower ho53 (below_size HB.out))
      have n1_ := Aside0.mk (blk_below (g := gb109) (o := .cells #[.int .i64 ((rd_T23 y105 (ji8)).f0), .int .i64 ((rd_T23 y105 (ji8)).f1), .string ((rd_T23 y105 (ji8)).f2)] 23 (0, 0)) BK109.out hb)
      have n2_ := Aside0.mk (below_step HB.out hb)
      clear BK109
      clear HB
      have HO122 := n0_
      have BK109 := n1_
      have HB := n2_
      clear n0_ n1_ n2_
      clear hb ho53
      obtain ⟨Ao54, co54, eo54⟩ := Kd.R_slice HO122.out
      subst eo54
      obtain ⟨ado54, fo54, _⟩ := Kd.at_int (Kd.R_reads' HO122.out).2.2 0 (by decide) (by rw [Ny120.out]; simp)
      cases fo54
      refine hK.out _ _ trivial (fun hHeld => ?_)
      clear hK K
      refine norm_ (a' := ?_) ?_ ?_
      rotate_left
      · show Act.put _ (some 64) _ = _
        simp only [Act.put, List.setIfInBounds_toArray, List.set_cons_zero, List.set_cons_succ, i64_w, i32_w]
        rfl
      refine pure_ (i := 8) (N := some 67) (v := ?_) (a' := ?_) #[false, true, true, true, true, true, true, true, true, false, false, false, false, false, false, false, false] rfl rfl (any_of HT_.out (by kernel_rfl)) (fun _ _ _ h => h) (Or.inl ⟨by rfl, ?_⟩) ?_ ?_
      rotate_left
      · intro w'
        go_simp
        with_reducible rfl
      rotate_left
      · simp only [Act.put, List.setIfInBounds_toArray, List.set_cons_zero, List.set_cons_succ, i64_w, i32_w]
        rfl
      exact norm_ (by first | (simp only [putAll, Act.put, List.setIfInBounds_toArray, List.set_cons_zero, List.set_cons_succ]; done) | (simp only [putAll, Act.put, List.setIfInBounds_toArray, List.set_cons_zero, List.set_cons_succ]; rfl)) (hJ5 (.slice (some ado54) y120.length co54, ado54) _ ⟨HO122.out, ⟨_, rfl⟩, BK109.out, HB.out⟩)
    · skip
      refine box_step ?hg (N := 12) ?hd (cs := #[.int .i64 0, .int .i64 0, .string (⟨#[]⟩ : ByteArray)]) (t := 23) ?hr ?_; (case hd => rfl); (case hg => rfl); (case hr => first | (go_simp; done) | (go_simp; rfl))
      intro gb128 hg w52 hbox hb
      have n0_ := Aside0.mk (blk_below (g := gb109) (o := .cells #[.int .i64 ((rd_T23 y105 (ji8)).f0), .int .i64 ((rd_T23 y105 (ji8)).f1), .string ((rd_T23 y105 (ji8)).f2)] 23 (0, 0)) BK109.out hb)
      have n1_ := Aside0.mk (below_step HB.out hb)
      have n2_ := Aside0.mk (hbox)
      have n3_ := Aside0.mk ((by rw [hg]; exact (below_size HB.out) : w.heap.size ≤ gb128))
      have n4_ := Aside0.mk ((by rw [hg]; exact (below_size HB.out) : w.heap.size ≤ gb128))
      have n5_ := Aside0.mk ((by rw [hg]; exact Nat.ne_of_lt (blk_lt (g := gb109) (o := .cells #[.int .i64 ((rd_T23 y105 (ji8)).f0), .int .i64 ((rd_T23 y105 (ji8)).f1), .string ((rd_T23 y105 (ji8)).f2)] 23 (0, 0)) BK109.out) : gb109 ≠ gb128))
      have n6_ := Aside0.mk ((by rw [hg]; exact Nat.ne_of_gt (blk_lt (g := gb109) (o := .cells #[.int .i64 ((rd_T23 y105 (ji8)).f0), .int .i64 ((rd_T23 y105 (ji8)).f1), .string ((rd_T23 y105 (ji8)).f2)] 23 (0, 0)) BK109.out) : gb128 ≠ gb109))
      clear BK109
      clear HB
      have BK109 := n0_
      have HB := n1_
      have BK128 := n2_
      have GW128 := n3_
      have GE128 := n4_
      have NB109_128 := n5_
      have NB128_109 := n6_
      clear n0_ n1_ n2_ n3_ n4_ n5_ n6_
      clear hb hbox hg
      refine hK.out _ _ trivial (fun hHeld => ?_)
      clear hK K
      refine norm_ (a' := ?_) ?_ ?_
      rotate_left
      · show Act.put _ (some 12) _ = _
        simp only [Act.put, List.setIfInBounds_toArray, List.set_cons_zero, List.set_cons_succ, i64_w, i32_w]
        rfl
      exact norm_ (by first | (simp only [putAll, Act.put, List.setIfInBounds_toArray, List.set_cons_zero, List.set_cons_succ]; done) | (simp only [putAll, Act.put, List.setIfInBounds_toArray, List.set_cons_zero, List.set_cons_succ]; rfl)) (hJ14 (gb128) _ ⟨BK109.out, BK128.out, GW128.out, GE128.out, NB109_128.out, NB128_109.out, HB.out⟩)
/-- THE ONE PURE STATEMENT of descantlaw4_CoderForms: yours. -/
def descantlaw4_CoderForms.Pure : Prop := ∀ (a0 : Int) (a1 : Int), (Lit.int .i64 a0).wf = true → (Lit.int .i64 a1).wf = true → descantlaw4_CoderForms.f a0 a1 = some true
theorem descantlaw4_CoderForms.walk (P : descantlaw4_CoderForms.Pure) (a0 : Int) (a1 : Int) (w : World) (w0 : (Lit.int .i64 a0).wf = true) (w1 : (Lit.int .i64 a1).wf = true) :
    Calls Try.prog 4 #[.int .i64 a0, .int .i64 a1] w fun e w' => e = .returned (.bool true) ∧ Below w.heap.size w w' := by
  have h := P a0 a1 w0 w1
  refine (descantlaw4_CoderForms.calls a0 a1 true w rfl h).mono ?_
  rintro e w' ⟨rfl, hd⟩
  exact ⟨rfl, hd⟩

end Go.Proofs.Ytpahbnahfhailaa.RCoderForms
