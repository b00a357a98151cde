-- Laid by a program of this session (wip/myprint.py), over the kit's print of the translation. Not trusted: Lean checks it.
import Derived.Test.YtbhmpmhjklkghaaRDecoderFormsx0
namespace Go.Proofs.Ytbhmpmhjklkghaa.RDecoderForms
open Go.RowKit Go.Proofs.Ytbhmpmhjklkghaa Go.Proofs.Ytbhmpmhjklkghaa.CBase Go.Proofs.YtbhmpmhjklkghaaW.PrintWords Go.Proofs.YtbhmpmhjklkghaaW.PrintLast Go.Proofs.YtbhmpmhjklkghaaW.PrintMore
attribute [local go_sem] max2_int min2_int max_two min_two max_three min_three max_four min_four   -- for this text's walks alone
set_option linter.unusedVariables false
set_option linter.unusedSimpArgs false

/-! ### descantlaw5_DecoderForms: function 5 -/
def descantlaw5_DecoderForms.j0 : Nat → Int → Int → Int → Int → Int → ByteArray → Int → Int → Int → Int → ByteArray → Int → Option (Bool)
  | 0, _, _, _, _, _, _, _, _, _, _, _, _ => none
  | k + 1, x0, x5, x109000, x109001, x109002, x109003, x109004, x110000, x110001, x110002, x110003, x110004 => (decoder_Bit.f x110000 x110001 x110002 x110003 x110004 9).bind fun bt113 => ((some (([wrap64 (1 - x5), wrap64 (4095 + x5)] : List Int) : List Int)).bind fun y121 => (if 0 ≤ (Go.bits .and .i64 x0 1) then (if (Go.bits .and .i64 x0 1) < (y121.length : Int) then ((decoder_Bit.f x109000 x109001 x109002 x109003 x109004 (rd y121 (Go.bits .and .i64 x0 1))).bind fun bt125 => (if 0 ≤ (wrap64 (65536 + x5)) then (if (wrap64 (65536 + x5) : Int).toNat ≤ 281474976710656 then ((decoder_New.f k (strOfNums (List.replicate (wrap64 (65536 + x5) : Int).toNat 0))).bind fun bt136 => ((decoder_May.f x109000 x109001 x109002 x109003 x109004).bind fun t143 => (if t143 = true then ((decoder_May.f x110000 x110001 x110002 x110003 x110004).bind fun t144 => (if t144 = true then (some false) else ((descantlaw0_Num.f bt113.2.2.2.2.2.2).bind fun t145 => (if t145 = 500 then ((descantlaw0_Num.f bt125.2.2.2.2.2.2).bind fun t146 => (if t146 = 500 then ((descantlaw0_Num.f bt136.2.2.2.2.2).bind fun t147 => (some (t147 == 500))) else (some false))) else (some false))))) else (some false)))) else (none)) else (none))) else (none)) else (none)))
def descantlaw5_DecoderForms.f (k : Nat) (a0 : Int) (a1 : Int) : Option (Bool) := (descantlaw5_awake.f).bind fun t101 => (if t101 = true then ((descantref1_NewDecoder.f (⟨#[97, 98, 99, 100, 101, 102]⟩ : ByteArray)).bind fun bt102 => (if (Int.tmod (IntKind.u64.wrap (a0)) 8) = 0 then (descantlaw5_DecoderForms.j0 k a0 (wrap64 (1 + (Go.bits .and .i64 a1 1023))) bt102.1 bt102.2.1 bt102.2.2.1 bt102.2.2.2.1 bt102.2.2.2.2.1 (wrap64 (-(wrap64 (1 + (Go.bits .and .i64 a1 1023))))) bt102.2.1 bt102.2.2.1 bt102.2.2.2.1 bt102.2.2.2.2.1) else (if (Int.tmod (IntKind.u64.wrap (a0)) 8) = 1 then (descantlaw5_DecoderForms.j0 k a0 (wrap64 (1 + (Go.bits .and .i64 a1 1023))) bt102.1 bt102.2.1 bt102.2.2.1 bt102.2.2.2.1 bt102.2.2.2.2.1 bt102.1 (wrap64 (4294967295 + (wrap64 (1 + (Go.bits .and .i64 a1 1023))))) bt102.2.2.1 bt102.2.2.2.1 bt102.2.2.2.2.1) else (if (Int.tmod (IntKind.u64.wrap (a0)) 8) = 2 then (descantlaw5_DecoderForms.j0 k a0 (wrap64 (1 + (Go.bits .and .i64 a1 1023))) bt102.1 bt102.2.1 bt102.2.2.1 bt102.2.2.2.1 bt102.2.2.2.2.1 bt102.1 bt102.2.1 (wrap64 (-(wrap64 (1 + (Go.bits .and .i64 a1 1023))))) bt102.2.2.2.1 bt102.2.2.2.2.1) else (if (Int.tmod (IntKind.u64.wrap (a0)) 8) = 3 then (descantlaw5_DecoderForms.j0 k a0 (wrap64 (1 + (Go.bits .and .i64 a1 1023))) bt102.1 bt102.2.1 bt102.2.2.1 bt102.2.2.2.1 bt102.2.2.2.2.1 bt102.1 (wrap64 (bt102.2.2.1 - (wrap64 (1 + (Go.bits .and .i64 a1 1023))))) bt102.2.2.1 bt102.2.2.2.1 bt102.2.2.2.2.1) else (if (Int.tmod (IntKind.u64.wrap (a0)) 8) = 4 then (descantlaw5_DecoderForms.j0 k a0 (wrap64 (1 + (Go.bits .and .i64 a1 1023))) bt102.1 bt102.2.1 bt102.2.2.1 bt102.2.2.2.1 bt102.2.2.2.2.1 bt102.1 bt102.2.1 bt102.2.2.1 bt102.2.2.2.1 (wrap64 (4 - (wrap64 (1 + (Go.bits .and .i64 a1 1023)))))) else (if (Int.tmod (IntKind.u64.wrap (a0)) 8) = 5 then (descantlaw5_DecoderForms.j0 k a0 (wrap64 (1 + (Go.bits .and .i64 a1 1023))) bt102.1 bt102.2.1 bt102.2.2.1 bt102.2.2.2.1 bt102.2.2.2.2.1 bt102.1 bt102.2.1 bt102.2.2.1 bt102.2.2.2.1 (wrap64 (65544 + (wrap64 (1 + (Go.bits .and .i64 a1 1023)))))) else (if (Int.tmod (IntKind.u64.wrap (a0)) 8) = 6 then (if 0 ≤ (wrap64 (65536 + (wrap64 (1 + (Go.bits .and .i64 a1 1023))))) then (if (wrap64 (65536 + (wrap64 (1 + (Go.bits .and .i64 a1 1023)))) : Int).toNat ≤ 281474976710656 then (descantlaw5_DecoderForms.j0 k a0 (wrap64 (1 + (Go.bits .and .i64 a1 1023))) bt102.1 bt102.2.1 bt102.2.2.1 bt102.2.2.2.1 bt102.2.2.2.2.1 bt102.1 bt102.2.1 bt102.2.2.1 (strOfNums (List.replicate (wrap64 (65536 + (wrap64 (1 + (Go.bits .and .i64 a1 1023)))) : Int).toNat 0)) bt102.2.2.2.2.1) else (none)) else (none)) else (descantlaw5_DecoderForms.j0 k a0 (wrap64 (1 + (Go.bits .and .i64 a1 1023))) bt102.1 bt102.2.1 bt102.2.2.1 bt102.2.2.2.1 bt102.2.2.2.2.1 (wrap64 (bt102.2.1 - 5)) bt102.2.1 bt102.2.1 bt102.2.2.2.1 bt102.2.2.2.2.1))))))))) else (some false))
theorem descantlaw5_DecoderForms.mono_l : ∀ k, (∀ y0 y1 y2 y3 y4 y5 y6 y7 y8 y9 y10 y11, LeO (descantlaw5_DecoderForms.j0 k y0 y1 y2 y3 y4 y5 y6 y7 y8 y9 y10 y11) (descantlaw5_DecoderForms.j0 (k + 1) y0 y1 y2 y3 y4 y5 y6 y7 y8 y9 y10 y11))
  | 0 => fun _ _ _ _ _ _ _ _ _ _ _ _ r h => by simp [descantlaw5_DecoderForms.j0] at h
  | k + 1 => by
    have ih0 := descantlaw5_DecoderForms.mono_l k
    · intro y0 y1 y2 y3 y4 y5 y6 y7 y8 y9 y10 y11
      unfold descantlaw5_DecoderForms.j0
      repeat' first
      | (with_reducible exact ih0 _ _ _ _ _ _ _ _ _ _ _ _)
      | (with_reducible exact decoder_New.mono _ _)
      | (with_reducible exact LeO.refl _)
      | (with_reducible exact LeO.none _)
      | (with_reducible refine LeO.ite ?_ ?_)
      | (with_reducible refine LeO.bind ?_ (fun _ => ?_))
      | exact ih0 _ _ _ _ _ _ _ _ _ _ _ _
      | exact decoder_New.mono _ _
      | exact LeO.none _
      | refine LeO.ite ?_ ?_
      | refine LeO.bind ?_ (fun _ => ?_)
theorem descantlaw5_DecoderForms.mono : ∀ a0 a1 k, LeO (descantlaw5_DecoderForms.f k a0 a1) (descantlaw5_DecoderForms.f (k + 1) a0 a1) := by
  intro a0 a1 k
  have ih0 := descantlaw5_DecoderForms.mono_l k
  unfold descantlaw5_DecoderForms.f
  repeat' first
      | (with_reducible exact ih0 _ _ _ _ _ _ _ _ _ _ _ _)
      | (with_reducible exact decoder_New.mono _ _)
      | (with_reducible exact LeO.refl _)
      | (with_reducible exact LeO.none _)
      | (with_reducible refine LeO.ite ?_ ?_)
      | (with_reducible refine LeO.bind ?_ (fun _ => ?_))
      | exact ih0 _ _ _ _ _ _ _ _ _ _ _ _
      | exact decoder_New.mono _ _
      | exact LeO.none _
      | refine LeO.ite ?_ ?_
      | refine LeO.bind ?_ (fun _ => ?_)
def descantlaw5_DecoderForms.T24 : Bool × List (List Nat × List Nat) := (true, [([], []), ([], []), ([1], [1]), ([], []), ([3], [3]), ([2, 4], [2, 4]), ([], []), ([6], [6]), ([5, 7], [5, 7]), ([8], [8]), ([0, 9], [0, 9]), ([10], [10]), ([11], [11]), ([11], [11]), ([11], [11]), ([], []), ([15, 12, 10, 0, 1, 2, 3, 4, 5, 6, 7, 8, 9, 10, 11, 12, 15], [12, 15]), ([13, 16, 0, 1, 2, 3, 4, 5, 6, 7, 8, 9, 10, 11, 12, 13, 15, 16], [13]), ([14, 17, 0, 1, 2, 3, 4, 5, 6, 7, 8, 9, 10, 11, 12, 13, 14, 15, 16, 17], [14])])
def descantlaw5_DecoderForms.B24 : List Nat := [0, 0, 2, 0, 8, 30, 0, 64, 254, 510, 1023, 2047, 4095, 4095, 4095, 0, 40959, 114687, 262143]
theorem descantlaw5_DecoderForms.tab24 : rtab .any (opsOf Try.f5 24) = descantlaw5_DecoderForms.T24 := by kernel_rfl
theorem descantlaw5_DecoderForms.bits24 : waitsOk descantlaw5_DecoderForms.T24.2 descantlaw5_DecoderForms.B24 = true := by kernel_rfl
set_option maxHeartbeats 8000000 in
set_option maxRecDepth 100000 in
theorem descantlaw5_DecoderForms.calls (k : Nat) (a0 : Int) (a1 : Int) (r : Bool) (w : World) (hr_ : r = true) (h : descantlaw5_DecoderForms.f k a0 a1 = some r) :
    Calls Try.prog 5 #[.int .i64 a0, .int .i64 a1] w fun e w' => e = .returned (.bool r) ∧ Below w.heap.size w w' := by
  have hu23 := Try.underlying23
  have HB := Aside0.mk (Below.refl w.heap.size w)
  subst hr_
  have H : ((descantlaw5_awake.f).bind fun t101 => (if t101 = true then ((descantref1_NewDecoder.f (⟨#[97, 98, 99, 100, 101, 102]⟩ : ByteArray)).bind fun bt102 => (if (Int.tmod (IntKind.u64.wrap (a0)) 8) = 0 then (descantlaw5_DecoderForms.j0 k a0 (wrap64 (1 + (Go.bits .and .i64 a1 1023))) bt102.1 bt102.2.1 bt102.2.2.1 bt102.2.2.2.1 bt102.2.2.2.2.1 (wrap64 (-(wrap64 (1 + (Go.bits .and .i64 a1 1023))))) bt102.2.1 bt102.2.2.1 bt102.2.2.2.1 bt102.2.2.2.2.1) else (if (Int.tmod (IntKind.u64.wrap (a0)) 8) = 1 then (descantlaw5_DecoderForms.j0 k a0 (wrap64 (1 + (Go.bits .and .i64 a1 1023))) bt102.1 bt102.2.1 bt102.2.2.1 bt102.2.2.2.1 bt102.2.2.2.2.1 bt102.1 (wrap64 (4294967295 + (wrap64 (1 + (Go.bits .and .i64 a1 1023))))) bt102.2.2.1 bt102.2.2.2.1 bt102.2.2.2.2.1) else (if (Int.tmod (IntKind.u64.wrap (a0)) 8) = 2 then (descantlaw5_DecoderForms.j0 k a0 (wrap64 (1 + (Go.bits .and .i64 a1 1023))) bt102.1 bt102.2.1 bt102.2.2.1 bt102.2.2.2.1 bt102.2.2.2.2.1 bt102.1 bt102.2.1 (wrap64 (-(wrap64 (1 + (Go.bits .and .i64 a1 1023))))) bt102.2.2.2.1 bt102.2.2.2.2.1) else (if (Int.tmod (IntKind.u64.wrap (a0)) 8) = 3 then (descantlaw5_DecoderForms.j0 k a0 (wrap64 (1 + (Go.bits .and .i64 a1 1023))) bt102.1 bt102.2.1 bt102.2.2.1 bt102.2.2.2.1 bt102.2.2.2.2.1 bt102.1 (wrap64 (bt102.2.2.1 - (wrap64 (1 + (Go.bits .and .i64 a1 1023))))) bt102.2.2.1 bt102.2.2.2.1 bt102.2.2.2.2.1) else (if (Int.tmod (IntKind.u64.wrap (a0)) 8) = 4 then (descantlaw5_DecoderForms.j0 k a0 (wrap64 (1 + (Go.bits .and .i64 a1 1023))) bt102.1 bt102.2.1 bt102.2.2.1 bt102.2.2.2.1 bt102.2.2.2.2.1 bt102.1 bt102.2.1 bt102.2.2.1 bt102.2.2.2.1 (wrap64 (4 - (wrap64 (1 + (Go.bits .and .i64 a1 1023)))))) else (if (Int.tmod (IntKind.u64.wrap (a0)) 8) = 5 then (descantlaw5_DecoderForms.j0 k a0 (wrap64 (1 + (Go.bits .and .i64 a1 1023))) bt102.1 bt102.2.1 bt102.2.2.1 bt102.2.2.2.1 bt102.2.2.2.2.1 bt102.1 bt102.2.1 bt102.2.2.1 bt102.2.2.2.1 (wrap64 (65544 + (wrap64 (1 + (Go.bits .and .i64 a1 1023)))))) else (if (Int.tmod (IntKind.u64.wrap (a0)) 8) = 6 then (if 0 ≤ (wrap64 (65536 + (wrap64 (1 + (Go.bits .and .i64 a1 1023))))) then (if (wrap64 (65536 + (wrap64 (1 + (Go.bits .and .i64 a1 1023)))) : Int).toNat ≤ 281474976710656 then (descantlaw5_DecoderForms.j0 k a0 (wrap64 (1 + (Go.bits .and .i64 a1 1023))) bt102.1 bt102.2.1 bt102.2.2.1 bt102.2.2.2.1 bt102.2.2.2.2.1 bt102.1 bt102.2.1 bt102.2.2.1 (strOfNums (List.replicate (wrap64 (65536 + (wrap64 (1 + (Go.bits .and .i64 a1 1023)))) : Int).toNat 0)) bt102.2.2.2.2.1) else (none)) else (none)) else (descantlaw5_DecoderForms.j0 k a0 (wrap64 (1 + (Go.bits .and .i64 a1 1023))) bt102.1 bt102.2.1 bt102.2.2.1 bt102.2.2.2.1 bt102.2.2.2.2.1 (wrap64 (bt102.2.1 - 5)) bt102.2.1 bt102.2.1 bt102.2.2.2.1 bt102.2.2.2.2.1))))))))) else (some false))) = some true := h
  clear h
  replace H := Option.bind_eq_some_iff.mp H
  obtain ⟨t101, A30, H⟩ := H
  replace H : (if t101 = true then ((descantref1_NewDecoder.f (⟨#[97, 98, 99, 100, 101, 102]⟩ : ByteArray)).bind fun bt102 => (if (Int.tmod (IntKind.u64.wrap (a0)) 8) = 0 then (descantlaw5_DecoderForms.j0 k a0 (wrap64 (1 + (Go.bits .and .i64 a1 1023))) bt102.1 bt102.2.1 bt102.2.2.1 bt102.2.2.2.1 bt102.2.2.2.2.1 (wrap64 (-(wrap64 (1 + (Go.bits .and .i64 a1 1023))))) bt102.2.1 bt102.2.2.1 bt102.2.2.2.1 bt102.2.2.2.2.1) else (if (Int.tmod (IntKind.u64.wrap (a0)) 8) = 1 then (descantlaw5_DecoderForms.j0 k a0 (wrap64 (1 + (Go.bits .and .i64 a1 1023))) bt102.1 bt102.2.1 bt102.2.2.1 bt102.2.2.2.1 bt102.2.2.2.2.1 bt102.1 (wrap64 (4294967295 + (wrap64 (1 + (Go.bits .and .i64 a1 1023))))) bt102.2.2.1 bt102.2.2.2.1 bt102.2.2.2.2.1) else (if (Int.tmod (IntKind.u64.wrap (a0)) 8) = 2 then (descantlaw5_DecoderForms.j0 k a0 (wrap64 (1 + (Go.bits .and .i64 a1 1023))) bt102.1 bt102.2.1 bt102.2.2.1 bt102.2.2.2.1 bt102.2.2.2.2.1 bt102.1 bt102.2.1 (wrap64 (-(wrap64 (1 + (Go.bits .and .i64 a1 1023))))) bt102.2.2.2.1 bt102.2.2.2.2.1) else (if (Int.tmod (IntKind.u64.wrap (a0)) 8) = 3 then (descantlaw5_DecoderForms.j0 k a0 (wrap64 (1 + (Go.bits .and .i64 a1 1023))) bt102.1 bt102.2.1 bt102.2.2.1 bt102.2.2.2.1 bt102.2.2.2.2.1 bt102.1 (wrap64 (bt102.2.2.1 - (wrap64 (1 + (Go.bits .and .i64 a1 1023))))) bt102.2.2.1 bt102.2.2.2.1 bt102.2.2.2.2.1) else (if (Int.tmod (IntKind.u64.wrap (a0)) 8) = 4 then (descantlaw5_DecoderForms.j0 k a0 (wrap64 (1 + (Go.bits .and .i64 a1 1023))) bt102.1 bt102.2.1 bt102.2.2.1 bt102.2.2.2.1 bt102.2.2.2.2.1 bt102.1 bt102.2.1 bt102.2.2.1 bt102.2.2.2.1 (wrap64 (4 - (wrap64 (1 + (Go.bits .and .i64 a1 1023)))))) else (if (Int.tmod (IntKind.u64.wrap (a0)) 8) = 5 then (descantlaw5_DecoderForms.j0 k a0 (wrap64 (1 + (Go.bits .and .i64 a1 1023))) bt102.1 bt102.2.1 bt102.2.2.1 bt102.2.2.2.1 bt102.2.2.2.2.1 bt102.1 bt102.2.1 bt102.2.2.1 bt102.2.2.2.1 (wrap64 (65544 + (wrap64 (1 + (Go.bits .and .i64 a1 1023)))))) else (if (Int.tmod (IntKind.u64.wrap (a0)) 8) = 6 then (if 0 ≤ (wrap64 (65536 + (wrap64 (1 + (Go.bits .and .i64 a1 1023))))) then (if (wrap64 (65536 + (wrap64 (1 + (Go.bits .and .i64 a1 1023)))) : Int).toNat ≤ 281474976710656 then (descantlaw5_DecoderForms.j0 k a0 (wrap64 (1 + (Go.bits .and .i64 a1 1023))) bt102.1 bt102.2.1 bt102.2.2.1 bt102.2.2.2.1 bt102.2.2.2.2.1 bt102.1 bt102.2.1 bt102.2.2.1 (strOfNums (List.replicate (wrap64 (65536 + (wrap64 (1 + (Go.bits .and .i64 a1 1023)))) : Int).toNat 0)) bt102.2.2.2.2.1) else (none)) else (none)) else (descantlaw5_DecoderForms.j0 k a0 (wrap64 (1 + (Go.bits .and .i64 a1 1023))) bt102.1 bt102.2.1 bt102.2.2.1 bt102.2.2.2.1 bt102.2.2.2.2.1 (wrap64 (bt102.2.1 - 5)) bt102.2.1 bt102.2.1 bt102.2.2.2.1 bt102.2.2.2.2.1))))))))) else (some false)) = some true := H
  have A3 := Aside0.mk A30
  clear A30
  by_cases c4 : t101 = true
  · subst c4
    have H1 : ((descantref1_NewDecoder.f (⟨#[97, 98, 99, 100, 101, 102]⟩ : ByteArray)).bind fun bt102 => (if (Int.tmod (IntKind.u64.wrap (a0)) 8) = 0 then (descantlaw5_DecoderForms.j0 k a0 (wrap64 (1 + (Go.bits .and .i64 a1 1023))) bt102.1 bt102.2.1 bt102.2.2.1 bt102.2.2.2.1 bt102.2.2.2.2.1 (wrap64 (-(wrap64 (1 + (Go.bits .and .i64 a1 1023))))) bt102.2.1 bt102.2.2.1 bt102.2.2.2.1 bt102.2.2.2.2.1) else (if (Int.tmod (IntKind.u64.wrap (a0)) 8) = 1 then (descantlaw5_DecoderForms.j0 k a0 (wrap64 (1 + (Go.bits .and .i64 a1 1023))) bt102.1 bt102.2.1 bt102.2.2.1 bt102.2.2.2.1 bt102.2.2.2.2.1 bt102.1 (wrap64 (4294967295 + (wrap64 (1 + (Go.bits .and .i64 a1 1023))))) bt102.2.2.1 bt102.2.2.2.1 bt102.2.2.2.2.1) else (if (Int.tmod (IntKind.u64.wrap (a0)) 8) = 2 then (descantlaw5_DecoderForms.j0 k a0 (wrap64 (1 + (Go.bits .and .i64 a1 1023))) bt102.1 bt102.2.1 bt102.2.2.1 bt102.2.2.2.1 bt102.2.2.2.2.1 bt102.1 bt102.2.1 (wrap64 (-(wrap64 (1 + (Go.bits .and .i64 a1 1023))))) bt102.2.2.2.1 bt102.2.2.2.2.1) else (if (Int.tmod (IntKind.u64.wrap (a0)) 8) = 3 then (descantlaw5_DecoderForms.j0 k a0 (wrap64 (1 + (Go.bits .and .i64 a1 1023))) bt102.1 bt102.2.1 bt102.2.2.1 bt102.2.2.2.1 bt102.2.2.2.2.1 bt102.1 (wrap64 (bt102.2.2.1 - (wrap64 (1 + (Go.bits .and .i64 a1 1023))))) bt102.2.2.1 bt102.2.2.2.1 bt102.2.2.2.2.1) else (if (Int.tmod (IntKind.u64.wrap (a0)) 8) = 4 then (descantlaw5_DecoderForms.j0 k a0 (wrap64 (1 + (Go.bits .and .i64 a1 1023))) bt102.1 bt102.2.1 bt102.2.2.1 bt102.2.2.2.1 bt102.2.2.2.2.1 bt102.1 bt102.2.1 bt102.2.2.1 bt102.2.2.2.1 (wrap64 (4 - (wrap64 (1 + (Go.bits .and .i64 a1 1023)))))) else (if (Int.tmod (IntKind.u64.wrap (a0)) 8) = 5 then (descantlaw5_DecoderForms.j0 k a0 (wrap64 (1 + (Go.bits .and .i64 a1 1023))) bt102.1 bt102.2.1 bt102.2.2.1 bt102.2.2.2.1 bt102.2.2.2.2.1 bt102.1 bt102.2.1 bt102.2.2.1 bt102.2.2.2.1 (wrap64 (65544 + (wrap64 (1 + (Go.bits .and .i64 a1 1023)))))) else (if (Int.tmod (IntKind.u64.wrap (a0)) 8) = 6 then (if 0 ≤ (wrap64 (65536 + (wrap64 (1 + (Go.bits .and .i64 a1 1023))))) then (if (wrap64 (65536 + (wrap64 (1 + (Go.bits .and .i64 a1 1023)))) : Int).toNat ≤ 281474976710656 then (descantlaw5_DecoderForms.j0 k a0 (wrap64 (1 + (Go.bits .and .i64 a1 1023))) bt102.1 bt102.2.1 bt102.2.2.1 bt102.2.2.2.1 bt102.2.2.2.2.1 bt102.1 bt102.2.1 bt102.2.2.1 (strOfNums (List.replicate (wrap64 (65536 + (wrap64 (1 + (Go.bits .and .i64 a1 1023)))) : Int).toNat 0)) bt102.2.2.2.2.1) else (none)) else (none)) else (descantlaw5_DecoderForms.j0 k a0 (wrap64 (1 + (Go.bits .and .i64 a1 1023))) bt102.1 bt102.2.1 bt102.2.2.1 bt102.2.2.2.1 bt102.2.2.2.2.1 (wrap64 (bt102.2.1 - 5)) bt102.2.1 bt102.2.1 bt102.2.2.2.1 bt102.2.2.2.2.1))))))))) = some true := by rw [if_pos rfl] at H; exact H
    clear H
    have H := H1
    clear H1
    replace H := Option.bind_eq_some_iff.mp H
    obtain ⟨⟨t102, t103, t104, t105, t106, t107⟩, A50, H⟩ := H
    replace H : (if (Int.tmod (IntKind.u64.wrap (a0)) 8) = 0 then (descantlaw5_DecoderForms.j0 k a0 (wrap64 (1 + (Go.bits .and .i64 a1 1023))) t102 t103 t104 t105 t106 (wrap64 (-(wrap64 (1 + (Go.bits .and .i64 a1 1023))))) t103 t104 t105 t106) else (if (Int.tmod (IntKind.u64.wrap (a0)) 8) = 1 then (descantlaw5_DecoderForms.j0 k a0 (wrap64 (1 + (Go.bits .and .i64 a1 1023))) t102 t103 t104 t105 t106 t102 (wrap64 (4294967295 + (wrap64 (1 + (Go.bits .and .i64 a1 1023))))) t104 t105 t106) else (if (Int.tmod (IntKind.u64.wrap (a0)) 8) = 2 then (descantlaw5_DecoderForms.j0 k a0 (wrap64 (1 + (Go.bits .and .i64 a1 1023))) t102 t103 t104 t105 t106 t102 t103 (wrap64 (-(wrap64 (1 + (Go.bits .and .i64 a1 1023))))) t105 t106) else (if (Int.tmod (IntKind.u64.wrap (a0)) 8) = 3 then (descantlaw5_DecoderForms.j0 k a0 (wrap64 (1 + (Go.bits .and .i64 a1 1023))) t102 t103 t104 t105 t106 t102 (wrap64 (t104 - (wrap64 (1 + (Go.bits .and .i64 a1 1023))))) t104 t105 t106) else (if (Int.tmod (IntKind.u64.wrap (a0)) 8) = 4 then (descantlaw5_DecoderForms.j0 k a0 (wrap64 (1 + (Go.bits .and .i64 a1 1023))) t102 t103 t104 t105 t106 t102 t103 t104 t105 (wrap64 (4 - (wrap64 (1 + (Go.bits .and .i64 a1 1023)))))) else (if (Int.tmod (IntKind.u64.wrap (a0)) 8) = 5 then (descantlaw5_DecoderForms.j0 k a0 (wrap64 (1 + (Go.bits .and .i64 a1 1023))) t102 t103 t104 t105 t106 t102 t103 t104 t105 (wrap64 (65544 + (wrap64 (1 + (Go.bits .and .i64 a1 1023)))))) else (if (Int.tmod (IntKind.u64.wrap (a0)) 8) = 6 then (if 0 ≤ (wrap64 (65536 + (wrap64 (1 + (Go.bits .and .i64 a1 1023))))) then (if (wrap64 (65536 + (wrap64 (1 + (Go.bits .and .i64 a1 1023)))) : Int).toNat ≤ 281474976710656 then (descantlaw5_DecoderForms.j0 k a0 (wrap64 (1 + (Go.bits .and .i64 a1 1023))) t102 t103 t104 t105 t106 t102 t103 t104 (strOfNums (List.replicate (wrap64 (65536 + (wrap64 (1 + (Go.bits .and .i64 a1 1023)))) : Int).toNat 0)) t106) else (none)) else (none)) else (descantlaw5_DecoderForms.j0 k a0 (wrap64 (1 + (Go.bits .and .i64 a1 1023))) t102 t103 t104 t105 t106 (wrap64 (t103 - 5)) t103 t103 t105 t106)))))))) = some true := H
    have A5 := Aside0.mk A50
    clear A50
    have HC6 := Aside0.mk H
    clear H
    go_enter Try.func5, Try.ntmps5
    go_upto_block 0 with (first | ((with_reducible refine gate_callee (f := 15) rfl ?_); refine goesL_ (some 17) rfl rfl Try.func15 (by kernel_rfl) rfl #[] rfl (by (try simp only [List.map_toArray, List.map_cons, List.map_nil]); first | done | rfl | (simp only [List.length_drop, List.length_take]; rfl)) ?_; (with_reducible refine (descantlaw5_awake.calls  true _ A3.out).mono ?_); rintro e w7 ⟨rfl, hb⟩; refine ⟨_, rfl, ?_⟩; have n0_ := Aside0.mk (below_step (by repeat (first | (with_reducible first | exact HB.out | apply below_alloc | apply pw_below_drewN | apply below_drew1) | exact HB.out)) hb); clear HB; have HB := n0_; clear n0_; (try clear hb); (try clear hb2); (try clear hk); (try clear hi)) | ((with_reducible refine gate_callee (f := 11) rfl ?_); refine goesL_ (some 23) rfl rfl Try.func11 (by kernel_rfl) rfl #[.string (⟨#[97, 98, 99, 100, 101, 102]⟩ : ByteArray)] rfl (by (try simp only [List.map_toArray, List.map_cons, List.map_nil]); first | done | rfl | (simp only [List.length_drop, List.length_take]; rfl)) ?_; (with_reducible refine (descantref1_NewDecoder.calls (⟨#[97, 98, 99, 100, 101, 102]⟩ : ByteArray) t102 t103 t104 t105 t106 t107 _ A5.out).mono ?_); rintro e w8 ⟨rfl, hb⟩; refine ⟨_, rfl, ?_⟩; have n0_ := Aside0.mk (below_step (by repeat (first | (with_reducible first | exact HB.out | apply below_alloc | apply pw_below_drewN | apply below_drew1) | exact HB.out)) hb); clear HB; have HB := n0_; clear n0_; (try clear hb); (try clear hb2); (try clear hk); (try clear hi)) | ((with_reducible refine gate_dst (N := 6) rfl ?_); refine box_event ?hg (N := 6) ?hd (cs := #[.int .i64 0, .int .i64 0, .int .i64 0, .string (⟨#[]⟩ : ByteArray), .int .i64 0]) (t := 23) ?hr ?_; (case hd => rfl); (case hg => rfl); (case hr => first | (go_simp; done) | (go_simp; rfl)); intro gb108 hg w9 hbox hb; have n0_ := Aside0.mk (below_step (by repeat (first | (with_reducible first | exact HB.out | apply below_alloc | apply pw_below_drewN | apply below_drew1) | exact HB.out)) hb); have n1_ := Aside0.mk (hbox); have n2_ := Aside0.mk ((by rw [hg]; exact (below_size (by repeat (first | (with_reducible first | exact HB.out | apply below_alloc | apply pw_below_drewN | apply below_drew1) | exact HB.out))) : w.heap.size ≤ gb108)); have n3_ := Aside0.mk ((by rw [hg]; exact (below_size (by repeat (first | (with_reducible first | exact HB.out | apply below_alloc | apply pw_below_drewN | apply below_drew1) | exact HB.out))) : w.heap.size ≤ gb108)); clear HB; have HB := n0_; have BK108 := n1_; have GW108 := n2_; have GE108 := n3_; clear n0_ n1_ n2_ n3_; clear hb hbox hg; have hcz10_0 : w9.cell? ⟨gb108, 0, none⟩ = some (.int .i64 0) := (blk_cell BK108.out 0).trans rfl; have hcz10_1 : w9.cell? ⟨gb108, 1, none⟩ = some (.int .i64 0) := (blk_cell BK108.out 1).trans rfl; have hcz10_2 : w9.cell? ⟨gb108, 2, none⟩ = some (.int .i64 0) := (blk_cell BK108.out 2).trans rfl; have hcz10_3 : w9.cell? ⟨gb108, 3, none⟩ = some (.string (⟨#[]⟩ : ByteArray)) := (blk_cell BK108.out 3).trans rfl; have hcz10_4 : w9.cell? ⟨gb108, 4, none⟩ = some (.int .i64 0) := (blk_cell BK108.out 4).trans rfl; have hfz10_0 := blk_frozen BK108.out 0; have hfz10_1 := blk_frozen BK108.out 1; have hfz10_2 := blk_frozen BK108.out 2; have hfz10_3 := blk_frozen BK108.out 3; have hfz10_4 := blk_frozen BK108.out 4) | ((with_reducible refine gate_dst (N := 8) rfl ?_); refine box_event ?hg (N := 8) ?hd (cs := #[.int .i64 0, .int .i64 0, .int .i64 0, .string (⟨#[]⟩ : ByteArray), .int .i64 0]) (t := 23) ?hr ?_; (case hd => rfl); (case hg => rfl); (case hr => first | (go_simp; done) | (go_simp; rfl)); intro gb109 hg w11 hbox hb; have n0_ := Aside0.mk (blk_below (g := gb108) (o := .cells #[.int .i64 t102, .int .i64 t103, .int .i64 t104, .string t105, .int .i64 t106] 23 (0, 0)) (by (with_reducible repeat (first | refine blk_drewN ?_ _ | refine blk_drew ?_ | refine blk_alloc ?_ _)); refine blk_put (cs := #[.int .i64 t102, .int .i64 t103, .int .i64 t104, .string t105, .int .i64 0]) ?_ 4 _ rfl; (with_reducible repeat (first | refine blk_drewN ?_ _ | refine blk_drew ?_ | refine blk_alloc ?_ _)); refine blk_put (cs := #[.int .i64 t102, .int .i64 t103, .int .i64 t104, .string (⟨#[]⟩ : ByteArray), .int .i64 0]) ?_ 3 _ rfl; (with_reducible repeat (first | refine blk_drewN ?_ _ | refine blk_drew ?_ | refine blk_alloc ?_ _)); refine blk_put (cs := #[.int .i64 t102, .int .i64 t103, .int .i64 0, .string (⟨#[]⟩ : ByteArray), .int .i64 0]) ?_ 2 _ rfl; (with_reducible repeat (first | refine blk_drewN ?_ _ | refine blk_drew ?_ | refine blk_alloc ?_ _)); refine blk_put (cs := #[.int .i64 t102, .int .i64 0, .int .i64 0, .string (⟨#[]⟩ : ByteArray), .int .i64 0]) ?_ 1 _ rfl; (with_reducible repeat (first | refine blk_drewN ?_ _ | refine blk_drew ?_ | refine blk_alloc ?_ _)); refine blk_put (cs := #[.int .i64 0, .int .i64 0, .int .i64 0, .string (⟨#[]⟩ : ByteArray), .int .i64 0]) ?_ 0 _ rfl; (with_reducible repeat (first | refine blk_drewN ?_ _ | refine blk_drew ?_ | refine blk_alloc ?_ _)); exact BK108.out) hb); have n1_ := Aside0.mk (below_step (by repeat (first | (with_reducible first | exact HB.out | apply below_alloc | apply pw_below_drewN | apply below_drew1 | refine below_set ?_ GE108.out) | exact HB.out)) hb); have n2_ := Aside0.mk (hbox); have n3_ := Aside0.mk ((by rw [hg]; exact (below_size (by repeat (first | (with_reducible first | exact HB.out | apply below_alloc | apply pw_below_drewN | apply below_drew1 | refine below_set ?_ GE108.out) | exact HB.out))) : w.heap.size ≤ gb109)); have n4_ := Aside0.mk ((by rw [hg]; exact (below_size (by repeat (first | (with_reducible first | exact HB.out | apply below_alloc | apply pw_below_drewN | apply below_drew1 | refine below_set ?_ GE108.out) | exact HB.out))) : w.heap.size ≤ gb109)); have n5_ := Aside0.mk ((by rw [hg]; exact Nat.ne_of_lt (blk_lt (g := gb108) (o := .cells #[.int .i64 t102, .int .i64 t103, .int .i64 t104, .string t105, .int .i64 t106] 23 (0, 0)) (by (with_reducible repeat (first | refine blk_drewN ?_ _ | refine blk_drew ?_ | refine blk_alloc ?_ _)); refine blk_put (cs := #[.int .i64 t102, .int .i64 t103, .int .i64 t104, .string t105, .int .i64 0]) ?_ 4 _ rfl; (with_reducible repeat (first | refine blk_drewN ?_ _ | refine blk_drew ?_ | refine blk_alloc ?_ _)); refine blk_put (cs := #[.int .i64 t102, .int .i64 t103, .int .i64 t104, .string (⟨#[]⟩ : ByteArray), .int .i64 0]) ?_ 3 _ rfl; (with_reducible repeat (first | refine blk_drewN ?_ _ | refine blk_drew ?_ | refine blk_alloc ?_ _)); refine blk_put (cs := #[.int .i64 t102, .int .i64 t103, .int .i64 0, .string (⟨#[]⟩ : ByteArray), .int .i64 0]) ?_ 2 _ rfl; (with_reducible repeat (first | refine blk_drewN ?_ _ | refine blk_drew ?_ | refine blk_alloc ?_ _)); refine blk_put (cs := #[.int .i64 t102, .int .i64 0, .int .i64 0, .string (⟨#[]⟩ : ByteArray), .int .i64 0]) ?_ 1 _ rfl; (with_reducible repeat (first | refine blk_drewN ?_ _ | refine blk_drew ?_ | refine blk_alloc ?_ _)); refine blk_put (cs := #[.int .i64 0, .int .i64 0, .int .i64 0, .string (⟨#[]⟩ : ByteArray), .int .i64 0]) ?_ 0 _ rfl; (with_reducible repeat (first | refine blk_drewN ?_ _ | refine blk_drew ?_ | refine blk_alloc ?_ _)); exact BK108.out)) : gb108 ≠ gb109)); have n6_ := Aside0.mk ((by rw [hg]; exact Nat.ne_of_gt (blk_lt (g := gb108) (o := .cells #[.int .i64 t102, .int .i64 t103, .int .i64 t104, .string t105, .int .i64 t106] 23 (0, 0)) (by (with_reducible repeat (first | refine blk_drewN ?_ _ | refine blk_drew ?_ | refine blk_alloc ?_ _)); refine blk_put (cs := #[.int .i64 t102, .int .i64 t103, .int .i64 t104, .string t105, .int .i64 0]) ?_ 4 _ rfl; (with_reducible repeat (first | refine blk_drewN ?_ _ | refine blk_drew ?_ | refine blk_alloc ?_ _)); refine blk_put (cs := #[.int .i64 t102, .int .i64 t103, .int .i64 t104, .string (⟨#[]⟩ : ByteArray), .int .i64 0]) ?_ 3 _ rfl; (with_reducible repeat (first | refine blk_drewN ?_ _ | refine blk_drew ?_ | refine blk_alloc ?_ _)); refine blk_put (cs := #[.int .i64 t102, .int .i64 t103, .int .i64 0, .string (⟨#[]⟩ : ByteArray), .int .i64 0]) ?_ 2 _ rfl; (with_reducible repeat (first | refine blk_drewN ?_ _ | refine blk_drew ?_ | refine blk_alloc ?_ _)); refine blk_put (cs := #[.int .i64 t102, .int .i64 0, .int .i64 0, .string (⟨#[]⟩ : ByteArray), .int .i64 0]) ?_ 1 _ rfl; (with_reducible repeat (first | refine blk_drewN ?_ _ | refine blk_drew ?_ | refine blk_alloc ?_ _)); refine blk_put (cs := #[.int .i64 0, .int .i64 0, .int .i64 0, .string (⟨#[]⟩ : ByteArray), .int .i64 0]) ?_ 0 _ rfl; (with_reducible repeat (first | refine blk_drewN ?_ _ | refine blk_drew ?_ | refine blk_alloc ?_ _)); exact BK108.out)) : gb109 ≠ gb108)); clear BK108; clear HB; have BK108 := n0_; have HB := n1_; have BK109 := n2_; have GW109 := n3_; have GE109 := n4_; have NB108_109 := n5_; have NB109_108 := n6_; clear n0_ n1_ n2_ n3_ n4_ n5_ n6_; clear hb hbox hg; have hnb12 := NB109_108.out; have hnc12 := NB108_109.out; have hcz13_0 : w11.cell? ⟨gb109, 0, none⟩ = some (.int .i64 0) := (blk_cell BK109.out 0).trans rfl; have hcz13_1 : w11.cell? ⟨gb109, 1, none⟩ = some (.int .i64 0) := (blk_cell BK109.out 1).trans rfl; have hcz13_2 : w11.cell? ⟨gb109, 2, none⟩ = some (.int .i64 0) := (blk_cell BK109.out 2).trans rfl; have hcz13_3 : w11.cell? ⟨gb109, 3, none⟩ = some (.string (⟨#[]⟩ : ByteArray)) := (blk_cell BK109.out 3).trans rfl; have hcz13_4 : w11.cell? ⟨gb109, 4, none⟩ = some (.int .i64 0) := (blk_cell BK109.out 4).trans rfl; have hfz13_0 := blk_frozen BK109.out 0; have hfz13_1 := blk_frozen BK109.out 1; have hfz13_2 := blk_frozen BK109.out 2; have hfz13_3 := blk_frozen BK109.out 3; have hfz13_4 := blk_frozen BK109.out 4))
    (try simp only [Act.put, List.setIfInBounds_toArray, List.set_cons_zero, List.set_cons_succ])
    go_cut [] (fun wc => ∃ (kq : Nat) (x110000_5 : Int) (x110001_5 : Int) (x110002_5 : Int) (x110003_5 : ByteArray) (x110004_5 : Int), Aside0 (descantlaw5_DecoderForms.j0 kq a0 (wrap64 (1 + (Go.bits .and .i64 a1 1023))) t102 t103 t104 t105 t106 x110000_5 x110001_5 x110002_5 x110003_5 x110004_5 = some true) ∧ Aside0 (kq ≤ k) ∧ Aside0 (wc.heap[gb108]? = some (.cells #[.int .i64 t102, .int .i64 t103, .int .i64 t104, .string t105, .int .i64 t106] 23 (0, 0))) ∧ Aside0 (wc.heap[gb109]? = some (.cells #[.int .i64 x110000_5, .int .i64 x110001_5, .int .i64 x110002_5, .string x110003_5, .int .i64 x110004_5] 23 (0, 0))) ∧ Aside0 (Below w.heap.size w wc))
    case first =>
      have H := HC6.out
      clear HC6
      by_cases c14 : (Int.tmod (IntKind.u64.wrap (a0)) 8) = 0
      · rw [if_pos c14] at H
        have c14b0 : ((Int.tmod (IntKind.u64.wrap (a0)) 8) == 0) = true := beq_iff_eq.mpr c14
        have c14b1 : ((Int.tmod (IntKind.u64.wrap (a0)) 8) != 0) = false := bne_eq_false_iff_eq.mpr c14
        clear c14
        (first | rw [c14b0] | (simp only [i64_w, i32_w]; rw [c14b0]) | skip)
        have H' := Aside0.mk H
        clear H
        have hnb15 := NB109_108.out
        have hnc15 := NB108_109.out
        have hcz16_0 : w11.cell? ⟨gb109, 0, none⟩ = some (.int .i64 0) := (blk_cell BK109.out 0).trans rfl
        have hcz16_1 : w11.cell? ⟨gb109, 1, none⟩ = some (.int .i64 0) := (blk_cell BK109.out 1).trans rfl
        have hcz16_2 : w11.cell? ⟨gb109, 2, none⟩ = some (.int .i64 0) := (blk_cell BK109.out 2).trans rfl
        have hcz16_3 : w11.cell? ⟨gb109, 3, none⟩ = some (.string (⟨#[]⟩ : ByteArray)) := (blk_cell BK109.out 3).trans rfl
        have hcz16_4 : w11.cell? ⟨gb109, 4, none⟩ = some (.int .i64 0) := (blk_cell BK109.out 4).trans rfl
        have hfz16_0 := blk_frozen BK109.out 0
        have hfz16_1 := blk_frozen BK109.out 1
        have hfz16_2 := blk_frozen BK109.out 2
        have hfz16_3 := blk_frozen BK109.out 3
        have hfz16_4 := blk_frozen BK109.out 4
        go_wp2
        go_meet
        case rel => exact ⟨_, (wrap64 (-(wrap64 (1 + (Go.bits .and .i64 a1 1023))))), (t103), (t104), (t105), (t106), H', ⟨by first | omega | exact Nat.le_refl _⟩, ⟨by (with_reducible repeat (first | refine blk_drewN ?_ _ | refine blk_drew ?_ | refine blk_alloc ?_ _)); refine blk_far ?_ NB108_109.out _; (with_reducible repeat (first | refine blk_drewN ?_ _ | refine blk_drew ?_ | refine blk_alloc ?_ _)); refine blk_far ?_ NB108_109.out _; (with_reducible repeat (first | refine blk_drewN ?_ _ | refine blk_drew ?_ | refine blk_alloc ?_ _)); refine blk_far ?_ NB108_109.out _; (with_reducible repeat (first | refine blk_drewN ?_ _ | refine blk_drew ?_ | refine blk_alloc ?_ _)); refine blk_far ?_ NB108_109.out _; (with_reducible repeat (first | refine blk_drewN ?_ _ | refine blk_drew ?_ | refine blk_alloc ?_ _)); refine blk_far ?_ NB108_109.out _; (with_reducible repeat (first | refine blk_drewN ?_ _ | refine blk_drew ?_ | refine blk_alloc ?_ _)); refine blk_far ?_ NB108_109.out _; (with_reducible repeat (first | refine blk_drewN ?_ _ | refine blk_drew ?_ | refine blk_alloc ?_ _)); exact BK108.out⟩, ⟨by (with_reducible repeat (first | refine blk_drewN ?_ _ | refine blk_drew ?_ | refine blk_alloc ?_ _)); refine blk_put (cs := #[.int .i64 t102, .int .i64 t103, .int .i64 t104, .string t105, .int .i64 t106]) ?_ 0 _ rfl; (with_reducible repeat (first | refine blk_drewN ?_ _ | refine blk_drew ?_ | refine blk_alloc ?_ _)); refine blk_put (cs := #[.int .i64 t102, .int .i64 t103, .int .i64 t104, .string t105, .int .i64 0]) ?_ 4 _ rfl; (with_reducible repeat (first | refine blk_drewN ?_ _ | refine blk_drew ?_ | refine blk_alloc ?_ _)); refine blk_put (cs := #[.int .i64 t102, .int .i64 t103, .int .i64 t104, .string (⟨#[]⟩ : ByteArray), .int .i64 0]) ?_ 3 _ rfl; (with_reducible repeat (first | refine blk_drewN ?_ _ | refine blk_drew ?_ | refine blk_alloc ?_ _)); refine blk_put (cs := #[.int .i64 t102, .int .i64 t103, .int .i64 0, .string (⟨#[]⟩ : ByteArray), .int .i64 0]) ?_ 2 _ rfl; (with_reducible repeat (first | refine blk_drewN ?_ _ | refine blk_drew ?_ | refine blk_alloc ?_ _)); refine blk_put (cs := #[.int .i64 t102, .int .i64 0, .int .i64 0, .string (⟨#[]⟩ : ByteArray), .int .i64 0]) ?_ 1 _ rfl; (with_reducible repeat (first | refine blk_drewN ?_ _ | refine blk_drew ?_ | refine blk_alloc ?_ _)); refine blk_put (cs := #[.int .i64 0, .int .i64 0, .int .i64 0, .string (⟨#[]⟩ : ByteArray), .int .i64 0]) ?_ 0 _ rfl; (with_reducible repeat (first | refine blk_drewN ?_ _ | refine blk_drew ?_ | refine blk_alloc ?_ _)); exact BK109.out⟩, ⟨by repeat (first | (with_reducible first | exact HB.out | apply below_alloc | apply pw_below_drewN | apply below_drew1 | refine below_set ?_ GE108.out | refine below_set ?_ GE109.out) | exact HB.out)⟩⟩
      · rw [if_neg c14] at H
        have c14b0 : ((Int.tmod (IntKind.u64.wrap (a0)) 8) == 0) = false := beq_eq_false_iff_ne.mpr c14
        have c14b1 : ((Int.tmod (IntKind.u64.wrap (a0)) 8) != 0) = true := bne_iff_ne.mpr c14
        (first | rw [c14b0] | (simp only [i64_w, i32_w]; rw [c14b0]) | skip)
        by_cases c17 : (Int.tmod (IntKind.u64.wrap (a0)) 8) = 1
        · rw [if_pos c17] at H
          have c17b0 : ((Int.tmod (IntKind.u64.wrap (a0)) 8) == 1) = true := beq_iff_eq.mpr c17
          have c17b1 : ((Int.tmod (IntKind.u64.wrap (a0)) 8) != 1) = false := bne_eq_false_iff_eq.mpr c17
          clear c17
          have H' := Aside0.mk H
          clear H
          have hnb18 := NB109_108.out
          have hnc18 := NB108_109.out
          have hcz19_0 : w11.cell? ⟨gb109, 0, none⟩ = some (.int .i64 0) := (blk_cell BK109.out 0).trans rfl
          have hcz19_1 : w11.cell? ⟨gb109, 1, none⟩ = some (.int .i64 0) := (blk_cell BK109.out 1).trans rfl
          have hcz19_2 : w11.cell? ⟨gb109, 2, none⟩ = some (.int .i64 0) := (blk_cell BK109.out 2).trans rfl
          have hcz19_3 : w11.cell? ⟨gb109, 3, none⟩ = some (.string (⟨#[]⟩ : ByteArray)) := (blk_cell BK109.out 3).trans rfl
          have hcz19_4 : w11.cell? ⟨gb109, 4, none⟩ = some (.int .i64 0) := (blk_cell BK109.out 4).trans rfl
          have hfz19_0 := blk_frozen BK109.out 0
          have hfz19_1 := blk_frozen BK109.out 1
          have hfz19_2 := blk_frozen BK109.out 2
          have hfz19_3 := blk_frozen BK109.out 3
          have hfz19_4 := blk_frozen BK109.out 4
          go_wp2
          go_meet
          case rel => exact ⟨_, (t102), (wrap64 (4294967295 + (wrap64 (1 + (Go.bits .and .i64 a1 1023))))), (t104), (t105), (t106), H', ⟨by first | omega | exact Nat.le_refl _⟩, ⟨by (with_reducible repeat (first | refine blk_drewN ?_ _ | refine blk_drew ?_ | refine blk_alloc ?_ _)); refine blk_far ?_ NB108_109.out _; (with_reducible repeat (first | refine blk_drewN ?_ _ | refine blk_drew ?_ | refine blk_alloc ?_ _)); refine blk_far ?_ NB108_109.out _; (with_reducible repeat (first | refine blk_drewN ?_ _ | refine blk_drew ?_ | refine blk_alloc ?_ _)); refine blk_far ?_ NB108_109.out _; (with_reducible repeat (first | refine blk_drewN ?_ _ | refine blk_drew ?_ | refine blk_alloc ?_ _)); refine blk_far ?_ NB108_109.out _; (with_reducible repeat (first | refine blk_drewN ?_ _ | refine blk_drew ?_ | refine blk_alloc ?_ _)); refine blk_far ?_ NB108_109.out _; (with_reducible repeat (first | refine blk_drewN ?_ _ | refine blk_drew ?_ | refine blk_alloc ?_ _)); refine blk_far ?_ NB108_109.out _; (with_reducible repeat (first | refine blk_drewN ?_ _ | refine blk_drew ?_ | refine blk_alloc ?_ _)); exact BK108.out⟩, ⟨by (with_reducible repeat (first | refine blk_drewN ?_ _ | refine blk_drew ?_ | refine blk_alloc ?_ _)); refine blk_put (cs := #[.int .i64 t102, .int .i64 t103, .int .i64 t104, .string t105, .int .i64 t106]) ?_ 1 _ rfl; (with_reducible repeat (first | refine blk_drewN ?_ _ | refine blk_drew ?_ | refine blk_alloc ?_ _)); refine blk_put (cs := #[.int .i64 t102, .int .i64 t103, .int .i64 t104, .string t105, .int .i64 0]) ?_ 4 _ rfl; (with_reducible repeat (first | refine blk_drewN ?_ _ | refine blk_drew ?_ | refine blk_alloc ?_ _)); refine blk_put (cs := #[.int .i64 t102, .int .i64 t103, .int .i64 t104, .string (⟨#[]⟩ : ByteArray), .int .i64 0]) ?_ 3 _ rfl; (with_reducible repeat (first | refine blk_drewN ?_ _ | refine blk_drew ?_ | refine blk_alloc ?_ _)); refine blk_put (cs := #[.int .i64 t102, .int .i64 t103, .int .i64 0, .string (⟨#[]⟩ : ByteArray), .int .i64 0]) ?_ 2 _ rfl; (with_reducible repeat (first | refine blk_drewN ?_ _ | refine blk_drew ?_ | refine blk_alloc ?_ _)); refine blk_put (cs := #[.int .i64 t102, .int .i64 0, .int .i64 0, .string (⟨#[]⟩ : ByteArray), .int .i64 0]) ?_ 1 _ rfl; (with_reducible repeat (first | refine blk_drewN ?_ _ | refine blk_drew ?_ | refine blk_alloc ?_ _)); refine blk_put (cs := #[.int .i64 0, .int .i64 0, .int .i64 0, .string (⟨#[]⟩ : ByteArray), .int .i64 0]) ?_ 0 _ rfl; (with_reducible repeat (first | refine blk_drewN ?_ _ | refine blk_drew ?_ | refine blk_alloc ?_ _)); exact BK109.out⟩, ⟨by repeat (first | (with_reducible first | exact HB.out | apply below_alloc | apply pw_below_drewN | apply below_drew1 | refine below_set ?_ GE108.out | refine below_set ?_ GE109.out) | exact HB.out)⟩⟩
        · rw [if_neg c17] at H
          have c17b0 : ((Int.tmod (IntKind.u64.wrap (a0)) 8) == 1) = false := beq_eq_false_iff_ne.mpr c17
          have c17b1 : ((Int.tmod (IntKind.u64.wrap (a0)) 8) != 1) = true := bne_iff_ne.mpr c17
          by_cases c20 : (Int.tmod (IntKind.u64.wrap (a0)) 8) = 2
          · rw [if_pos c20] at H
            have c20b0 : ((Int.tmod (IntKind.u64.wrap (a0)) 8) == 2) = true := beq_iff_eq.mpr c20
            have c20b1 : ((Int.tmod (IntKind.u64.wrap (a0)) 8) != 2) = false := bne_eq_false_iff_eq.mpr c20
            clear c20
            have H' := Aside0.mk H
            clear H
            have hnb21 := NB109_108.out
            have hnc21 := NB108_109.out
            have hcz22_0 : w11.cell? ⟨gb109, 0, none⟩ = some (.int .i64 0) := (blk_cell BK109.out 0).trans rfl
            have hcz22_1 : w11.cell? ⟨gb109, 1, none⟩ = some (.int .i64 0) := (blk_cell BK109.out 1).trans rfl
            have hcz22_2 : w11.cell? ⟨gb109, 2, none⟩ = some (.int .i64 0) := (blk_cell BK109.out 2).trans rfl
            have hcz22_3 : w11.cell? ⟨gb109, 3, none⟩ = some (.string (⟨#[]⟩ : ByteArray)) := (blk_cell BK109.out 3).trans rfl
            have hcz22_4 : w11.cell? ⟨gb109, 4, none⟩ = some (.int .i64 0) := (blk_cell BK109.out 4).trans rfl
            have hfz22_0 := blk_frozen BK109.out 0
            have hfz22_1 := blk_frozen BK109.out 1
            have hfz22_2 := blk_frozen BK109.out 2
            have hfz22_3 := blk_frozen BK109.out 3
            have hfz22_4 := blk_frozen BK109.out 4
            go_wp2
            go_meet
            case rel => exact ⟨_, (t102), (t103), (wrap64 (-(wrap64 (1 + (Go.bits .and .i64 a1 1023))))), (t105), (t106), H', ⟨by first | omega | exact Nat.le_refl _⟩, ⟨by (with_reducible repeat (first | refine blk_drewN ?_ _ | refine blk_drew ?_ | refine blk_alloc ?_ _)); refine blk_far ?_ NB108_109.out _; (with_reducible repeat (first | refine blk_drewN ?_ _ | refine blk_drew ?_ | refine blk_alloc ?_ _)); refine blk_far ?_ NB108_109.out _; (with_reducible repeat (first | refine blk_drewN ?_ _ | refine blk_drew ?_ | refine blk_alloc ?_ _)); refine blk_far ?_ NB108_109.out _; (with_reducible repeat (first | refine blk_drewN ?_ _ | refine blk_drew ?_ | refine blk_alloc ?_ _)); refine blk_far ?_ NB108_109.out _; (with_reducible repeat (first | refine blk_drewN ?_ _ | refine blk_drew ?_ | refine blk_alloc ?_ _)); refine blk_far ?_ NB108_109.out _; (with_reducible repeat (first | refine blk_drewN ?_ _ | refine blk_drew ?_ | refine blk_alloc ?_ _)); refine blk_far ?_ NB108_109.out _; (with_reducible repeat (first | refine blk_drewN ?_ _ | refine blk_drew ?_ | refine blk_alloc ?_ _)); exact BK108.out⟩, ⟨by (with_reducible repeat (first | refine blk_drewN ?_ _ | refine blk_drew ?_ | refine blk_alloc ?_ _)); refine blk_put (cs := #[.int .i64 t102, .int .i64 t103, .int .i64 t104, .string t105, .int .i64 t106]) ?_ 2 _ rfl; (with_reducible repeat (first | refine blk_drewN ?_ _ | refine blk_drew ?_ | refine blk_alloc ?_ _)); refine blk_put (cs := #[.int .i64 t102, .int .i64 t103, .int .i64 t104, .string t105, .int .i64 0]) ?_ 4 _ rfl; (with_reducible repeat (first | refine blk_drewN ?_ _ | refine blk_drew ?_ | refine blk_alloc ?_ _)); refine blk_put (cs := #[.int .i64 t102, .int .i64 t103, .int .i64 t104, .string (⟨#[]⟩ : ByteArray), .int .i64 0]) ?_ 3 _ rfl; (with_reducible repeat (first | refine blk_drewN ?_ _ | refine blk_drew ?_ | refine blk_alloc ?_ _)); refine blk_put (cs := #[.int .i64 t102, .int .i64 t103, .int .i64 0, .string (⟨#[]⟩ : ByteArray), .int .i64 0]) ?_ 2 _ rfl; (with_reducible repeat (first | refine blk_drewN ?_ _ | refine blk_drew ?_ | refine blk_alloc ?_ _)); refine blk_put (cs := #[.int .i64 t102, .int .i64 0, .int .i64 0, .string (⟨#[]⟩ : ByteArray), .int .i64 0]) ?_ 1 _ rfl; (with_reducible repeat (first | refine blk_drewN ?_ _ | refine blk_drew ?_ | refine blk_alloc ?_ _)); refine blk_put (cs := #[.int .i64 0, .int .i64 0, .int .i64 0, .string (⟨#[]⟩ : ByteArray), .int .i64 0]) ?_ 0 _ rfl; (with_reducible repeat (first | refine blk_drewN ?_ _ | refine blk_drew ?_ | refine blk_alloc ?_ _)); exact BK109.out⟩, ⟨by repeat (first | (with_reducible first | exact HB.out | apply below_alloc | apply pw_below_drewN | apply below_drew1 | refine below_set ?_ GE108.out | refine below_set ?_ GE109.out) | exact HB.out)⟩⟩
          · rw [if_neg c20] at H
            have c20b0 : ((Int.tmod (IntKind.u64.wrap (a0)) 8) == 2) = false := beq_eq_false_iff_ne.mpr c20
            have c20b1 : ((Int.tmod (IntKind.u64.wrap (a0)) 8) != 2) = true := bne_iff_ne.mpr c20
            by_cases c23 : (Int.tmod (IntKind.u64.wrap (a0)) 8) = 3
            · rw [if_pos c23] at H
              have c23b0 : ((Int.tmod (IntKind.u64.wrap (a0)) 8) == 3) = true := beq_iff_eq.mpr c23
              have c23b1 : ((Int.tmod (IntKind.u64.wrap (a0)) 8) != 3) = false := bne_eq_false_iff_eq.mpr c23
              clear c23
              have H' := Aside0.mk H
              clear H
              have hnb24 := NB109_108.out
              have hnc24 := NB108_109.out
              have hcz25_0 : w11.cell? ⟨gb109, 0, none⟩ = some (.int .i64 0) := (blk_cell BK109.out 0).trans rfl
              have hcz25_1 : w11.cell? ⟨gb109, 1, none⟩ = some (.int .i64 0) := (blk_cell BK109.out 1).trans rfl
              have hcz25_2 : w11.cell? ⟨gb109, 2, none⟩ = some (.int .i64 0) := (blk_cell BK109.out 2).trans rfl
              have hcz25_3 : w11.cell? ⟨gb109, 3, none⟩ = some (.string (⟨#[]⟩ : ByteArray)) := (blk_cell BK109.out 3).trans rfl
              have hcz25_4 : w11.cell? ⟨gb109, 4, none⟩ = some (.int .i64 0) := (blk_cell BK109.out 4).trans rfl
              have hfz25_0 := blk_frozen BK109.out 0
              have hfz25_1 := blk_frozen BK109.out 1
              have hfz25_2 := blk_frozen BK109.out 2
              have hfz25_3 := blk_frozen BK109.out 3
              have hfz25_4 := blk_frozen BK109.out 4
              go_wp2
              go_meet
              case rel => exact ⟨_, (t102), (wrap64 (t104 - (wrap64 (1 + (Go.bits .and .i64 a1 1023))))), (t104), (t105), (t106), H', ⟨by first | omega | exact Nat.le_refl _⟩, ⟨by (with_reducible repeat (first | refine blk_drewN ?_ _ | refine blk_drew ?_ | refine blk_alloc ?_ _)); refine blk_far ?_ NB108_109.out _; (with_reducible repeat (first | refine blk_drewN ?_ _ | refine blk_drew ?_ | refine blk_alloc ?_ _)); refine blk_far ?_ NB108_109.out _; (with_reducible repeat (first | refine blk_drewN ?_ _ | refine blk_drew ?_ | refine blk_alloc ?_ _)); refine blk_far ?_ NB108_109.out _; (with_reducible repeat (first | refine blk_drewN ?_ _ | refine blk_drew ?_ | refine blk_alloc ?_ _)); refine blk_far ?_ NB108_109.out _; (with_reducible repeat (first | refine blk_drewN ?_ _ | refine blk_drew ?_ | refine blk_alloc ?_ _)); refine blk_far ?_ NB108_109.out _; (with_reducible repeat (first | refine blk_drewN ?_ _ | refine blk_drew ?_ | refine blk_alloc ?_ _)); refine blk_far ?_ NB108_109.out _; (with_reducible repeat (first | refine blk_drewN ?_ _ | refine blk_drew ?_ | refine blk_alloc ?_ _)); exact BK108.out⟩, ⟨by (with_reducible repeat (first | refine blk_drewN ?_ _ | refine blk_drew ?_ | refine blk_alloc ?_ _)); refine blk_put (cs := #[.int .i64 t102, .int .i64 t103, .int .i64 t104, .string t105, .int .i64 t106]) ?_ 1 _ rfl; (with_reducible repeat (first | refine blk_drewN ?_ _ | refine blk_drew ?_ | refine blk_alloc ?_ _)); refine blk_put (cs := #[.int .i64 t102, .int .i64 t103, .int .i64 t104, .string t105, .int .i64 0]) ?_ 4 _ rfl; (with_reducible repeat (first | refine blk_drewN ?_ _ | refine blk_drew ?_ | refine blk_alloc ?_ _)); refine blk_put (cs := #[.int .i64 t102, .int .i64 t103, .int .i64 t104, .string (⟨#[]⟩ : ByteArray), .int .i64 0]) ?_ 3 _ rfl; (with_reducible repeat (first | refine blk_drewN ?_ _ | refine blk_drew ?_ | refine blk_alloc ?_ _)); refine blk_put (cs := #[.int .i64 t102, .int .i64 t103, .int .i64 0, .string (⟨#[]⟩ : ByteArray), .int .i64 0]) ?_ 2 _ rfl; (with_reducible repeat (first | refine blk_drewN ?_ _ | refine blk_drew ?_ | refine blk_alloc ?_ _)); refine blk_put (cs := #[.int .i64 t102, .int .i64 0, .int .i64 0, .string (⟨#[]⟩ : ByteArray), .int .i64 0]) ?_ 1 _ rfl; (with_reducible repeat (first | refine blk_drewN ?_ _ | refine blk_drew ?_ | refine blk_alloc ?_ _)); refine blk_put (cs := #[.int .i64 0, .int .i64 0, .int .i64 0, .string (⟨#[]⟩ : ByteArray), .int .i64 0]) ?_ 0 _ rfl; (with_reducible repeat (first | refine blk_drewN ?_ _ | refine blk_drew ?_ | refine blk_alloc ?_ _)); exact BK109.out⟩, ⟨by repeat (first | (with_reducible first | exact HB.out | apply below_alloc | apply pw_below_drewN | apply below_drew1 | refine below_set ?_ GE108.out | refine below_set ?_ GE109.out) | exact HB.out)⟩⟩
            · rw [if_neg c23] at H
              have c23b0 : ((Int.tmod (IntKind.u64.wrap (a0)) 8) == 3) = false := beq_eq_false_iff_ne.mpr c23
              have c23b1 : ((Int.tmod (IntKind.u64.wrap (a0)) 8) != 3) = true := bne_iff_ne.mpr c23
              by_cases c26 : (Int.tmod (IntKind.u64.wrap (a0)) 8) = 4
              · rw [if_pos c26] at H
                have c26b0 : ((Int.tmod (IntKind.u64.wrap (a0)) 8) == 4) = true := beq_iff_eq.mpr c26
                have c26b1 : ((Int.tmod (IntKind.u64.wrap (a0)) 8) != 4) = false := bne_eq_false_iff_eq.mpr c26
                clear c26
                have H' := Aside0.mk H
                clear H
                have hnb27 := NB109_108.out
                have hnc27 := NB108_109.out
                have hcz28_0 : w11.cell? ⟨gb109, 0, none⟩ = some (.int .i64 0) := (blk_cell BK109.out 0).trans rfl
                have hcz28_1 : w11.cell? ⟨gb109, 1, none⟩ = some (.int .i64 0) := (blk_cell BK109.out 1).trans rfl
                have hcz28_2 : w11.cell? ⟨gb109, 2, none⟩ = some (.int .i64 0) := (blk_cell BK109.out 2).trans rfl
                have hcz28_3 : w11.cell? ⟨gb109, 3, none⟩ = some (.string (⟨#[]⟩ : ByteArray)) := (blk_cell BK109.out 3).trans rfl
                have hcz28_4 : w11.cell? ⟨gb109, 4, none⟩ = some (.int .i64 0) := (blk_cell BK109.out 4).trans rfl
                have hfz28_0 := blk_frozen BK109.out 0
                have hfz28_1 := blk_frozen BK109.out 1
                have hfz28_2 := blk_frozen BK109.out 2
                have hfz28_3 := blk_frozen BK109.out 3
                have hfz28_4 := blk_frozen BK109.out 4
                go_wp2
                go_meet
                case rel => exact ⟨_, (t102), (t103), (t104), (t105), (wrap64 (4 - (wrap64 (1 + (Go.bits .and .i64 a1 1023))))), H', ⟨by first | omega | exact Nat.le_refl _⟩, ⟨by (with_reducible repeat (first | refine blk_drewN ?_ _ | refine blk_drew ?_ | refine blk_alloc ?_ _)); refine blk_far ?_ NB108_109.out _; (with_reducible repeat (first | refine blk_drewN ?_ _ | refine blk_drew ?_ | refine blk_alloc ?_ _)); refine blk_far ?_ NB108_109.out _; (with_reducible repeat (first | refine blk_drewN ?_ _ | refine blk_drew ?_ | refine blk_alloc ?_ _)); refine blk_far ?_ NB108_109.out _; (with_reducible repeat (first | refine blk_drewN ?_ _ | refine blk_drew ?_ | refine blk_alloc ?_ _)); refine blk_far ?_ NB108_109.out _; (with_reducible repeat (first | refine blk_drewN ?_ _ | refine blk_drew ?_ | refine blk_alloc ?_ _)); refine blk_far ?_ NB108_109.out _; (with_reducible repeat (first | refine blk_drewN ?_ _ | refine blk_drew ?_ | refine blk_alloc ?_ _)); refine blk_far ?_ NB108_109.out _; (with_reducible repeat (first | refine blk_drewN ?_ _ | refine blk_drew ?_ | refine blk_alloc ?_ _)); exact BK108.out⟩, ⟨by (with_reducible repeat (first | refine blk_drewN ?_ _ | refine blk_drew ?_ | refine blk_alloc ?_ _)); refine blk_put (cs := #[.int .i64 t102, .int .i64 t103, .int .i64 t104, .string t105, .int .i64 t106]) ?_ 4 _ rfl; (with_reducible repeat (first | refine blk_drewN ?_ _ | refine blk_drew ?_ | refine blk_alloc ?_ _)); refine blk_put (cs := #[.int .i64 t102, .int .i64 t103, .int .i64 t104, .string t105, .int .i64 0]) ?_ 4 _ rfl; (with_reducible repeat (first | refine blk_drewN ?_ _ | refine blk_drew ?_ | refine blk_alloc ?_ _)); refine blk_put (cs := #[.int .i64 t102, .int .i64 t103, .int .i64 t104, .string (⟨#[]⟩ : ByteArray), .int .i64 0]) ?_ 3 _ rfl; (with_reducible repeat (first | refine blk_drewN ?_ _ | refine blk_drew ?_ | refine blk_alloc ?_ _)); refine blk_put (cs := #[.int .i64 t102, .int .i64 t103, .int .i64 0, .string (⟨#[]⟩ : ByteArray), .int .i64 0]) ?_ 2 _ rfl; (with_reducible repeat (first | refine blk_drewN ?_ _ | refine blk_drew ?_ | refine blk_alloc ?_ _)); refine blk_put (cs := #[.int .i64 t102, .int .i64 0, .int .i64 0, .string (⟨#[]⟩ : ByteArray), .int .i64 0]) ?_ 1 _ rfl; (with_reducible repeat (first | refine blk_drewN ?_ _ | refine blk_drew ?_ | refine blk_alloc ?_ _)); refine blk_put (cs := #[.int .i64 0, .int .i64 0, .int .i64 0, .string (⟨#[]⟩ : ByteArray), .int .i64 0]) ?_ 0 _ rfl; (with_reducible repeat (first | refine blk_drewN ?_ _ | refine blk_drew ?_ | refine blk_alloc ?_ _)); exact BK109.out⟩, ⟨by repeat (first | (with_reducible first | exact HB.out | apply below_alloc | apply pw_below_drewN | apply below_drew1 | refine below_set ?_ GE108.out | refine below_set ?_ GE109.out) | exact HB.out)⟩⟩
              · rw [if_neg c26] at H
                have c26b0 : ((Int.tmod (IntKind.u64.wrap (a0)) 8) == 4) = false := beq_eq_false_iff_ne.mpr c26
                have c26b1 : ((Int.tmod (IntKind.u64.wrap (a0)) 8) != 4) = true := bne_iff_ne.mpr c26
                by_cases c29 : (Int.tmod (IntKind.u64.wrap (a0)) 8) = 5
                · rw [if_pos c29] at H
                  have c29b0 : ((Int.tmod (IntKind.u64.wrap (a0)) 8) == 5) = true := beq_iff_eq.mpr c29
                  have c29b1 : ((Int.tmod (IntKind.u64.wrap (a0)) 8) != 5) = false := bne_eq_false_iff_eq.mpr c29
                  clear c29
                  have H' := Aside0.mk H
                  clear H
                  have hnb30 := NB109_108.out
                  have hnc30 := NB108_109.out
                  have hcz31_0 : w11.cell? ⟨gb109, 0, none⟩ = some (.int .i64 0) := (blk_cell BK109.out 0).trans rfl
                  have hcz31_1 : w11.cell? ⟨gb109, 1, none⟩ = some (.int .i64 0) := (blk_cell BK109.out 1).trans rfl
                  have hcz31_2 : w11.cell? ⟨gb109, 2, none⟩ = some (.int .i64 0) := (blk_cell BK109.out 2).trans rfl
                  have hcz31_3 : w11.cell? ⟨gb109, 3, none⟩ = some (.string (⟨#[]⟩ : ByteArray)) := (blk_cell BK109.out 3).trans rfl
                  have hcz31_4 : w11.cell? ⟨gb109, 4, none⟩ = some (.int .i64 0) := (blk_cell BK109.out 4).trans rfl
                  have hfz31_0 := blk_frozen BK109.out 0
                  have hfz31_1 := blk_frozen BK109.out 1
                  have hfz31_2 := blk_frozen BK109.out 2
                  have hfz31_3 := blk_frozen BK109.out 3
                  have hfz31_4 := blk_frozen BK109.out 4
                  go_wp2
                  go_meet
                  case rel => exact ⟨_, (t102), (t103), (t104), (t105), (wrap64 (65544 + (wrap64 (1 + (Go.bits .and .i64 a1 1023))))), H', ⟨by first | omega | exact Nat.le_refl _⟩, ⟨by (with_reducible repeat (first | refine blk_drewN ?_ _ | refine blk_drew ?_ | refine blk_alloc ?_ _)); refine blk_far ?_ NB108_109.out _; (with_reducible repeat (first | refine blk_drewN ?_ _ | refine blk_drew ?_ | refine blk_alloc ?_ _)); refine blk_far ?_ NB108_109.out _; (with_reducible repeat (first | refine blk_drewN ?_ _ | refine blk_drew ?_ | refine blk_alloc ?_ _)); refine blk_far ?_ NB108_109.out _; (with_reducible repeat (first | refine blk_drewN ?_ _ | refine blk_drew ?_ | refine blk_alloc ?_ _)); refine blk_far ?_ NB108_109.out _; (with_reducible repeat (first | refine blk_drewN ?_ _ | refine blk_drew ?_ | refine blk_alloc ?_ _)); refine blk_far ?_ NB108_109.out _; (with_reducible repeat (first | refine blk_drewN ?_ _ | refine blk_drew ?_ | refine blk_alloc ?_ _)); refine blk_far ?_ NB108_109.out _; (with_reducible repeat (first | refine blk_drewN ?_ _ | refine blk_drew ?_ | refine blk_alloc ?_ _)); exact BK108.out⟩, ⟨by (with_reducible repeat (first | refine blk_drewN ?_ _ | refine blk_drew ?_ | refine blk_alloc ?_ _)); refine blk_put (cs := #[.int .i64 t102, .int .i64 t103, .int .i64 t104, .string t105, .int .i64 t106]) ?_ 4 _ rfl; (with_reducible repeat (first | refine blk_drewN ?_ _ | refine blk_drew ?_ | refine blk_alloc ?_ _)); refine blk_put (cs := #[.int .i64 t102, .int .i64 t103, .int .i64 t104, .string t105, .int .i64 0]) ?_ 4 _ rfl; (with_reducible repeat (first | refine blk_drewN ?_ _ | refine blk_drew ?_ | refine blk_alloc ?_ _)); refine blk_put (cs := #[.int .i64 t102, .int .i64 t103, .int .i64 t104, .string (⟨#[]⟩ : ByteArray), .int .i64 0]) ?_ 3 _ rfl; (with_reducible repeat (first | refine blk_drewN ?_ _ | refine blk_drew ?_ | refine blk_alloc ?_ _)); refine blk_put (cs := #[.int .i64 t102, .int .i64 t103, .int .i64 0, .string (⟨#[]⟩ : ByteArray), .int .i64 0]) ?_ 2 _ rfl; (with_reducible repeat (first | refine blk_drewN ?_ _ | refine blk_drew ?_ | refine blk_alloc ?_ _)); refine blk_put (cs := #[.int .i64 t102, .int .i64 0, .int .i64 0, .string (⟨#[]⟩ : ByteArray), .int .i64 0]) ?_ 1 _ rfl; (with_reducible repeat (first | refine blk_drewN ?_ _ | refine blk_drew ?_ | refine blk_alloc ?_ _)); refine blk_put (cs := #[.int .i64 0, .int .i64 0, .int .i64 0, .string (⟨#[]⟩ : ByteArray), .int .i64 0]) ?_ 0 _ rfl; (with_reducible repeat (first | refine blk_drewN ?_ _ | refine blk_drew ?_ | refine blk_alloc ?_ _)); exact BK109.out⟩, ⟨by repeat (first | (with_reducible first | exact HB.out | apply below_alloc | apply pw_below_drewN | apply below_drew1 | refine below_set ?_ GE108.out | refine below_set ?_ GE109.out) | exact HB.out)⟩⟩
                · rw [if_neg c29] at H
                  have c29b0 : ((Int.tmod (IntKind.u64.wrap (a0)) 8) == 5) = false := beq_eq_false_iff_ne.mpr c29
                  have c29b1 : ((Int.tmod (IntKind.u64.wrap (a0)) 8) != 5) = true := bne_iff_ne.mpr c29
                  by_cases c32 : (Int.tmod (IntKind.u64.wrap (a0)) 8) = 6
                  · rw [if_pos c32] at H
                    have c32b0 : ((Int.tmod (IntKind.u64.wrap (a0)) 8) == 6) = true := beq_iff_eq.mpr c32
                    have c32b1 : ((Int.tmod (IntKind.u64.wrap (a0)) 8) != 6) = false := bne_eq_false_iff_eq.mpr c32
                    clear c32
                    obtain ⟨ji33, hji33⟩ : ∃ j_ : Int, (wrap64 (65536 + (wrap64 (1 + (Go.bits .and .i64 a1 1023))))) = j_ := ⟨_, rfl⟩
                    replace H : (if 0 ≤ (ji33) then (if (ji33 : Int).toNat ≤ 281474976710656 then (descantlaw5_DecoderForms.j0 k a0 (wrap64 (1 + (Go.bits .and .i64 a1 1023))) t102 t103 t104 t105 t106 t102 t103 t104 (strOfNums (List.replicate (ji33 : Int).toNat 0)) t106) else (none)) else (none)) = some true := by first | (rw [hji33] at H; exact H) | (simp only [hji33] at H ⊢; exact H)
                    have hji33w : (IntKind.i64.wrap (65536 + (wrap64 (1 + (Go.bits .and .i64 a1 1023))))) = ji33 := (i64_w _).trans hji33
                    by_cases c34 : 0 ≤ (ji33)
                    · rw [if_pos c34] at H
                      have c34b0 := eq_true c34
                      have c34b1 : decide (0 ≤ (ji33)) = true := decide_eq_true c34
                      clear c34
                      by_cases c35 : (ji33 : Int).toNat ≤ 281474976710656
                      · rw [if_pos c35] at H
                        have c35b0 := eq_true c35
                        have c35b1 : decide ((ji33 : Int).toNat ≤ 281474976710656) = true := decide_eq_true c35
                        (try simp only [Int.toNat_natCast] at c35b1)
                        clear c35
                        obtain ⟨y110, hy110⟩ : ∃ y_ : List Int, y_ = (List.replicate (ji33 : Int).toNat 0) := ⟨_, rfl⟩
                        replace H : (descantlaw5_DecoderForms.j0 k a0 (wrap64 (1 + (Go.bits .and .i64 a1 1023))) t102 t103 t104 t105 t106 t102 t103 t104 (strOfNums y110) t106) = some true := by first | (rw [hy110]; with_reducible exact H) | (have H2_ := (Option.bind_some _ _).symm.trans H; rw [hy110]; with_reducible exact H2_) | (have H2_ := (Option.bind_some _ _).symm.trans H; with_reducible exact H2_) | with_reducible exact H | (rw [hy110]; exact H) | exact H
                        have Ny110 := Aside0.mk hy110
                        clear hy110
                        have H' := Aside0.mk H
                        clear H
                        go_wp2_with (first | ((with_reducible refine gate_dst (N := 73) rfl ?_); refine Kd.R_make (Kd.int .u8) _ 5 rfl (N := 73) rfl 47 _ _ rfl ji33 rfl rfl Try.underlying47 (.int .u8 0) 1 info5 rfl (by decide) (by omega) 0 (ok := fun _ => True) (okp := fun _ => True) rfl (fun _ hk => hk) trivial (of_decide_eq_true (by first | (with_reducible assumption) | assumption)) (Nat.le_trans (Nat.mul_le_mul_right _ (of_decide_eq_true (by first | (with_reducible assumption) | assumption) : ji33.toNat ≤ 281474976710656)) (by omega)) (Below.refl _ _) (Nat.le_refl _) ?_; intro v111 w36 ho37 hb hg_ hnew_; clear hg_ hnew_; (first | rw [← Ny110.out] at ho37 | (simp only [Int.reduceToNat] at ho37; rw [← Ny110.out] at ho37)); have n0_ := Aside0.mk (Kd.R_lower ho37 (below_size (by repeat (first | (with_reducible first | exact HB.out | apply below_alloc | apply pw_below_drewN | apply below_drew1 | refine below_set ?_ GE108.out | refine below_set ?_ GE109.out) | exact HB.out)))); have n1_ := Aside0.mk (blk_below (g := gb108) (o := .cells #[.int .i64 t102, .int .i64 t103, .int .i64 t104, .string t105, .int .i64 t106] 23 (0, 0)) (by (with_reducible repeat (first | refine blk_drewN ?_ _ | refine blk_drew ?_ | refine blk_alloc ?_ _)); refine blk_far ?_ NB108_109.out _; (with_reducible repeat (first | refine blk_drewN ?_ _ | refine blk_drew ?_ | refine blk_alloc ?_ _)); refine blk_far ?_ NB108_109.out _; (with_reducible repeat (first | refine blk_drewN ?_ _ | refine blk_drew ?_ | refine blk_alloc ?_ _)); refine blk_far ?_ NB108_109.out _; (with_reducible repeat (first | refine blk_drewN ?_ _ | refine blk_drew ?_ | refine blk_alloc ?_ _)); refine blk_far ?_ NB108_109.out _; (with_reducible repeat (first | refine blk_drewN ?_ _ | refine blk_drew ?_ | refine blk_alloc ?_ _)); refine blk_far ?_ NB108_109.out _; (with_reducible repeat (first | refine blk_drewN ?_ _ | refine blk_drew ?_ | refine blk_alloc ?_ _)); exact BK108.out) hb); have n2_ := Aside0.mk (blk_below (g := gb109) (o := .cells #[.int .i64 t102, .int .i64 t103, .int .i64 t104, .string t105, .int .i64 t106] 23 (0, 0)) (by (with_reducible repeat (first | refine blk_drewN ?_ _ | refine blk_drew ?_ | refine blk_alloc ?_ _)); refine blk_put (cs := #[.int .i64 t102, .int .i64 t103, .int .i64 t104, .string t105, .int .i64 0]) ?_ 4 _ rfl; (with_reducible repeat (first | refine blk_drewN ?_ _ | refine blk_drew ?_ | refine blk_alloc ?_ _)); refine blk_put (cs := #[.int .i64 t102, .int .i64 t103, .int .i64 t104, .string (⟨#[]⟩ : ByteArray), .int .i64 0]) ?_ 3 _ rfl; (with_reducible repeat (first | refine blk_drewN ?_ _ | refine blk_drew ?_ | refine blk_alloc ?_ _)); refine blk_put (cs := #[.int .i64 t102, .int .i64 t103, .int .i64 0, .string (⟨#[]⟩ : ByteArray), .int .i64 0]) ?_ 2 _ rfl; (with_reducible repeat (first | refine blk_drewN ?_ _ | refine blk_drew ?_ | refine blk_alloc ?_ _)); refine blk_put (cs := #[.int .i64 t102, .int .i64 0, .int .i64 0, .string (⟨#[]⟩ : ByteArray), .int .i64 0]) ?_ 1 _ rfl; (with_reducible repeat (first | refine blk_drewN ?_ _ | refine blk_drew ?_ | refine blk_alloc ?_ _)); refine blk_put (cs := #[.int .i64 0, .int .i64 0, .int .i64 0, .string (⟨#[]⟩ : ByteArray), .int .i64 0]) ?_ 0 _ rfl; (with_reducible repeat (first | refine blk_drewN ?_ _ | refine blk_drew ?_ | refine blk_alloc ?_ _)); exact BK109.out) hb); have n3_ := Aside0.mk (below_step (by repeat (first | (with_reducible first | exact HB.out | apply below_alloc | apply pw_below_drewN | apply below_drew1 | refine below_set ?_ GE108.out | refine below_set ?_ GE109.out) | exact HB.out)) hb); clear BK108; clear BK109; clear HB; have HO112 := n0_; have BK108 := n1_; have BK109 := n2_; have HB := n3_; clear n0_ n1_ n2_ n3_; clear hb ho37; have hcv38 := own_string (P := Try.prog) Try.underlying47 Try.underlying5 Try.underlying9 (Kd.own_of_R HO112.out); have hnb39 := NB109_108.out; have hnc39 := NB108_109.out; have hcz40_0 : w36.cell? ⟨gb109, 0, none⟩ = some (.int .i64 t102) := (blk_cell BK109.out 0).trans rfl; have hcz40_1 : w36.cell? ⟨gb109, 1, none⟩ = some (.int .i64 t103) := (blk_cell BK109.out 1).trans rfl; have hcz40_2 : w36.cell? ⟨gb109, 2, none⟩ = some (.int .i64 t104) := (blk_cell BK109.out 2).trans rfl; have hcz40_3 : w36.cell? ⟨gb109, 3, none⟩ = some (.string t105) := (blk_cell BK109.out 3).trans rfl; have hcz40_4 : w36.cell? ⟨gb109, 4, none⟩ = some (.int .i64 t106) := (blk_cell BK109.out 4).trans rfl; have hfz40_0 := blk_frozen BK109.out 0; have hfz40_1 := blk_frozen BK109.out 1; have hfz40_2 := blk_frozen BK109.out 2; have hfz40_3 := blk_frozen BK109.out 3; have hfz40_4 := blk_frozen BK109.out 4))
                        go_meet
                        case rel => exact ⟨_, (t102), (t103), (t104), (strOfNums y110), (t106), H', ⟨by first | omega | exact Nat.le_refl _⟩, ⟨by (with_reducible repeat (first | refine blk_drewN ?_ _ | refine blk_drew ?_ | refine blk_alloc ?_ _)); refine blk_far ?_ NB108_109.out _; (with_reducible repeat (first | refine blk_drewN ?_ _ | refine blk_drew ?_ | refine blk_alloc ?_ _)); exact BK108.out⟩, ⟨by (with_reducible repeat (first | refine blk_drewN ?_ _ | refine blk_drew ?_ | refine blk_alloc ?_ _)); refine blk_put (cs := #[.int .i64 t102, .int .i64 t103, .int .i64 t104, .string t105, .int .i64 t106]) ?_ 3 _ rfl; (with_reducible repeat (first | refine blk_drewN ?_ _ | refine blk_drew ?_ | refine blk_alloc ?_ _)); exact BK109.out⟩, ⟨by repeat (first | (with_reducible first | exact HB.out | apply below_alloc | apply pw_below_drewN | apply below_drew1 | refine below_set ?_ GE108.out | refine below_set ?_ GE109.out) | exact HB.out)⟩⟩
                      · rw [if_neg c35] at H
                        exact absurd H (by simp)
                    · rw [if_neg c34] at H
                      exact absurd H (by simp)
                  · rw [if_neg c32] at H
                    have c32b0 : ((Int.tmod (IntKind.u64.wrap (a0)) 8) == 6) = false := beq_eq_false_iff_ne.mpr c32
                    have c32b1 : ((Int.tmod (IntKind.u64.wrap (a0)) 8) != 6) = true := bne_iff_ne.mpr c32
                    have H' := Aside0.mk H
                    clear H
                    have hnb41 := NB109_108.out
                    have hnc41 := NB108_109.out
                    have hcz42_0 : w11.cell? ⟨gb109, 0, none⟩ = some (.int .i64 0) := (blk_cell BK109.out 0).trans rfl
                    have hcz42_1 : w11.cell? ⟨gb109, 1, none⟩ = some (.int .i64 0) := (blk_cell BK109.out 1).trans rfl
                    have hcz42_2 : w11.cell? ⟨gb109, 2, none⟩ = some (.int .i64 0) := (blk_cell BK109.out 2).trans rfl
                    have hcz42_3 : w11.cell? ⟨gb109, 3, none⟩ = some (.string (⟨#[]⟩ : ByteArray)) := (blk_cell BK109.out 3).trans rfl
                    have hcz42_4 : w11.cell? ⟨gb109, 4, none⟩ = some (.int .i64 0) := (blk_cell BK109.out 4).trans rfl
                    have hfz42_0 := blk_frozen BK109.out 0
                    have hfz42_1 := blk_frozen BK109.out 1
                    have hfz42_2 := blk_frozen BK109.out 2
                    have hfz42_3 := blk_frozen BK109.out 3
                    have hfz42_4 := blk_frozen BK109.out 4
                    go_wp2
                    go_meet
                    case rel => exact ⟨_, (wrap64 (t103 - 5)), (t103), (t103), (t105), (t106), H', ⟨by first | omega | exact Nat.le_refl _⟩, ⟨by (with_reducible repeat (first | refine blk_drewN ?_ _ | refine blk_drew ?_ | refine blk_alloc ?_ _)); refine blk_far ?_ NB108_109.out _; (with_reducible repeat (first | refine blk_drewN ?_ _ | refine blk_drew ?_ | refine blk_alloc ?_ _)); refine blk_far ?_ NB108_109.out _; (with_reducible repeat (first | refine blk_drewN ?_ _ | refine blk_drew ?_ | refine blk_alloc ?_ _)); refine blk_far ?_ NB108_109.out _; (with_reducible repeat (first | refine blk_drewN ?_ _ | refine blk_drew ?_ | refine blk_alloc ?_ _)); refine blk_far ?_ NB108_109.out _; (with_reducible repeat (first | refine blk_drewN ?_ _ | refine blk_drew ?_ | refine blk_alloc ?_ _)); refine blk_far ?_ NB108_109.out _; (with_reducible repeat (first | refine blk_drewN ?_ _ | refine blk_drew ?_ | refine blk_alloc ?_ _)); refine blk_far ?_ NB108_109.out _; (with_reducible repeat (first | refine blk_drewN ?_ _ | refine blk_drew ?_ | refine blk_alloc ?_ _)); refine blk_far ?_ NB108_109.out _; (with_reducible repeat (first | refine blk_drewN ?_ _ | refine blk_drew ?_ | refine blk_alloc ?_ _)); exact BK108.out⟩, ⟨by (with_reducible repeat (first | refine blk_drewN ?_ _ | refine blk_drew ?_ | refine blk_alloc ?_ _)); refine blk_put (cs := #[.int .i64 (wrap64 (t103 - 5)), .int .i64 t103, .int .i64 t104, .string t105, .int .i64 t106]) ?_ 2 _ rfl; (with_reducible repeat (first | refine blk_drewN ?_ _ | refine blk_drew ?_ | refine blk_alloc ?_ _)); refine blk_put (cs := #[.int .i64 t102, .int .i64 t103, .int .i64 t104, .string t105, .int .i64 t106]) ?_ 0 _ rfl; (with_reducible repeat (first | refine blk_drewN ?_ _ | refine blk_drew ?_ | refine blk_alloc ?_ _)); refine blk_put (cs := #[.int .i64 t102, .int .i64 t103, .int .i64 t104, .string t105, .int .i64 0]) ?_ 4 _ rfl; (with_reducible repeat (first | refine blk_drewN ?_ _ | refine blk_drew ?_ | refine blk_alloc ?_ _)); refine blk_put (cs := #[.int .i64 t102, .int .i64 t103, .int .i64 t104, .string (⟨#[]⟩ : ByteArray), .int .i64 0]) ?_ 3 _ rfl; (with_reducible repeat (first | refine blk_drewN ?_ _ | refine blk_drew ?_ | refine blk_alloc ?_ _)); refine blk_put (cs := #[.int .i64 t102, .int .i64 t103, .int .i64 0, .string (⟨#[]⟩ : ByteArray), .int .i64 0]) ?_ 2 _ rfl; (with_reducible repeat (first | refine blk_drewN ?_ _ | refine blk_drew ?_ | refine blk_alloc ?_ _)); refine blk_put (cs := #[.int .i64 t102, .int .i64 0, .int .i64 0, .string (⟨#[]⟩ : ByteArray), .int .i64 0]) ?_ 1 _ rfl; (with_reducible repeat (first | refine blk_drewN ?_ _ | refine blk_drew ?_ | refine blk_alloc ?_ _)); refine blk_put (cs := #[.int .i64 0, .int .i64 0, .int .i64 0, .string (⟨#[]⟩ : ByteArray), .int .i64 0]) ?_ 0 _ rfl; (with_reducible repeat (first | refine blk_drewN ?_ _ | refine blk_drew ?_ | refine blk_alloc ?_ _)); exact BK109.out⟩, ⟨by repeat (first | (with_reducible first | exact HB.out | apply below_alloc | apply pw_below_drewN | apply below_drew1 | refine below_set ?_ GE108.out | refine below_set ?_ GE109.out) | exact HB.out)⟩⟩
    case rest =>
      clear HC6
      try clear c1
      try clear c2
      try clear p2
      try clear c3
      try clear hcv3
      try clear c4
      try clear c5
      try clear p6
      try clear c11
      try clear c12
      try clear c14
      try clear c14b0
      try clear c14b1
      try clear c15
      try clear c17
      try clear c17b0
      try clear c17b1
      try clear c18
      try clear c20
      try clear c20b0
      try clear c20b1
      try clear c21
      try clear c23
      try clear c23b0
      try clear c23b1
      try clear c24
      try clear c26
      try clear c26b0
      try clear c26b1
      try clear c27
      try clear c29
      try clear c29b0
      try clear c29b1
      try clear c30
      try clear c32
      try clear c32b0
      try clear c32b1
      try clear c34
      try clear c34b0
      try clear c34b1
      try clear c35
      try clear c35b0
      try clear c35b1
      try clear hcv38
      try clear c39
      try clear c41
      try clear hcz10_0
      try clear hcz10_1
      try clear hcz10_2
      try clear hcz10_3
      try clear hcz10_4
      try clear hcz13_0
      try clear hcz13_1
      try clear hcz13_2
      try clear hcz13_3
      try clear hcz13_4
      try clear hcz16_0
      try clear hcz16_1
      try clear hcz16_2
      try clear hcz16_3
      try clear hcz16_4
      try clear hcz19_0
      try clear hcz19_1
      try clear hcz19_2
      try clear hcz19_3
      try clear hcz19_4
      try clear hcz22_0
      try clear hcz22_1
      try clear hcz22_2
      try clear hcz22_3
      try clear hcz22_4
      try clear hcz25_0
      try clear hcz25_1
      try clear hcz25_2
      try clear hcz25_3
      try clear hcz25_4
      try clear hcz28_0
      try clear hcz28_1
      try clear hcz28_2
      try clear hcz28_3
      try clear hcz28_4
      try clear hcz31_0
      try clear hcz31_1
      try clear hcz31_2
      try clear hcz31_3
      try clear hcz31_4
      try clear hcz40_0
      try clear hcz40_1
      try clear hcz40_2
      try clear hcz40_3
      try clear hcz40_4
      try clear hcz42_0
      try clear hcz42_1
      try clear hcz42_2
      try clear hcz42_3
      try clear hcz42_4
      try clear hfz10_0
      try clear hfz10_1
      try clear hfz10_2
      try clear hfz10_3
      try clear hfz10_4
      try clear hfz13_0
      try clear hfz13_1
      try clear hfz13_2
      try clear hfz13_3
      try clear hfz13_4
      try clear hfz16_0
      try clear hfz16_1
      try clear hfz16_2
      try clear hfz16_3
      try clear hfz16_4
      try clear hfz19_0
      try clear hfz19_1
      try clear hfz19_2
      try clear hfz19_3
      try clear hfz19_4
      try clear hfz22_0
      try clear hfz22_1
      try clear hfz22_2
      try clear hfz22_3
      try clear hfz22_4
      try clear hfz25_0
      try clear hfz25_1
      try clear hfz25_2
      try clear hfz25_3
      try clear hfz25_4
      try clear hfz28_0
      try clear hfz28_1
      try clear hfz28_2
      try clear hfz28_3
      try clear hfz28_4
      try clear hfz31_0
      try clear hfz31_1
      try clear hfz31_2
      try clear hfz31_3
      try clear hfz31_4
      try clear hfz40_0
      try clear hfz40_1
      try clear hfz40_2
      try clear hfz40_3
      try clear hfz40_4
      try clear hfz42_0
      try clear hfz42_1
      try clear hfz42_2
      try clear hfz42_3
      try clear hfz42_4
      obtain ⟨kq, x110000_5, x110001_5, x110002_5, x110003_5, x110004_5, HA, HJ5, BK108, BK109, HB⟩ := hcut
      cases kq with
      | zero => exact absurd HA.out (by simp [descantlaw5_DecoderForms.j0])
      | succ kj5 =>
        have H := HA.out
        clear HA
        simp only [descantlaw5_DecoderForms.j0] at H
        replace H := Option.bind_eq_some_iff.mp H
        obtain ⟨⟨t113, t114, t115, t116, t117, t118, t119⟩, A430, H⟩ := H
        replace H : ((some (([wrap64 (1 - (wrap64 (1 + (Go.bits .and .i64 a1 1023)))), wrap64 (4095 + (wrap64 (1 + (Go.bits .and .i64 a1 1023))))] : List Int) : List Int)).bind fun y121 => (if 0 ≤ (Go.bits .and .i64 a0 1) then (if (Go.bits .and .i64 a0 1) < (y121.length : Int) then ((decoder_Bit.f t102 t103 t104 t105 t106 (rd y121 (Go.bits .and .i64 a0 1))).bind fun bt125 => (if 0 ≤ (wrap64 (65536 + (wrap64 (1 + (Go.bits .and .i64 a1 1023))))) then (if (wrap64 (65536 + (wrap64 (1 + (Go.bits .and .i64 a1 1023)))) : Int).toNat ≤ 281474976710656 then ((decoder_New.f kj5 (strOfNums (List.replicate (wrap64 (65536 + (wrap64 (1 + (Go.bits .and .i64 a1 1023)))) : Int).toNat 0))).bind fun bt136 => ((decoder_May.f t102 t103 t104 t105 t106).bind fun t143 => (if t143 = true then ((decoder_May.f x110000_5 x110001_5 x110002_5 x110003_5 x110004_5).bind fun t144 => (if t144 = true then (some false) else ((descantlaw0_Num.f t119).bind fun t145 => (if t145 = 500 then ((descantlaw0_Num.f bt125.2.2.2.2.2.2).bind fun t146 => (if t146 = 500 then ((descantlaw0_Num.f bt136.2.2.2.2.2).bind fun t147 => (some (t147 == 500))) else (some false))) else (some false))))) else (some false)))) else (none)) else (none))) else (none)) else (none))) = some true := H
        have A43 := Aside0.mk A430
        clear A430
        obtain ⟨y121, hy121⟩ : ∃ y_ : List Int, y_ = (([wrap64 (1 - (wrap64 (1 + (Go.bits .and .i64 a1 1023)))), wrap64 (4095 + (wrap64 (1 + (Go.bits .and .i64 a1 1023))))] : List Int)) := ⟨_, rfl⟩
        replace H : (if 0 ≤ (Go.bits .and .i64 a0 1) then (if (Go.bits .and .i64 a0 1) < (y121.length : Int) then ((decoder_Bit.f t102 t103 t104 t105 t106 (rd y121 (Go.bits .and .i64 a0 1))).bind fun bt125 => (if 0 ≤ (wrap64 (65536 + (wrap64 (1 + (Go.bits .and .i64 a1 1023))))) then (if (wrap64 (65536 + (wrap64 (1 + (Go.bits .and .i64 a1 1023)))) : Int).toNat ≤ 281474976710656 then ((decoder_New.f kj5 (strOfNums (List.replicate (wrap64 (65536 + (wrap64 (1 + (Go.bits .and .i64 a1 1023)))) : Int).toNat 0))).bind fun bt136 => ((decoder_May.f t102 t103 t104 t105 t106).bind fun t143 => (if t143 = true then ((decoder_May.f x110000_5 x110001_5 x110002_5 x110003_5 x110004_5).bind fun t144 => (if t144 = true then (some false) else ((descantlaw0_Num.f t119).bind fun t145 => (if t145 = 500 then ((descantlaw0_Num.f bt125.2.2.2.2.2.2).bind fun t146 => (if t146 = 500 then ((descantlaw0_Num.f bt136.2.2.2.2.2).bind fun t147 => (some (t147 == 500))) else (some false))) else (some false))))) else (some false)))) else (none)) else (none))) else (none)) else (none)) = some true := by first | (rw [hy121]; with_reducible exact H) | (have H2_ := (Option.bind_some _ _).symm.trans H; rw [hy121]; with_reducible exact H2_) | (have H2_ := (Option.bind_some _ _).symm.trans H; with_reducible exact H2_) | with_reducible exact H | (rw [hy121]; exact H) | exact H
        have Ny121 := Aside0.mk hy121
        clear hy121
        by_cases c44 : 0 ≤ (Go.bits .and .i64 a0 1)
        · rw [if_pos c44] at H
          have c44b0 : decide (0 ≤ (Go.bits .and .i64 a0 1)) = true := decide_eq_true c44
          clear c44
          by_cases c45 : (Go.bits .and .i64 a0 1) < (y121.length : Int)
          · rw [if_pos c45] at H
            have c45b0 : decide ((Go.bits .and .i64 a0 1) < (y121.length : Int)) = true := decide_eq_true c45
            clear c45
            replace H := Option.bind_eq_some_iff.mp H
            obtain ⟨⟨t125, t126, t127, t128, t129, t130, t131⟩, A460, H⟩ := H
            replace H : (if 0 ≤ (wrap64 (65536 + (wrap64 (1 + (Go.bits .and .i64 a1 1023))))) then (if (wrap64 (65536 + (wrap64 (1 + (Go.bits .and .i64 a1 1023)))) : Int).toNat ≤ 281474976710656 then ((decoder_New.f kj5 (strOfNums (List.replicate (wrap64 (65536 + (wrap64 (1 + (Go.bits .and .i64 a1 1023)))) : Int).toNat 0))).bind fun bt136 => ((decoder_May.f t102 t103 t104 t105 t106).bind fun t143 => (if t143 = true then ((decoder_May.f x110000_5 x110001_5 x110002_5 x110003_5 x110004_5).bind fun t144 => (if t144 = true then (some false) else ((descantlaw0_Num.f t119).bind fun t145 => (if t145 = 500 then ((descantlaw0_Num.f t131).bind fun t146 => (if t146 = 500 then ((descantlaw0_Num.f bt136.2.2.2.2.2).bind fun t147 => (some (t147 == 500))) else (some false))) else (some false))))) else (some false)))) else (none)) else (none)) = some true := H
            have A46 := Aside0.mk A460
            clear A460
            obtain ⟨ji47, hji47⟩ : ∃ j_ : Int, (wrap64 (65536 + (wrap64 (1 + (Go.bits .and .i64 a1 1023))))) = j_ := ⟨_, rfl⟩
            replace H : (if 0 ≤ (ji47) then (if (ji47 : Int).toNat ≤ 281474976710656 then ((decoder_New.f kj5 (strOfNums (List.replicate (ji47 : Int).toNat 0))).bind fun bt136 => ((decoder_May.f t102 t103 t104 t105 t106).bind fun t143 => (if t143 = true then ((decoder_May.f x110000_5 x110001_5 x110002_5 x110003_5 x110004_5).bind fun t144 => (if t144 = true then (some false) else ((descantlaw0_Num.f t119).bind fun t145 => (if t145 = 500 then ((descantlaw0_Num.f t131).bind fun t146 => (if t146 = 500 then ((descantlaw0_Num.f bt136.2.2.2.2.2).bind fun t147 => (some (t147 == 500))) else (some false))) else (some false))))) else (some false)))) else (none)) else (none)) = some true := by first | (rw [hji47] at H; exact H) | (simp only [hji47] at H ⊢; exact H)
            (try rw [hji47] at A43)
            (try rw [hji47] at A46)
            have hji47w : (IntKind.i64.wrap (65536 + (wrap64 (1 + (Go.bits .and .i64 a1 1023))))) = ji47 := (i64_w _).trans hji47
            by_cases c48 : 0 ≤ (ji47)
            · rw [if_pos c48] at H
              have c48b0 := eq_true c48
              have c48b1 : decide (0 ≤ (ji47)) = true := decide_eq_true c48
              clear c48
              by_cases c49 : (ji47 : Int).toNat ≤ 281474976710656
              · rw [if_pos c49] at H
                have c49b0 := eq_true c49
                have c49b1 : decide ((ji47 : Int).toNat ≤ 281474976710656) = true := decide_eq_true c49
                (try simp only [Int.toNat_natCast] at c49b1)
                clear c49
                obtain ⟨y133, hy133⟩ : ∃ y_ : List Int, y_ = (List.replicate (ji47 : Int).toNat 0) := ⟨_, rfl⟩
                replace H : ((decoder_New.f kj5 (strOfNums y133)).bind fun bt136 => ((decoder_May.f t102 t103 t104 t105 t106).bind fun t143 => (if t143 = true then ((decoder_May.f x110000_5 x110001_5 x110002_5 x110003_5 x110004_5).bind fun t144 => (if t144 = true then (some false) else ((descantlaw0_Num.f t119).bind fun t145 => (if t145 = 500 then ((descantlaw0_Num.f t131).bind fun t146 => (if t146 = 500 then ((descantlaw0_Num.f bt136.2.2.2.2.2).bind fun t147 => (some (t147 == 500))) else (some false))) else (some false))))) else (some false)))) = some true := by first | (rw [hy133]; with_reducible exact H) | (have H2_ := (Option.bind_some _ _).symm.trans H; rw [hy133]; with_reducible exact H2_) | (have H2_ := (Option.bind_some _ _).symm.trans H; with_reducible exact H2_) | with_reducible exact H | (rw [hy133]; exact H) | exact H
                have Ny133 := Aside0.mk hy133
                clear hy133
                replace H := Option.bind_eq_some_iff.mp H
                obtain ⟨⟨t136, t137, t138, t139, t140, t141⟩, A500, H⟩ := H
                replace H : ((decoder_May.f t102 t103 t104 t105 t106).bind fun t143 => (if t143 = true then ((decoder_May.f x110000_5 x110001_5 x110002_5 x110003_5 x110004_5).bind fun t144 => (if t144 = true then (some false) else ((descantlaw0_Num.f t119).bind fun t145 => (if t145 = 500 then ((descantlaw0_Num.f t131).bind fun t146 => (if t146 = 500 then ((descantlaw0_Num.f t141).bind fun t147 => (some (t147 == 500))) else (some false))) else (some false))))) else (some false))) = some true := H
                have A50 := Aside0.mk A500
                clear A500
                replace H := Option.bind_eq_some_iff.mp H
                obtain ⟨t143, A510, H⟩ := H
                replace H : (if t143 = true then ((decoder_May.f x110000_5 x110001_5 x110002_5 x110003_5 x110004_5).bind fun t144 => (if t144 = true then (some false) else ((descantlaw0_Num.f t119).bind fun t145 => (if t145 = 500 then ((descantlaw0_Num.f t131).bind fun t146 => (if t146 = 500 then ((descantlaw0_Num.f t141).bind fun t147 => (some (t147 == 500))) else (some false))) else (some false))))) else (some false)) = some true := H
                have A51 := Aside0.mk A510
                clear A510
                by_cases c52 : t143 = true
                · subst c52
                  have H1 : ((decoder_May.f x110000_5 x110001_5 x110002_5 x110003_5 x110004_5).bind fun t144 => (if t144 = true then (some false) else ((descantlaw0_Num.f t119).bind fun t145 => (if t145 = 500 then ((descantlaw0_Num.f t131).bind fun t146 => (if t146 = 500 then ((descantlaw0_Num.f t141).bind fun t147 => (some (t147 == 500))) else (some false))) else (some false))))) = some true := by rw [if_pos rfl] at H; exact H
                  clear H
                  have H := H1
                  clear H1
                  replace H := Option.bind_eq_some_iff.mp H
                  obtain ⟨t144, A530, H⟩ := H
                  replace H : (if t144 = true then (some false) else ((descantlaw0_Num.f t119).bind fun t145 => (if t145 = 500 then ((descantlaw0_Num.f t131).bind fun t146 => (if t146 = 500 then ((descantlaw0_Num.f t141).bind fun t147 => (some (t147 == 500))) else (some false))) else (some false)))) = some true := H
                  have A53 := Aside0.mk A530
                  clear A530
                  by_cases c54 : t144 = true
                  · subst c54
                    have H1 : (some false) = some true := by rw [if_pos rfl] at H; exact H
                    clear H
                    have H := H1
                    clear H1
                    exact absurd H (by simp)
                  · replace c54 := Bool.eq_false_iff.mpr c54
                    subst c54
                    have H1 : ((descantlaw0_Num.f t119).bind fun t145 => (if t145 = 500 then ((descantlaw0_Num.f t131).bind fun t146 => (if t146 = 500 then ((descantlaw0_Num.f t141).bind fun t147 => (some (t147 == 500))) else (some false))) else (some false))) = some true := by rw [if_neg (show ¬ (false = true) by decide)] at H; exact H
                    clear H
                    have H := H1
                    clear H1
                    replace H := Option.bind_eq_some_iff.mp H
                    obtain ⟨t145, A550, H⟩ := H
                    replace H : (if t145 = 500 then ((descantlaw0_Num.f t131).bind fun t146 => (if t146 = 500 then ((descantlaw0_Num.f t141).bind fun t147 => (some (t147 == 500))) else (some false))) else (some false)) = some true := H
                    have A55 := Aside0.mk A550
                    clear A550
                    by_cases c56 : t145 = 500
                    · rw [if_pos c56] at H
                      have c56b0 : (t145 == 500) = true := beq_iff_eq.mpr c56
                      have c56b1 : (t145 != 500) = false := bne_eq_false_iff_eq.mpr c56
                      clear c56
                      replace H := Option.bind_eq_some_iff.mp H
                      obtain ⟨t146, A570, H⟩ := H
                      replace H : (if t146 = 500 then ((descantlaw0_Num.f t141).bind fun t147 => (some (t147 == 500))) else (some false)) = some true := H
                      have A57 := Aside0.mk A570
                      clear A570
                      by_cases c58 : t146 = 500
                      · rw [if_pos c58] at H
                        have c58b0 : (t146 == 500) = true := beq_iff_eq.mpr c58
                        have c58b1 : (t146 != 500) = false := bne_eq_false_iff_eq.mpr c58
                        clear c58
                        replace H := Option.bind_eq_some_iff.mp H
                        obtain ⟨t147, A590, H⟩ := H
                        replace H : (some (t147 == 500)) = some true := H
                        have A59 := Aside0.mk A590
                        clear A590
                        have E_ := Option.some.inj H
                        clear H
                        have hnb60 := NB109_108.out
                        have hnc60 := NB108_109.out
                        have hcz61_0 : wc.cell? ⟨gb109, 0, none⟩ = some (.int .i64 x110000_5) := (blk_cell BK109.out 0).trans rfl
                        have hcz61_1 : wc.cell? ⟨gb109, 1, none⟩ = some (.int .i64 x110001_5) := (blk_cell BK109.out 1).trans rfl
                        have hcz61_2 : wc.cell? ⟨gb109, 2, none⟩ = some (.int .i64 x110002_5) := (blk_cell BK109.out 2).trans rfl
                        have hcz61_3 : wc.cell? ⟨gb109, 3, none⟩ = some (.string x110003_5) := (blk_cell BK109.out 3).trans rfl
                        have hcz61_4 : wc.cell? ⟨gb109, 4, none⟩ = some (.int .i64 x110004_5) := (blk_cell BK109.out 4).trans rfl
                        have hfz61_0 := blk_frozen BK109.out 0
                        have hfz61_1 := blk_frozen BK109.out 1
                        have hfz61_2 := blk_frozen BK109.out 2
                        have hfz61_3 := blk_frozen BK109.out 3
                        have hfz61_4 := blk_frozen BK109.out 4
                        try go_wp2_with (first | ((with_reducible refine gate_callee (f := 8) rfl ?_); refine goesL_ (some 78) rfl rfl Try.func8 (by kernel_rfl) rfl #[.agg #[.int .i64 x110000_5, .int .i64 x110001_5, .int .i64 x110002_5, .string x110003_5, .int .i64 x110004_5], .int .i64 9] rfl (by (try simp only [List.map_toArray, List.map_cons, List.map_nil]); first | done | rfl | (simp only [List.length_drop, List.length_take]; rfl)) ?_; (with_reducible refine (decoder_Bit.calls x110000_5 x110001_5 x110002_5 x110003_5 x110004_5 9 t113 t114 t115 t116 t117 t118 t119 _ A43.out).mono ?_); rintro e w62 ⟨rfl, hb⟩; refine ⟨_, rfl, ?_⟩; have n0_ := Aside0.mk (blk_below (g := gb108) (o := .cells #[.int .i64 t102, .int .i64 t103, .int .i64 t104, .string t105, .int .i64 t106] 23 (0, 0)) (by (with_reducible repeat (first | refine blk_drewN ?_ _ | refine blk_drew ?_ | refine blk_alloc ?_ _)); exact BK108.out) hb); have n1_ := Aside0.mk (blk_below (g := gb109) (o := .cells #[.int .i64 x110000_5, .int .i64 x110001_5, .int .i64 x110002_5, .string x110003_5, .int .i64 x110004_5] 23 (0, 0)) (by (with_reducible repeat (first | refine blk_drewN ?_ _ | refine blk_drew ?_ | refine blk_alloc ?_ _)); exact BK109.out) hb); have n2_ := Aside0.mk (below_step (by repeat (first | (with_reducible first | exact HB.out | apply below_alloc | apply pw_below_drewN | apply below_drew1 | refine below_set ?_ GE108.out | refine below_set ?_ GE109.out) | exact HB.out)) hb); clear BK108; clear BK109; clear HB; have BK108 := n0_; have BK109 := n1_; have HB := n2_; clear n0_ n1_ n2_; (try clear hb); (try clear hb2); (try clear hk); (try clear hi)) | ((with_reducible refine gate_dst (N := 9) rfl ?_); refine box_event ?hg (N := 9) ?hd (cs := #[.int .i64 0, .int .i64 0, .int .i64 0, .string (⟨#[]⟩ : ByteArray), .int .i64 0]) (t := 23) ?hr ?_; (case hd => rfl); (case hg => rfl); (case hr => first | (go_simp; done) | (go_simp; rfl)); intro gb120 hg w63 hbox hb; have n0_ := Aside0.mk (blk_below (g := gb108) (o := .cells #[.int .i64 t102, .int .i64 t103, .int .i64 t104, .string t105, .int .i64 t106] 23 (0, 0)) (by (with_reducible repeat (first | refine blk_drewN ?_ _ | refine blk_drew ?_ | refine blk_alloc ?_ _)); exact BK108.out) hb); have n1_ := Aside0.mk (blk_below (g := gb109) (o := .cells #[.int .i64 x110000_5, .int .i64 x110001_5, .int .i64 x110002_5, .string x110003_5, .int .i64 x110004_5] 23 (0, 0)) (by (with_reducible repeat (first | refine blk_drewN ?_ _ | refine blk_drew ?_ | refine blk_alloc ?_ _)); exact BK109.out) hb); have n2_ := Aside0.mk (below_step (by repeat (first | (with_reducible first | exact HB.out | apply below_alloc | apply pw_below_drewN | apply below_drew1 | refine below_set ?_ GE108.out | refine below_set ?_ GE109.out) | exact HB.out)) hb); have n3_ := Aside0.mk (hbox); have n4_ := Aside0.mk ((by rw [hg]; exact (below_size (by repeat (first | (with_reducible first | exact HB.out | apply below_alloc | apply pw_below_drewN | apply below_drew1 | refine below_set ?_ GE108.out | refine below_set ?_ GE109.out) | exact HB.out))) : w.heap.size ≤ gb120)); have n5_ := Aside0.mk ((by rw [hg]; exact (below_size (by repeat (first | (with_reducible first | exact HB.out | apply below_alloc | apply pw_below_drewN | apply below_drew1 | refine below_set ?_ GE108.out | refine below_set ?_ GE109.out) | exact HB.out))) : w.heap.size ≤ gb120)); have n6_ := Aside0.mk ((by rw [hg]; exact Nat.ne_of_lt (blk_lt (g := gb108) (o := .cells #[.int .i64 t102, .int .i64 t103, .int .i64 t104, .string t105, .int .i64 t106] 23 (0, 0)) (by (with_reducible repeat (first | refine blk_drewN ?_ _ | refine blk_drew ?_ | refine blk_alloc ?_ _)); exact BK108.out)) : gb108 ≠ gb120)); have n7_ := Aside0.mk ((by rw [hg]; exact Nat.ne_of_gt (blk_lt (g := gb108) (o := .cells #[.int .i64 t102, .int .i64 t103, .int .i64 t104, .string t105, .int .i64 t106] 23 (0, 0)) (by (with_reducible repeat (first | refine blk_drewN ?_ _ | refine blk_drew ?_ | refine blk_alloc ?_ _)); exact BK108.out)) : gb120 ≠ gb108)); have n8_ := Aside0.mk ((by rw [hg]; exact Nat.ne_of_lt (blk_lt (g := gb109) (o := .cells #[.int .i64 x110000_5, .int .i64 x110001_5, .int .i64 x110002_5, .string x110003_5, .int .i64 x110004_5] 23 (0, 0)) (by (with_reducible repeat (first | refine blk_drewN ?_ _ | refine blk_drew ?_ | refine blk_alloc ?_ _)); exact BK109.out)) : gb109 ≠ gb120)); have n9_ := Aside0.mk ((by rw [hg]; exact Nat.ne_of_gt (blk_lt (g := gb109) (o := .cells #[.int .i64 x110000_5, .int .i64 x110001_5, .int .i64 x110002_5, .string x110003_5, .int .i64 x110004_5] 23 (0, 0)) (by (with_reducible repeat (first | refine blk_drewN ?_ _ | refine blk_drew ?_ | refine blk_alloc ?_ _)); exact BK109.out)) : gb120 ≠ gb109)); clear BK108; clear BK109; clear HB; have BK108 := n0_; have BK109 := n1_; have HB := n2_; have BK120 := n3_; have GW120 := n4_; have GE120 := n5_; have NB108_120 := n6_; have NB120_108 := n7_; have NB109_120 := n8_; have NB120_109 := n9_; clear n0_ n1_ n2_ n3_ n4_ n5_ n6_ n7_ n8_ n9_; clear hb hbox hg; have hnb64 := NB120_108.out; have hnc64 := NB108_120.out; have hnb65 := NB120_109.out; have hnc65 := NB109_120.out; have hcz66_0 : w63.cell? ⟨gb120, 0, none⟩ = some (.int .i64 0) := (blk_cell BK120.out 0).trans rfl; have hcz66_1 : w63.cell? ⟨gb120, 1, none⟩ = some (.int .i64 0) := (blk_cell BK120.out 1).trans rfl; have hcz66_2 : w63.cell? ⟨gb120, 2, none⟩ = some (.int .i64 0) := (blk_cell BK120.out 2).trans rfl; have hcz66_3 : w63.cell? ⟨gb120, 3, none⟩ = some (.string (⟨#[]⟩ : ByteArray)) := (blk_cell BK120.out 3).trans rfl; have hcz66_4 : w63.cell? ⟨gb120, 4, none⟩ = some (.int .i64 0) := (blk_cell BK120.out 4).trans rfl; have hfz66_0 := blk_frozen BK120.out 0; have hfz66_1 := blk_frozen BK120.out 1; have hfz66_2 := blk_frozen BK120.out 2; have hfz66_3 := blk_frozen BK120.out 3; have hfz66_4 := blk_frozen BK120.out 4))
                        have pi124 : (0 ≤ ((Go.bits .and .i64 a0 1) : Int)) = True := eq_true (of_decide_eq_true (by first | (with_reducible assumption) | assumption))
                        have qi124 : ((Go.bits .and .i64 a0 1) < (y121.length : Int)) = True := eq_true (of_decide_eq_true (by first | (with_reducible assumption) | assumption))
                        have n0_ : Aside0 ((((((w63.setCell ⟨gb120, 0, none⟩ (.int .i64 t113)).setCell ⟨gb120, 1, none⟩ (.int .i64 t114)).setCell ⟨gb120, 2, none⟩ (.int .i64 t115)).setCell ⟨gb120, 3, none⟩ (.string t116)).setCell ⟨gb120, 4, none⟩ (.int .i64 t117)).heap[gb108]? = some (.cells #[.int .i64 t102, .int .i64 t103, .int .i64 t104, .string t105, .int .i64 t106] 23 (0, 0))) := ⟨by (with_reducible repeat (first | refine blk_drewN ?_ _ | refine blk_drew ?_ | refine blk_alloc ?_ _)); refine blk_far ?_ NB108_120.out _; (with_reducible repeat (first | refine blk_drewN ?_ _ | refine blk_drew ?_ | refine blk_alloc ?_ _)); refine blk_far ?_ NB108_120.out _; (with_reducible repeat (first | refine blk_drewN ?_ _ | refine blk_drew ?_ | refine blk_alloc ?_ _)); refine blk_far ?_ NB108_120.out _; (with_reducible repeat (first | refine blk_drewN ?_ _ | refine blk_drew ?_ | refine blk_alloc ?_ _)); refine blk_far ?_ NB108_120.out _; (with_reducible repeat (first | refine blk_drewN ?_ _ | refine blk_drew ?_ | refine blk_alloc ?_ _)); refine blk_far ?_ NB108_120.out _; (with_reducible repeat (first | refine blk_drewN ?_ _ | refine blk_drew ?_ | refine blk_alloc ?_ _)); exact BK108.out⟩
                        have n1_ : Aside0 ((((((w63.setCell ⟨gb120, 0, none⟩ (.int .i64 t113)).setCell ⟨gb120, 1, none⟩ (.int .i64 t114)).setCell ⟨gb120, 2, none⟩ (.int .i64 t115)).setCell ⟨gb120, 3, none⟩ (.string t116)).setCell ⟨gb120, 4, none⟩ (.int .i64 t117)).heap[gb109]? = some (.cells #[.int .i64 x110000_5, .int .i64 x110001_5, .int .i64 x110002_5, .string x110003_5, .int .i64 x110004_5] 23 (0, 0))) := ⟨by (with_reducible repeat (first | refine blk_drewN ?_ _ | refine blk_drew ?_ | refine blk_alloc ?_ _)); refine blk_far ?_ NB109_120.out _; (with_reducible repeat (first | refine blk_drewN ?_ _ | refine blk_drew ?_ | refine blk_alloc ?_ _)); refine blk_far ?_ NB109_120.out _; (with_reducible repeat (first | refine blk_drewN ?_ _ | refine blk_drew ?_ | refine blk_alloc ?_ _)); refine blk_far ?_ NB109_120.out _; (with_reducible repeat (first | refine blk_drewN ?_ _ | refine blk_drew ?_ | refine blk_alloc ?_ _)); refine blk_far ?_ NB109_120.out _; (with_reducible repeat (first | refine blk_drewN ?_ _ | refine blk_drew ?_ | refine blk_alloc ?_ _)); refine blk_far ?_ NB109_120.out _; (with_reducible repeat (first | refine blk_drewN ?_ _ | refine blk_drew ?_ | refine blk_alloc ?_ _)); exact BK109.out⟩
                        have n2_ : Aside0 ((((((w63.setCell ⟨gb120, 0, none⟩ (.int .i64 t113)).setCell ⟨gb120, 1, none⟩ (.int .i64 t114)).setCell ⟨gb120, 2, none⟩ (.int .i64 t115)).setCell ⟨gb120, 3, none⟩ (.string t116)).setCell ⟨gb120, 4, none⟩ (.int .i64 t117)).heap[gb120]? = some (.cells #[.int .i64 t113, .int .i64 t114, .int .i64 t115, .string t116, .int .i64 t117] 23 (0, 0))) := ⟨by (with_reducible repeat (first | refine blk_drewN ?_ _ | refine blk_drew ?_ | refine blk_alloc ?_ _)); refine blk_put (cs := #[.int .i64 t113, .int .i64 t114, .int .i64 t115, .string t116, .int .i64 0]) ?_ 4 _ rfl; (with_reducible repeat (first | refine blk_drewN ?_ _ | refine blk_drew ?_ | refine blk_alloc ?_ _)); refine blk_put (cs := #[.int .i64 t113, .int .i64 t114, .int .i64 t115, .string (⟨#[]⟩ : ByteArray), .int .i64 0]) ?_ 3 _ rfl; (with_reducible repeat (first | refine blk_drewN ?_ _ | refine blk_drew ?_ | refine blk_alloc ?_ _)); refine blk_put (cs := #[.int .i64 t113, .int .i64 t114, .int .i64 0, .string (⟨#[]⟩ : ByteArray), .int .i64 0]) ?_ 2 _ rfl; (with_reducible repeat (first | refine blk_drewN ?_ _ | refine blk_drew ?_ | refine blk_alloc ?_ _)); refine blk_put (cs := #[.int .i64 t113, .int .i64 0, .int .i64 0, .string (⟨#[]⟩ : ByteArray), .int .i64 0]) ?_ 1 _ rfl; (with_reducible repeat (first | refine blk_drewN ?_ _ | refine blk_drew ?_ | refine blk_alloc ?_ _)); refine blk_put (cs := #[.int .i64 0, .int .i64 0, .int .i64 0, .string (⟨#[]⟩ : ByteArray), .int .i64 0]) ?_ 0 _ rfl; (with_reducible repeat (first | refine blk_drewN ?_ _ | refine blk_drew ?_ | refine blk_alloc ?_ _)); exact BK120.out⟩
                        have n3_ : Aside0 (Below w.heap.size w (((((w63.setCell ⟨gb120, 0, none⟩ (.int .i64 t113)).setCell ⟨gb120, 1, none⟩ (.int .i64 t114)).setCell ⟨gb120, 2, none⟩ (.int .i64 t115)).setCell ⟨gb120, 3, none⟩ (.string t116)).setCell ⟨gb120, 4, none⟩ (.int .i64 t117))) := ⟨by repeat (first | (with_reducible first | exact HB.out | apply below_alloc | apply pw_below_drewN | apply below_drew1 | refine below_set ?_ GE108.out | refine below_set ?_ GE109.out | refine below_set ?_ GE120.out) | exact HB.out)⟩
                        (try clear BK108)
                        (try clear BK109)
                        (try clear BK120)
                        (try clear HB)
                        generalize (((((w63.setCell ⟨gb120, 0, none⟩ (.int .i64 t113)).setCell ⟨gb120, 1, none⟩ (.int .i64 t114)).setCell ⟨gb120, 2, none⟩ (.int .i64 t115)).setCell ⟨gb120, 3, none⟩ (.string t116)).setCell ⟨gb120, 4, none⟩ (.int .i64 t117)) = w67 at n0_ n1_ n2_ n3_ ⊢
                        have BK108 := n0_
                        have BK109 := n1_
                        have BK120 := n2_
                        have HB := n3_
                        clear n0_ n1_ n2_ n3_
                        have n0_ := Aside0.mk (blk_drew BK108.out)
                        have n1_ := Aside0.mk (blk_drew BK109.out)
                        have n2_ := Aside0.mk (blk_drew BK120.out)
                        have n3_ := Aside0.mk (below_drew1 HB.out)
                        clear BK108
                        clear BK109
                        clear BK120
                        clear HB
                        have BK108 := n0_
                        have BK109 := n1_
                        have BK120 := n2_
                        have HB := n3_
                        clear n0_ n1_ n2_ n3_
                        refine start_ (n := 19) (S := fun w' => w'.cell? ⟨gb108, 0, none⟩ = some (.int .i64 t102) ∧ w'.cell? ⟨gb108, 1, none⟩ = some (.int .i64 t103) ∧ w'.cell? ⟨gb108, 2, none⟩ = some (.int .i64 t104) ∧ w'.cell? ⟨gb108, 3, none⟩ = some (.string t105) ∧ w'.cell? ⟨gb108, 4, none⟩ = some (.int .i64 t106)) (ds := []) #[false, false, false, false, false, false, false, false, false, false, false, false, false, false, false, false, false, false, false] (by kernel_rfl) rfl rfl ⟨(blk_cell BK108.out 0).trans rfl, (blk_cell BK108.out 1).trans rfl, (blk_cell BK108.out 2).trans rfl, (blk_cell BK108.out 3).trans rfl, (blk_cell BK108.out 4).trans rfl⟩ (fun hHeld => ?_); refine with_tabW descantlaw5_DecoderForms.tab24 descantlaw5_DecoderForms.bits24 (fun HT_ HW_ => ?_)
                        generalize w67.drew = w68 at BK108 BK109 BK120 HB hHeld ⊢
                        refine pure_ (i := 1) (N := some 84) (v := ?_) (a' := ?_) #[false, true, false, false, false, false, false, false, false, false, false, false, false, false, false, false, false, false, false] rfl rfl (any_of HT_.out (by kernel_rfl)) (fun _ _ _ h => h) (Or.inl ⟨by rfl, ?_⟩) ?_ ?_
                        rotate_left
                        · intro w'
                          go_simp
                          with_reducible rfl
                        rotate_left
                        · simp only [Act.put, List.setIfInBounds_toArray, List.set_cons_zero, List.set_cons_succ, i64_w, i32_w]
                          rfl
                        refine pure_ (i := 2) (N := some 85) (v := ?_) (a' := ?_) #[false, true, true, false, false, false, false, false, false, false, false, false, false, false, false, false, false, false, false] rfl rfl (any_of HT_.out (by kernel_rfl)) (fun _ _ _ h => h) (Or.inl ⟨by rfl, ?_⟩) ?_ ?_
                        rotate_left
                        · intro w'
                          go_simp
                          with_reducible rfl
                        rotate_left
                        · simp only [Act.put, List.setIfInBounds_toArray, List.set_cons_zero, List.set_cons_succ, i64_w, i32_w]
                          rfl
                        refine pure_ (i := 3) (N := some 86) (v := ?_) (a' := ?_) #[false, true, true, true, false, false, false, false, false, false, false, false, false, false, false, false, false, false, false] rfl rfl (any_of HT_.out (by kernel_rfl)) (fun _ _ _ h => h) (Or.inl ⟨by rfl, ?_⟩) ?_ ?_
                        rotate_left
                        · intro w'
                          go_simp
                          with_reducible rfl
                        rotate_left
                        · simp only [Act.put, List.setIfInBounds_toArray, List.set_cons_zero, List.set_cons_succ, i64_w, i32_w]
                          rfl
                        refine pure_ (i := 4) (N := some 87) (v := ?_) (a' := ?_) #[false, true, true, true, true, false, false, false, false, false, false, false, false, false, false, false, false, false, false] rfl rfl (any_of HT_.out (by kernel_rfl)) (fun _ _ _ h => h) (Or.inl ⟨by rfl, ?_⟩) ?_ ?_
                        rotate_left
                        · intro w'
                          go_simp
                          with_reducible rfl
                        rotate_left
                        · simp only [Act.put, List.setIfInBounds_toArray, List.set_cons_zero, List.set_cons_succ, i64_w, i32_w]
                          rfl
                        refine pure_ (i := 6) (N := some 89) (v := ?_) (a' := ?_) #[false, true, true, true, true, false, true, false, false, false, false, false, false, false, false, false, false, false, false] rfl rfl (any_of HT_.out (by kernel_rfl)) (fun _ _ _ h => h) (Or.inl ⟨by rfl, ?_⟩) ?_ ?_
                        rotate_left
                        · intro w'
                          go_simp
                          with_reducible rfl
                        rotate_left
                        · simp only [Act.put, List.setIfInBounds_toArray, List.set_cons_zero, List.set_cons_succ, i64_w, i32_w]
                          rfl
                        refine pure_ (i := 7) (N := some 90) (v := ?_) (a' := ?_) #[false, true, true, true, true, false, true, true, false, false, false, false, false, false, false, false, false, false, false] rfl rfl (any_of HT_.out (by kernel_rfl)) (fun _ _ _ h => h) (Or.inl ⟨by rfl, ?_⟩) ?_ ?_
                        rotate_left
                        · intro w'
                          go_simp
                          with_reducible rfl
                        rotate_left
                        · simp only [Act.put, List.setIfInBounds_toArray, List.set_cons_zero, List.set_cons_succ, i64_w, i32_w]
                          rfl
                        refine take_ (i := 0) (N := some 83) (v := ?_) (a' := ?_) #[true, true, true, true, true, false, true, true, false, false, false, false, false, false, false, false, false, false, false] rfl rfl (take_ofW HT_.out HW_.out (by kernel_rfl)) (fun _ _ _ h => h) (Or.inl ⟨by rfl, ?_⟩) hHeld ?_ ?_
                        rotate_left
                        · rintro w' ⟨s0, s1, s2, s3, s4⟩
                          go_simp
                          with_reducible rfl
                        rotate_left
                        · simp only [Act.put, List.setIfInBounds_toArray, List.set_cons_zero, List.set_cons_succ, i64_w, i32_w]
                          rfl
                        refine join_ (σ := Value × Addr × Nat) 3 #[true, true, true, true, true, true, true, true, true, true, true, true, true, true, true, true, false, false, false] (fun s_ => [(88, s_.1), (92, .int .i64 (rd y121 (Go.bits .and .i64 a0 1))), (93, .tuple #[.agg #[.int .i64 t125, .int .i64 t126, .int .i64 t127, .string t128, .int .i64 t129], .int .i64 t130, .int .i64 t131]), (12, .pointer (some ⟨s_.2.2, 0, none⟩)), (91, .pointer (some (s_.2.1.add ((Go.bits .and .i64 a0 1)).toNat))), (82, .tuple #[.agg #[.int .i64 t125, .int .i64 t126, .int .i64 t127, .string t128, .int .i64 t129], .int .i64 t130, .int .i64 t131]), (94, .agg #[.int .i64 t125, .int .i64 t126, .int .i64 t127, .string t128, .int .i64 t129]), (95, .int .i64 t130), (96, .int .i64 t131)]) (fun s_ w' => (w'.cell? ⟨gb108, 0, none⟩ = some (.int .i64 t102) ∧ w'.cell? ⟨gb108, 1, none⟩ = some (.int .i64 t103) ∧ w'.cell? ⟨gb108, 2, none⟩ = some (.int .i64 t104) ∧ w'.cell? ⟨gb108, 3, none⟩ = some (.string t105) ∧ w'.cell? ⟨gb108, 4, none⟩ = some (.int .i64 t106)) ∧ (Kd.R (Kd.int .i64) 3 w' w.heap.size (fun _ => True) s_.1 y121) ∧ (∃ c_, (s_.1 : Value) = .slice (some s_.2.1) y121.length c_) ∧ (w'.heap[gb108]? = some (.cells #[.int .i64 t102, .int .i64 t103, .int .i64 t104, .string t105, .int .i64 t106] 23 (0, 0))) ∧ (w'.heap[gb109]? = some (.cells #[.int .i64 x110000_5, .int .i64 x110001_5, .int .i64 x110002_5, .string x110003_5, .int .i64 x110004_5] 23 (0, 0))) ∧ (w'.heap[gb120]? = some (.cells #[.int .i64 t113, .int .i64 t114, .int .i64 t115, .string t116, .int .i64 t117] 23 (0, 0))) ∧ (w'.heap[s_.2.2]? = some (.cells #[.int .i64 0, .int .i64 0, .int .i64 0, .string (⟨#[]⟩ : ByteArray), .int .i64 0] 23 (0, 0))) ∧ (w.heap.size ≤ s_.2.2) ∧ (w.heap.size ≤ s_.2.2) ∧ (gb108 ≠ s_.2.2) ∧ (s_.2.2 ≠ gb108) ∧ (gb109 ≠ s_.2.2) ∧ (s_.2.2 ≠ gb109) ∧ (gb120 ≠ s_.2.2) ∧ (s_.2.2 ≠ gb120) ∧ (Below w.heap.size w w')) ?_ ?_
                        rotate_left
                        · intro hCont
                          refine two_ (i := 5) (j := 15) (Ni := some 88) (Nj := some 12) #[true, true, true, true, true, true, true, true, false, false, false, false, false, false, false, false, false, false, false] #[true, true, true, true, true, false, true, true, false, false, false, false, false, false, false, true, false, false, false] rfl rfl rfl rfl (two_of HT_.out (by kernel_rfl)) (by decide) (by decide) (fun K hK => ?_) (fun K hK => ?_)
                          · skip
                            refine Kd.R_lit_step (Kd.int .i64) _ 3 ?hg (N := 88) ?hd (xs := ([wrap64 (1 - (wrap64 (1 + (Go.bits .and .i64 a1 1023)))), wrap64 (4095 + (wrap64 (1 + (Go.bits .and .i64 a1 1023))))] : List Int)) (inner := [.int .i64 (wrap64 (1 - (wrap64 (1 + (Go.bits .and .i64 a1 1023))))), .int .i64 (wrap64 (4095 + (wrap64 (1 + (Go.bits .and .i64 a1 1023)))))]) (ok := fun _ => True) (okp := fun _ => True) ?hr ?hp (fun _ hk => hk) trivial (Below.refl _ _) (Nat.le_refl _) (by simp) ?_; (case hd => rfl); (case hg => rfl); (case hr => first | (go_simp; done) | (go_simp; rfl)); (case hp => exact (Reps.one (show Kd.M (Kd.int .i64) _ _ _ (wrap64 (1 - (wrap64 (1 + (Go.bits .and .i64 a1 1023))))) [.int .i64 (wrap64 (1 - (wrap64 (1 + (Go.bits .and .i64 a1 1023)))))] from rfl) (Reps.one (show Kd.M (Kd.int .i64) _ _ _ (wrap64 (4095 + (wrap64 (1 + (Go.bits .and .i64 a1 1023))))) [.int .i64 (wrap64 (4095 + (wrap64 (1 + (Go.bits .and .i64 a1 1023)))))] from rfl) (Reps.none _ _))))
                            intro v122 w69 ho70 hb hg_ hnew_
                            clear hg_ hnew_
                            (first | rw [← Ny121.out] at ho70 | (simp only [Int.reduceToNat] at ho70; rw [← Ny121.out] at ho70))
                            have n0_ := Aside0.mk (Kd.R_lower ho70 (below_size (by repeat (first | (with_reducible first | exact HB.out | apply below_alloc | apply pw_below_drewN | apply below_drew1 | refine below_set ?_ GE108.out | refine below_set ?_ GE109.out | refine below_set ?_ GE120.out) | exact HB.out))))
                            have n1_ := Aside0.mk (blk_below (g := gb108) (o := .cells #[.int .i64 t102, .int .i64 t103, .int .i64 t104, .string t105, .int .i64 t106] 23 (0, 0)) (by (with_reducible repeat (first | refine blk_drewN ?_ _ | refine blk_drew ?_ | refine blk_alloc ?_ _)); exact BK108.out) hb)
                            have n2_ := Aside0.mk (blk_below (g := gb109) (o := .cells #[.int .i64 x110000_5, .int .i64 x110001_5, .int .i64 x110002_5, .string x110003_5, .int .i64 x110004_5] 23 (0, 0)) (by (with_reducible repeat (first | refine blk_drewN ?_ _ | refine blk_drew ?_ | refine blk_alloc ?_ _)); exact BK109.out) hb)
                            have n3_ := Aside0.mk (blk_below (g := gb120) (o := .cells #[.int .i64 t113, .int .i64 t114, .int .i64 t115, .string t116, .int .i64 t117] 23 (0, 0)) (by (with_reducible repeat (first | refine blk_drewN ?_ _ | refine blk_drew ?_ | refine blk_alloc ?_ _)); exact BK120.out) hb)
                            have n4_ := Aside0.mk (below_step (by repeat (first | (with_reducible first | exact HB.out | apply below_alloc | apply pw_below_drewN | apply below_drew1 | refine below_set ?_ GE108.out | refine below_set ?_ GE109.out | refine below_set ?_ GE120.out) | exact HB.out)) hb)
                            clear BK108
                            clear BK109
                            clear BK120
                            clear HB
                            have HO123 := n0_
                            have BK108 := n1_
                            have BK109 := n2_
                            have BK120 := n3_
                            have HB := n4_
                            clear n0_ n1_ n2_ n3_ n4_
                            clear hb ho70
                            obtain ⟨Ao71, co71, eo71⟩ := Kd.R_slice HO123.out
                            subst eo71
                            obtain ⟨ado71, fo71, _⟩ := Kd.at_int (Kd.R_reads' HO123.out).2.2 0 (by decide) (by rw [Ny121.out]; simp)
                            cases fo71
                            refine hK.out _ _ ⟨(blk_cell BK108.out 0).trans rfl, (blk_cell BK108.out 1).trans rfl, (blk_cell BK108.out 2).trans rfl, (blk_cell BK108.out 3).trans rfl, (blk_cell BK108.out 4).trans rfl⟩ (fun hHeld => ?_)
                            clear hK K
                            refine norm_ (a' := ?_) ?_ ?_
                            rotate_left
                            · show Act.put _ (some 88) _ = _
                              simp only [Act.put, List.setIfInBounds_toArray, List.set_cons_zero, List.set_cons_succ, i64_w, i32_w]
                              rfl
                            refine pure_ (i := 8) (N := some 91) (v := ?_) (a' := ?_) #[true, true, true, true, true, true, true, true, true, false, false, false, false, false, false, false, false, false, false] rfl rfl (any_of HT_.out (by kernel_rfl)) (fun _ _ _ h => h) (Or.inl ⟨by rfl, ?_⟩) ?_ ?_
                            rotate_left
                            · intro w'
                              go_simp
                              with_reducible rfl
                            rotate_left
                            · simp only [Act.put, List.setIfInBounds_toArray, List.set_cons_zero, List.set_cons_succ, i64_w, i32_w]
                              rfl
                            refine two_ (i := 9) (j := 15) (Ni := some 92) (Nj := some 12) #[true, true, true, true, true, true, true, true, true, true, false, false, false, false, false, false, false, false, false] #[true, true, true, true, true, true, true, true, true, false, false, false, false, false, false, true, false, false, false] rfl rfl rfl rfl (two_of HT_.out (by kernel_rfl)) (by decide) (by decide) (fun K hK => ?_) (fun K hK => ?_)
                            · skip
                              (have p124 : 0 ≤ ((Go.bits .and .i64 a0 1) : Int) := of_decide_eq_true (by first | (with_reducible assumption) | assumption); have q124 : (Go.bits .and .i64 a0 1) < (y121.length : Int) := of_decide_eq_true (by first | (with_reducible assumption) | assumption); obtain ⟨ad124, e124, hx124_0⟩ := Kd.at_int (Kd.R_reads' HO123.out).2.2 (Go.bits .and .i64 a0 1) p124 q124; obtain rfl : ado71 = ad124 := (by injection e124))
                              refine value_ (w1 := ?_) (v := ?_) (by rfl) rfl ?_ ?_
                              rotate_left 2
                              · go_simp
                                constructor
                                · rfl
                                · rfl
                              clear hx124_0
                              refine hK.out _ _ ⟨(blk_cell BK108.out 0).trans rfl, (blk_cell BK108.out 1).trans rfl, (blk_cell BK108.out 2).trans rfl, (blk_cell BK108.out 3).trans rfl, (blk_cell BK108.out 4).trans rfl⟩ (fun hHeld => ?_)
                              clear hK K
                              refine norm_ (a' := ?_) ?_ ?_
                              rotate_left
                              · show Act.put _ (some 92) _ = _
                                simp only [Act.put, List.setIfInBounds_toArray, List.set_cons_zero, List.set_cons_succ, i64_w, i32_w]
                                rfl
                              refine two_ (i := 10) (j := 15) (Ni := some 93) (Nj := some 12) #[true, true, true, true, true, true, true, true, true, true, true, false, false, false, false, false, false, false, false] #[true, true, true, true, true, true, true, true, true, true, false, false, false, false, false, true, false, false, false] rfl rfl rfl rfl (two_of HT_.out (by kernel_rfl)) (by decide) (by decide) (fun K hK => ?_) (fun K hK => ?_)
                              · skip
                                refine goes_ Try.func8 (by kernel_rfl) rfl #[.agg #[.int .i64 t102, .int .i64 t103, .int .i64 t104, .string t105, .int .i64 t106], .int .i64 (rd y121 (Go.bits .and .i64 a0 1))] (by rfl) rfl rfl (by (try simp only [List.map_toArray, List.map_cons, List.map_nil]); first | done | rfl | (simp only [List.length_drop, List.length_take]; rfl)) ?_
                                with_reducible refine (decoder_Bit.calls t102 t103 t104 t105 t106 (rd y121 (Go.bits .and .i64 a0 1)) t125 t126 t127 t128 t129 t130 t131 _ A46.out).mono ?_
                                rintro e w72 ⟨rfl, hb⟩
                                refine ⟨_, rfl, ?_⟩
                                have n0_ := Aside0.mk (Kd.R_below (by (with_reducible repeat (first | apply Kd.R_alloc | apply Kd.R_drewN | apply Kd.R_drew)); exact HO123.out) hb)
                                have n1_ := Aside0.mk (blk_below (g := gb108) (o := .cells #[.int .i64 t102, .int .i64 t103, .int .i64 t104, .string t105, .int .i64 t106] 23 (0, 0)) (by (with_reducible repeat (first | refine blk_drewN ?_ _ | refine blk_drew ?_ | refine blk_alloc ?_ _)); exact BK108.out) hb)
                                have n2_ := Aside0.mk (blk_below (g := gb109) (o := .cells #[.int .i64 x110000_5, .int .i64 x110001_5, .int .i64 x110002_5, .string x110003_5, .int .i64 x110004_5] 23 (0, 0)) (by (with_reducible repeat (first | refine blk_drewN ?_ _ | refine blk_drew ?_ | refine blk_alloc ?_ _)); exact BK109.out) hb)
                                have n3_ := Aside0.mk (blk_below (g := gb120) (o := .cells #[.int .i64 t113, .int .i64 t114, .int .i64 t115, .string t116, .int .i64 t117] 23 (0, 0)) (by (with_reducible repeat (first | refine blk_drewN ?_ _ | refine blk_drew ?_ | refine blk_alloc ?_ _)); exact BK120.out) hb)
                                have n4_ := Aside0.mk (below_step (by repeat (first | (with_reducible first | exact HB.out | apply below_alloc | apply pw_below_drewN | apply below_drew1 | refine below_set ?_ GE108.out | refine below_set ?_ GE109.out | refine below_set ?_ GE120.out) | exact HB.out)) hb)
                                clear HO123
                                clear BK108
                                clear BK109
                                clear BK120
                                clear HB
                                have HO123 := n0_
                                have BK108 := n1_
                                have BK109 := n2_
                                have BK120 := n3_
                                have HB := n4_
                                clear n0_ n1_ n2_ n3_ n4_
                                (try clear hb)
                                (try clear hb2)
                                (try clear hk)
                                (try clear hi)
                                refine hK.out _ _ ⟨(blk_cell BK108.out 0).trans rfl, (blk_cell BK108.out 1).trans rfl, (blk_cell BK108.out 2).trans rfl, (blk_cell BK108.out 3).trans rfl, (blk_cell BK108.out 4).trans rfl⟩ (fun hHeld => ?_)
                                clear hK K
                                refine norm_ (a' := ?_) ?_ ?_
                                rotate_left
                                · show Act.put _ (some 93) _ = _
                                  simp only [Act.put, List.setIfInBounds_toArray, List.set_cons_zero, List.set_cons_succ, i64_w, i32_w]
                                  rfl
                                refine pure_ (i := 11) (N := some 82) (v := ?_) (a' := ?_) #[true, true, true, true, true, true, true, true, true, true, true, true, false, false, false, false, false, false, false] rfl rfl (any_of HT_.out (by kernel_rfl)) (fun _ _ _ h => h) (Or.inl ⟨by rfl, ?_⟩) ?_ ?_
                                rotate_left
                                · intro w'
                                  go_simp
                                  with_reducible rfl
                                rotate_left
                                · simp only [Act.put, List.setIfInBounds_toArray, List.set_cons_zero, List.set_cons_succ, i64_w, i32_w]
                                  rfl
                                refine pure_ (i := 12) (N := some 94) (v := ?_) (a' := ?_) #[true, true, true, true, true, true, true, true, true, true, true, true, true, false, false, false, false, false, false] rfl rfl (any_of HT_.out (by kernel_rfl)) (fun _ _ _ h => h) (Or.inl ⟨by rfl, ?_⟩) ?_ ?_
                                rotate_left
                                · intro w'
                                  go_simp
                                  with_reducible rfl
                                rotate_left
                                · simp only [Act.put, List.setIfInBounds_toArray, List.set_cons_zero, List.set_cons_succ, i64_w, i32_w]
                                  rfl
                                refine pure_ (i := 13) (N := some 95) (v := ?_) (a' := ?_) #[true, true, true, true, true, true, true, true, true, true, true, true, true, true, false, false, false, false, false] rfl rfl (any_of HT_.out (by kernel_rfl)) (fun _ _ _ h => h) (Or.inl ⟨by rfl, ?_⟩) ?_ ?_
                                rotate_left
                                · intro w'
                                  go_simp
                                  with_reducible rfl
                                rotate_left
                                · simp only [Act.put, List.setIfInBounds_toArray, List.set_cons_zero, List.set_cons_succ, i64_w, i32_w]
                                  rfl
                                refine pure_ (i := 14) (N := some 96) (v := ?_) (a' := ?_) #[true, true, true, true, true, true, true, true, true, true, true, true, true, true, true, false, false, false, false] rfl rfl (any_of HT_.out (by kernel_rfl)) (fun _ _ _ h => h) (Or.inl ⟨by rfl, ?_⟩) ?_ ?_
                                rotate_left
                                · intro w'
                                  go_simp
                                  with_reducible rfl
                                rotate_left
                                · simp only [Act.put, List.setIfInBounds_toArray, List.set_cons_zero, List.set_cons_succ, i64_w, i32_w]
                                  rfl
                                refine one_ (i := 15) (N := some 12) #[true, true, true, true, true, true, true, true, true, true, true, true, true, true, true, true, false, false, false] rfl rfl (one_of HT_.out (by kernel_rfl)) (by decide) (fun K hK => ?_)
                                refine box_step ?hg (N := 12) ?hd (cs := #[.int .i64 0, .int .i64 0, .int .i64 0, .string (⟨#[]⟩ : ByteArray), .int .i64 0]) (t := 23) ?hr ?_; (case hd => rfl); (case hg => rfl); (case hr => first | (go_simp; done) | (go_simp; rfl))
                                intro gb132 hg w73 hbox hb
                                have n0_ := Aside0.mk (Kd.R_below (by (with_reducible repeat (first | apply Kd.R_alloc | apply Kd.R_drewN | apply Kd.R_drew)); exact HO123.out) hb)
                                have n1_ := Aside0.mk (blk_below (g := gb108) (o := .cells #[.int .i64 t102, .int .i64 t103, .int .i64 t104, .string t105, .int .i64 t106] 23 (0, 0)) (by (with_reducible repeat (first | refine blk_drewN ?_ _ | refine blk_drew ?_ | refine blk_alloc ?_ _)); exact BK108.out) hb)
                                have n2_ := Aside0.mk (blk_below (g := gb109) (o := .cells #[.int .i64 x110000_5, .int .i64 x110001_5, .int .i64 x110002_5, .string x110003_5, .int .i64 x110004_5] 23 (0, 0)) (by (with_reducible repeat (first | refine blk_drewN ?_ _ | refine blk_drew ?_ | refine blk_alloc ?_ _)); exact BK109.out) hb)
                                have n3_ := Aside0.mk (blk_below (g := gb120) (o := .cells #[.int .i64 t113, .int .i64 t114, .int .i64 t115, .string t116, .int .i64 t117] 23 (0, 0)) (by (with_reducible repeat (first | refine blk_drewN ?_ _ | refine blk_drew ?_ | refine blk_alloc ?_ _)); exact BK120.out) hb)
                                have n4_ := Aside0.mk (below_step (by repeat (first | (with_reducible first | exact HB.out | apply below_alloc | apply pw_below_drewN | apply below_drew1 | refine below_set ?_ GE108.out | refine below_set ?_ GE109.out | refine below_set ?_ GE120.out) | exact HB.out)) hb)
                                have n5_ := Aside0.mk (hbox)
                                have n6_ := Aside0.mk ((by rw [hg]; exact (below_size (by repeat (first | (with_reducible first | exact HB.out | apply below_alloc | apply pw_below_drewN | apply below_drew1 | refine below_set ?_ GE108.out | refine below_set ?_ GE109.out | refine below_set ?_ GE120.out) | exact HB.out))) : w.heap.size ≤ gb132))
                                have n7_ := Aside0.mk ((by rw [hg]; exact (below_size (by repeat (first | (with_reducible first | exact HB.out | apply below_alloc | apply pw_below_drewN | apply below_drew1 | refine below_set ?_ GE108.out | refine below_set ?_ GE109.out | refine below_set ?_ GE120.out) | exact HB.out))) : w.heap.size ≤ gb132))
                                have n8_ := Aside0.mk ((by rw [hg]; exact Nat.ne_of_lt (blk_lt (g := gb108) (o := .cells #[.int .i64 t102, .int .i64 t103, .int .i64 t104, .string t105, .int .i64 t106] 23 (0, 0)) (by (with_reducible repeat (first | refine blk_drewN ?_ _ | refine blk_drew ?_ | refine blk_alloc ?_ _)); exact BK108.out)) : gb108 ≠ gb132))
                                have n9_ := Aside0.mk ((by rw [hg]; exact Nat.ne_of_gt (blk_lt (g := gb108) (o := .cells #[.int .i64 t102, .int .i64 t103, .int .i64 t104, .string t105, .int .i64 t106] 23 (0, 0)) (by (with_reducible repeat (first | refine blk_drewN ?_ _ | refine blk_drew ?_ | refine blk_alloc ?_ _)); exact BK108.out)) : gb132 ≠ gb108))
                                have n10_ := Aside0.mk ((by rw [hg]; exact Nat.ne_of_lt (blk_lt (g := gb109) (o := .cells #[.int .i64 x110000_5, .int .i64 x110001_5, .int .i64 x110002_5, .string x110003_5, .int .i64 x110004_5] 23 (0, 0)) (by (with_reducible repeat (first | refine blk_drewN ?_ _ | refine blk_drew ?_ | refine blk_alloc ?_ _)); exact BK109.out)) : gb109 ≠ gb132))
                                have n11_ := Aside0.mk ((by rw [hg]; exact Nat.ne_of_gt (blk_lt (g := gb109) (o := .cells #[.int .i64 x110000_5, .int .i64 x110001_5, .int .i64 x110002_5, .string x110003_5, .int .i64 x110004_5] 23 (0, 0)) (by (with_reducible repeat (first | refine blk_drewN ?_ _ | refine blk_drew ?_ | refine blk_alloc ?_ _)); exact BK109.out)) : gb132 ≠ gb109))
                                have n12_ := Aside0.mk ((by rw [hg]; exact Nat.ne_of_lt (blk_lt (g := gb120) (o := .cells #[.int .i64 t113, .int .i64 t114, .int .i64 t115, .string t116, .int .i64 t117] 23 (0, 0)) (by (with_reducible repeat (first | refine blk_drewN ?_ _ | refine blk_drew ?_ | refine blk_alloc ?_ _)); exact BK120.out)) : gb120 ≠ gb132))
                                have n13_ := Aside0.mk ((by rw [hg]; exact Nat.ne_of_gt (blk_lt (g := gb120) (o := .cells #[.int .i64 t113, .int .i64 t114, .int .i64 t115, .string t116, .int .i64 t117] 23 (0, 0)) (by (with_reducible repeat (first | refine blk_drewN ?_ _ | refine blk_drew ?_ | refine blk_alloc ?_ _)); exact BK120.out)) : gb132 ≠ gb120))
                                clear HO123
                                clear BK108
                                clear BK109
                                clear BK120
                                clear HB
                                have HO123 := n0_
                                have BK108 := n1_
                                have BK109 := n2_
                                have BK120 := n3_
                                have HB := n4_
                                have BK132 := n5_
                                have GW132 := n6_
                                have GE132 := n7_
                                have NB108_132 := n8_
                                have NB132_108 := n9_
                                have NB109_132 := n10_
                                have NB132_109 := n11_
                                have NB120_132 := n12_
                                have NB132_120 := n13_
                                clear n0_ n1_ n2_ n3_ n4_ n5_ n6_ n7_ n8_ n9_ n10_ n11_ n12_ n13_
                                clear hb hbox hg
                                refine hK.out _ _ ⟨(blk_cell BK108.out 0).trans rfl, (blk_cell BK108.out 1).trans rfl, (blk_cell BK108.out 2).trans rfl, (blk_cell BK108.out 3).trans rfl, (blk_cell BK108.out 4).trans rfl⟩ (fun hHeld => ?_)
                                clear hK K
                                refine norm_ (a' := ?_) ?_ ?_
                                rotate_left
                                · show Act.put _ (some 12) _ = _
                                  simp only [Act.put, List.setIfInBounds_toArray, List.set_cons_zero, List.set_cons_succ, i64_w, i32_w]
                                  rfl
                                exact norm_ (by simp only [putAll, Act.put, List.setIfInBounds_toArray, List.set_cons_zero, List.set_cons_succ]) (hCont (.slice (some ado71) y121.length co71, ado71, gb132) _ ⟨hHeld, (by (with_reducible repeat (first | apply Kd.R_alloc | apply Kd.R_drewN | apply Kd.R_drew)); exact HO123.out), ⟨_, rfl⟩, (by (with_reducible repeat (first | refine blk_drewN ?_ _ | refine blk_drew ?_ | refine blk_alloc ?_ _)); exact BK108.out), (by (with_reducible repeat (first | refine blk_drewN ?_ _ | refine blk_drew ?_ | refine blk_alloc ?_ _)); exact BK109.out), (by (with_reducible repeat (first | refine blk_drewN ?_ _ | refine blk_drew ?_ | refine blk_alloc ?_ _)); exact BK120.out), (by (with_reducible repeat (first | refine blk_drewN ?_ _ | refine blk_drew ?_ | refine blk_alloc ?_ _)); exact BK132.out), GW132.out, GE132.out, NB108_132.out, NB132_108.out, NB109_132.out, NB132_109.out, NB120_132.out, NB132_120.out, (by repeat (first | (with_reducible first | exact HB.out | apply below_alloc | apply pw_below_drewN | apply below_drew1 | refine below_set ?_ GE108.out | refine below_set ?_ GE109.out | refine below_set ?_ GE120.out | refine below_set ?_ GE132.out) | exact HB.out))⟩)
                              · skip
                                refine box_step ?hg (N := 12) ?hd (cs := #[.int .i64 0, .int .i64 0, .int .i64 0, .string (⟨#[]⟩ : ByteArray), .int .i64 0]) (t := 23) ?hr ?_; (case hd => rfl); (case hg => rfl); (case hr => first | (go_simp; done) | (go_simp; rfl))
                                intro gb132 hg w72 hbox hb
                                have n0_ := Aside0.mk (Kd.R_below (by (with_reducible repeat (first | apply Kd.R_alloc | apply Kd.R_drewN | apply Kd.R_drew)); exact HO123.out) hb)
                                have n1_ := Aside0.mk (blk_below (g := gb108) (o := .cells #[.int .i64 t102, .int .i64 t103, .int .i64 t104, .string t105, .int .i64 t106] 23 (0, 0)) (by (with_reducible repeat (first | refine blk_drewN ?_ _ | refine blk_drew ?_ | refine blk_alloc ?_ _)); exact BK108.out) hb)
                                have n2_ := Aside0.mk (blk_below (g := gb109) (o := .cells #[.int .i64 x110000_5, .int .i64 x110001_5, .int .i64 x110002_5, .string x110003_5, .int .i64 x110004_5] 23 (0, 0)) (by (with_reducible repeat (first | refine blk_drewN ?_ _ | refine blk_drew ?_ | refine blk_alloc ?_ _)); exact BK109.out) hb)
                                have n3_ := Aside0.mk (blk_below (g := gb120) (o := .cells #[.int .i64 t113, .int .i64 t114, .int .i64 t115, .string t116, .int .i64 t117] 23 (0, 0)) (by (with_reducible repeat (first | refine blk_drewN ?_ _ | refine blk_drew ?_ | refine blk_alloc ?_ _)); exact BK120.out) hb)
                                have n4_ := Aside0.mk (below_step (by repeat (first | (with_reducible first | exact HB.out | apply below_alloc | apply pw_below_drewN | apply below_drew1 | refine below_set ?_ GE108.out | refine below_set ?_ GE109.out | refine below_set ?_ GE120.out) | exact HB.out)) hb)
                                have n5_ := Aside0.mk (hbox)
                                have n6_ := Aside0.mk ((by rw [hg]; exact (below_size (by repeat (first | (with_reducible first | exact HB.out | apply below_alloc | apply pw_below_drewN | apply below_drew1 | refine below_set ?_ GE108.out | refine below_set ?_ GE109.out | refine below_set ?_ GE120.out) | exact HB.out))) : w.heap.size ≤ gb132))
                                have n7_ := Aside0.mk ((by rw [hg]; exact (below_size (by repeat (first | (with_reducible first | exact HB.out | apply below_alloc | apply pw_below_drewN | apply below_drew1 | refine below_set ?_ GE108.out | refine below_set ?_ GE109.out | refine below_set ?_ GE120.out) | exact HB.out))) : w.heap.size ≤ gb132))
                                have n8_ := Aside0.mk ((by rw [hg]; exact Nat.ne_of_lt (blk_lt (g := gb108) (o := .cells #[.int .i64 t102, .int .i64 t103, .int .i64 t104, .string t105, .int .i64 t106] 23 (0, 0)) (by (with_reducible repeat (first | refine blk_drewN ?_ _ | refine blk_drew ?_ | refine blk_alloc ?_ _)); exact BK108.out)) : gb108 ≠ gb132))
                                have n9_ := Aside0.mk ((by rw [hg]; exact Nat.ne_of_gt (blk_lt (g := gb108) (o := .cells #[.int .i64 t102, .int .i64 t103, .int .i64 t104, .string t105, .int .i64 t106] 23 (0, 0)) (by (with_reducible repeat (first | refine blk_drewN ?_ _ | refine blk_drew ?_ | refine blk_alloc ?_ _)); exact BK108.out)) : gb132 ≠ gb108))
                                have n10_ := Aside0.mk ((by rw [hg]; exact Nat.ne_of_lt (blk_lt (g := gb109) (o := .cells #[.int .i64 x110000_5, .int .i64 x110001_5, .int .i64 x110002_5, .string x110003_5, .int .i64 x110004_5] 23 (0, 0)) (by (with_reducible repeat (first | refine blk_drewN ?_ _ | refine blk_drew ?_ | refine blk_alloc ?_ _)); exact BK109.out)) : gb109 ≠ gb132))
                                have n11_ := Aside0.mk ((by rw [hg]; exact Nat.ne_of_gt (blk_lt (g := gb109) (o := .cells #[.int .i64 x110000_5, .int .i64 x110001_5, .int .i64 x110002_5, .string x110003_5, .int .i64 x110004_5] 23 (0, 0)) (by (with_reducible repeat (first | refine blk_drewN ?_ _ | refine blk_drew ?_ | refine blk_alloc ?_ _)); exact BK109.out)) : gb132 ≠ gb109))
                                have n12_ := Aside0.mk ((by rw [hg]; exact Nat.ne_of_lt (blk_lt (g := gb120) (o := .cells #[.int .i64 t113, .int .i64 t114, .int .i64 t115, .string t116, .int .i64 t117] 23 (0, 0)) (by (with_reducible repeat (first | refine blk_drewN ?_ _ | refine blk_drew ?_ | refine blk_alloc ?_ _)); exact BK120.out)) : gb120 ≠ gb132))
                                have n13_ := Aside0.mk ((by rw [hg]; exact Nat.ne_of_gt (blk_lt (g := gb120) (o := .cells #[.int .i64 t113, .int .i64 t114, .int .i64 t115, .string t116, .int .i64 t117] 23 (0, 0)) (by (with_reducible repeat (first | refine blk_drewN ?_ _ | refine blk_drew ?_ | refine blk_alloc ?_ _)); exact BK120.out)) : gb132 ≠ gb120))
                                clear HO123
                                clear BK108
                                clear BK109
                                clear BK120
                                clear HB
                                have HO123 := n0_
                                have BK108 := n1_
                                have BK109 := n2_
                                have BK120 := n3_
                                have HB := n4_
                                have BK132 := n5_
                                have GW132 := n6_
                                have GE132 := n7_
                                have NB108_132 := n8_
                                have NB132_108 := n9_
                                have NB109_132 := n10_
                                have NB132_109 := n11_
                                have NB120_132 := n12_
                                have NB132_120 := n13_
                                clear n0_ n1_ n2_ n3_ n4_ n5_ n6_ n7_ n8_ n9_ n10_ n11_ n12_ n13_
                                clear hb hbox hg
                                refine hK.out _ _ ⟨(blk_cell BK108.out 0).trans rfl, (blk_cell BK108.out 1).trans rfl, (blk_cell BK108.out 2).trans rfl, (blk_cell BK108.out 3).trans rfl, (blk_cell BK108.out 4).trans rfl⟩ (fun hHeld => ?_)
                                clear hK K
                                refine norm_ (a' := ?_) ?_ ?_
                                rotate_left
                                · show Act.put _ (some 12) _ = _
                                  simp only [Act.put, List.setIfInBounds_toArray, List.set_cons_zero, List.set_cons_succ, i64_w, i32_w]
                                  rfl
                                refine one_ (i := 10) (N := some 93) #[true, true, true, true, true, true, true, true, true, true, true, false, false, false, false, true, false, false, false] rfl rfl (one_of HT_.out (by kernel_rfl)) (by decide) (fun K hK => ?_)
                                refine goes_ Try.func8 (by kernel_rfl) rfl #[.agg #[.int .i64 t102, .int .i64 t103, .int .i64 t104, .string t105, .int .i64 t106], .int .i64 (rd y121 (Go.bits .and .i64 a0 1))] (by rfl) rfl rfl (by (try simp only [List.map_toArray, List.map_cons, List.map_nil]); first | done | rfl | (simp only [List.length_drop, List.length_take]; rfl)) ?_
                                with_reducible refine (decoder_Bit.calls t102 t103 t104 t105 t106 (rd y121 (Go.bits .and .i64 a0 1)) t125 t126 t127 t128 t129 t130 t131 _ A46.out).mono ?_
                                rintro e w73 ⟨rfl, hb⟩
                                refine ⟨_, rfl, ?_⟩
                                have n0_ := Aside0.mk (Kd.R_below (by (with_reducible repeat (first | apply Kd.R_alloc | apply Kd.R_drewN | apply Kd.R_drew)); exact HO123.out) hb)
                                have n1_ := Aside0.mk (blk_below (g := gb108) (o := .cells #[.int .i64 t102, .int .i64 t103, .int .i64 t104, .string t105, .int .i64 t106] 23 (0, 0)) (by (with_reducible repeat (first | refine blk_drewN ?_ _ | refine blk_drew ?_ | refine blk_alloc ?_ _)); exact BK108.out) hb)
                                have n2_ := Aside0.mk (blk_below (g := gb109) (o := .cells #[.int .i64 x110000_5, .int .i64 x110001_5, .int .i64 x110002_5, .string x110003_5, .int .i64 x110004_5] 23 (0, 0)) (by (with_reducible repeat (first | refine blk_drewN ?_ _ | refine blk_drew ?_ | refine blk_alloc ?_ _)); exact BK109.out) hb)
                                have n3_ := Aside0.mk (blk_below (g := gb120) (o := .cells #[.int .i64 t113, .int .i64 t114, .int .i64 t115, .string t116, .int .i64 t117] 23 (0, 0)) (by (with_reducible repeat (first | refine blk_drewN ?_ _ | refine blk_drew ?_ | refine blk_alloc ?_ _)); exact BK120.out) hb)
                                have n4_ := Aside0.mk (blk_below (g := gb132) (o := .cells #[.int .i64 0, .int .i64 0, .int .i64 0, .string (⟨#[]⟩ : ByteArray), .int .i64 0] 23 (0, 0)) (by (with_reducible repeat (first | refine blk_drewN ?_ _ | refine blk_drew ?_ | refine blk_alloc ?_ _)); exact BK132.out) hb)
                                have n5_ := Aside0.mk (below_step (by repeat (first | (with_reducible first | exact HB.out | apply below_alloc | apply pw_below_drewN | apply below_drew1 | refine below_set ?_ GE108.out | refine below_set ?_ GE109.out | refine below_set ?_ GE120.out | refine below_set ?_ GE132.out) | exact HB.out)) hb)
                                clear HO123
                                clear BK108
                                clear BK109
                                clear BK120
                                clear BK132
                                clear HB
                                have HO123 := n0_
                                have BK108 := n1_
                                have BK109 := n2_
                                have BK120 := n3_
                                have BK132 := n4_
                                have HB := n5_
                                clear n0_ n1_ n2_ n3_ n4_ n5_
                                (try clear hb)
                                (try clear hb2)
                                (try clear hk)
                                (try clear hi)
                                refine hK.out _ _ ⟨(blk_cell BK108.out 0).trans rfl, (blk_cell BK108.out 1).trans rfl, (blk_cell BK108.out 2).trans rfl, (blk_cell BK108.out 3).trans rfl, (blk_cell BK108.out 4).trans rfl⟩ (fun hHeld => ?_)
                                clear hK K
                                refine norm_ (a' := ?_) ?_ ?_
                                rotate_left
                                · show Act.put _ (some 93) _ = _
                                  simp only [Act.put, List.setIfInBounds_toArray, List.set_cons_zero, List.set_cons_succ, i64_w, i32_w]
                                  rfl
                                refine pure_ (i := 11) (N := some 82) (v := ?_) (a' := ?_) #[true, true, true, true, true, true, true, true, true, true, true, true, false, false, false, true, false, false, false] rfl rfl (any_of HT_.out (by kernel_rfl)) (fun _ _ _ h => h) (Or.inl ⟨by rfl, ?_⟩) ?_ ?_
                                rotate_left
                                · intro w'
                                  go_simp
                                  with_reducible rfl
                                rotate_left
                                · simp only [Act.put, List.setIfInBounds_toArray, List.set_cons_zero, List.set_cons_succ, i64_w, i32_w]
                                  rfl
                                refine pure_ (i := 12) (N := some 94) (v := ?_) (a' := ?_) #[true, true, true, true, true, true, true, true, true, true, true, true, true, false, false, true, false, false, false] rfl rfl (any_of HT_.out (by kernel_rfl)) (fun _ _ _ h => h) (Or.inl ⟨by rfl, ?_⟩) ?_ ?_
                                rotate_left
                                · intro w'
                                  go_simp
                                  with_reducible rfl
                                rotate_left
                                · simp only [Act.put, List.setIfInBounds_toArray, List.set_cons_zero, List.set_cons_succ, i64_w, i32_w]
                                  rfl
                                refine pure_ (i := 13) (N := some 95) (v := ?_) (a' := ?_) #[true, true, true, true, true, true, true, true, true, true, true, true, true, true, false, true, false, false, false] rfl rfl (any_of HT_.out (by kernel_rfl)) (fun _ _ _ h => h) (Or.inl ⟨by rfl, ?_⟩) ?_ ?_
                                rotate_left
                                · intro w'
                                  go_simp
                                  with_reducible rfl
                                rotate_left
                                · simp only [Act.put, List.setIfInBounds_toArray, List.set_cons_zero, List.set_cons_succ, i64_w, i32_w]
                                  rfl
                                refine pure_ (i := 14) (N := some 96) (v := ?_) (a' := ?_) #[true, true, true, true, true, true, true, true, true, true, true, true, true, true, true, true, false, false, false] rfl rfl (any_of HT_.out (by kernel_rfl)) (fun _ _ _ h => h) (Or.inl ⟨by rfl, ?_⟩) ?_ ?_
                                rotate_left
                                · intro w'
                                  go_simp
                                  with_reducible rfl
                                rotate_left
                                · simp only [Act.put, List.setIfInBounds_toArray, List.set_cons_zero, List.set_cons_succ, i64_w, i32_w]
                                  rfl
                                exact norm_ (by simp only [putAll, Act.put, List.setIfInBounds_toArray, List.set_cons_zero, List.set_cons_succ]) (hCont (.slice (some ado71) y121.length co71, ado71, gb132) _ ⟨hHeld, (by (with_reducible repeat (first | apply Kd.R_alloc | apply Kd.R_drewN | apply Kd.R_drew)); exact HO123.out), ⟨_, rfl⟩, (by (with_reducible repeat (first | refine blk_drewN ?_ _ | refine blk_drew ?_ | refine blk_alloc ?_ _)); exact BK108.out), (by (with_reducible repeat (first | refine blk_drewN ?_ _ | refine blk_drew ?_ | refine blk_alloc ?_ _)); exact BK109.out), (by (with_reducible repeat (first | refine blk_drewN ?_ _ | refine blk_drew ?_ | refine blk_alloc ?_ _)); exact BK120.out), (by (with_reducible repeat (first | refine blk_drewN ?_ _ | refine blk_drew ?_ | refine blk_alloc ?_ _)); exact BK132.out), GW132.out, GE132.out, NB108_132.out, NB132_108.out, NB109_132.out, NB132_109.out, NB120_132.out, NB132_120.out, (by repeat (first | (with_reducible first | exact HB.out | apply below_alloc | apply pw_below_drewN | apply below_drew1 | refine below_set ?_ GE108.out | refine below_set ?_ GE109.out | refine below_set ?_ GE120.out | refine below_set ?_ GE132.out) | exact HB.out))⟩)
                            · skip
                              refine box_step ?hg (N := 12) ?hd (cs := #[.int .i64 0, .int .i64 0, .int .i64 0, .string (⟨#[]⟩ : ByteArray), .int .i64 0]) (t := 23) ?hr ?_; (case hd => rfl); (case hg => rfl); (case hr => first | (go_simp; done) | (go_simp; rfl))
                              intro gb132 hg w72 hbox hb
                              have n0_ := Aside0.mk (Kd.R_below (by (with_reducible repeat (first | apply Kd.R_alloc | apply Kd.R_drewN | apply Kd.R_drew)); exact HO123.out) hb)
                              have n1_ := Aside0.mk (blk_below (g := gb108) (o := .cells #[.int .i64 t102, .int .i64 t103, .int .i64 t104, .string t105, .int .i64 t106] 23 (0, 0)) (by (with_reducible repeat (first | refine blk_drewN ?_ _ | refine blk_drew ?_ | refine blk_alloc ?_ _)); exact BK108.out) hb)
                              have n2_ := Aside0.mk (blk_below (g := gb109) (o := .cells #[.int .i64 x110000_5, .int .i64 x110001_5, .int .i64 x110002_5, .string x110003_5, .int .i64 x110004_5] 23 (0, 0)) (by (with_reducible repeat (first | refine blk_drewN ?_ _ | refine blk_drew ?_ | refine blk_alloc ?_ _)); exact BK109.out) hb)
                              have n3_ := Aside0.mk (blk_below (g := gb120) (o := .cells #[.int .i64 t113, .int .i64 t114, .int .i64 t115, .string t116, .int .i64 t117] 23 (0, 0)) (by (with_reducible repeat (first | refine blk_drewN ?_ _ | refine blk_drew ?_ | refine blk_alloc ?_ _)); exact BK120.out) hb)
                              have n4_ := Aside0.mk (below_step (by repeat (first | (with_reducible first | exact HB.out | apply below_alloc | apply pw_below_drewN | apply below_drew1 | refine below_set ?_ GE108.out | refine below_set ?_ GE109.out | refine below_set ?_ GE120.out) | exact HB.out)) hb)
                              have n5_ := Aside0.mk (hbox)
                              have n6_ := Aside0.mk ((by rw [hg]; exact (below_size (by repeat (first | (with_reducible first | exact HB.out | apply below_alloc | apply pw_below_drewN | apply below_drew1 | refine below_set ?_ GE108.out | refine below_set ?_ GE109.out | refine below_set ?_ GE120.out) | exact HB.out))) : w.heap.size ≤ gb132))
                              have n7_ := Aside0.mk ((by rw [hg]; exact (below_size (by repeat (first | (with_reducible first | exact HB.out | apply below_alloc | apply pw_below_drewN | apply below_drew1 | refine below_set ?_ GE108.out | refine below_set ?_ GE109.out | refine below_set ?_ GE120.out) | exact HB.out))) : w.heap.size ≤ gb132))
                              have n8_ := Aside0.mk ((by rw [hg]; exact Nat.ne_of_lt (blk_lt (g := gb108) (o := .cells #[.int .i64 t102, .int .i64 t103, .int .i64 t104, .string t105, .int .i64 t106] 23 (0, 0)) (by (with_reducible repeat (first | refine blk_drewN ?_ _ | refine blk_drew ?_ | refine blk_alloc ?_ _)); exact BK108.out)) : gb108 ≠ gb132))
                              have n9_ := Aside0.mk ((by rw [hg]; exact Nat.ne_of_gt (blk_lt (g := gb108) (o := .cells #[.int .i64 t102, .int .i64 t103, .int .i64 t104, .string t105, .int .i64 t106] 23 (0, 0)) (by (with_reducible repeat (first | refine blk_drewN ?_ _ | refine blk_drew ?_ | refine blk_alloc ?_ _)); exact BK108.out)) : gb132 ≠ gb108))
                              have n10_ := Aside0.mk ((by rw [hg]; exact Nat.ne_of_lt (blk_lt (g := gb109) (o := .cells #[.int .i64 x110000_5, .int .i64 x110001_5, .int .i64 x110002_5, .string x110003_5, .int .i64 x110004_5] 23 (0, 0)) (by (with_reducible repeat (first | refine blk_drewN ?_ _ | refine blk_drew ?_ | refine blk_alloc ?_ _)); exact BK109.out)) : gb109 ≠ gb132))
                              have n11_ := Aside0.mk ((by rw [hg]; exact Nat.ne_of_gt (blk_lt (g := gb109) (o := .cells #[.int .i64 x110000_5, .int .i64 x110001_5, .int .i64 x110002_5, .string x110003_5, .int .i64 x110004_5] 23 (0, 0)) (by (with_reducible repeat (first | refine blk_drewN ?_ _ | refine blk_drew ?_ | refine blk_alloc ?_ _)); exact BK109.out)) : gb132 ≠ gb109))
                              have n12_ := Aside0.mk ((by rw [hg]; exact Nat.ne_of_lt (blk_lt (g := gb120) (o := .cells #[.int .i64 t113, .int .i64 t114, .int .i64 t115, .string t116, .int .i64 t117] 23 (0, 0)) (by (with_reducible repeat (first | refine blk_drewN ?_ _ | refine blk_drew ?_ | refine blk_alloc ?_ _)); exact BK120.out)) : gb120 ≠ gb132))
                              have n13_ := Aside0.mk ((by rw [hg]; exact Nat.ne_of_gt (blk_lt (g := gb120) (o := .cells #[.int .i64 t113, .int .i64 t114, .int .i64 t115, .string t116, .int .i64 t117] 23 (0, 0)) (by (with_reducible repeat (first | refine blk_drewN ?_ _ | refine blk_drew ?_ | refine blk_alloc ?_ _)); exact BK120.out)) : gb132 ≠ gb120))
                              clear HO123
                              clear BK108
                              clear BK109
                              clear BK120
                              clear HB
                              have HO123 := n0_
                              have BK108 := n1_
                              have BK109 := n2_
                              have BK120 := n3_
                              have HB := n4_
                              have BK132 := n5_
                              have GW132 := n6_
                              have GE132 := n7_
                              have NB108_132 := n8_
                              have NB132_108 := n9_
                              have NB109_132 := n10_
                              have NB132_109 := n11_
                              have NB120_132 := n12_
                              have NB132_120 := n13_
                              clear n0_ n1_ n2_ n3_ n4_ n5_ n6_ n7_ n8_ n9_ n10_ n11_ n12_ n13_
                              clear hb hbox hg
                              refine hK.out _ _ ⟨(blk_cell BK108.out 0).trans rfl, (blk_cell BK108.out 1).trans rfl, (blk_cell BK108.out 2).trans rfl, (blk_cell BK108.out 3).trans rfl, (blk_cell BK108.out 4).trans rfl⟩ (fun hHeld => ?_)
                              clear hK K
                              refine norm_ (a' := ?_) ?_ ?_
                              rotate_left
                              · show Act.put _ (some 12) _ = _
                                simp only [Act.put, List.setIfInBounds_toArray, List.set_cons_zero, List.set_cons_succ, i64_w, i32_w]
                                rfl
                              refine one_ (i := 9) (N := some 92) #[true, true, true, true, true, true, true, true, true, true, false, false, false, false, false, true, false, false, false] rfl rfl (one_of HT_.out (by kernel_rfl)) (by decide) (fun K hK => ?_)
                              (have p124 : 0 ≤ ((Go.bits .and .i64 a0 1) : Int) := of_decide_eq_true (by first | (with_reducible assumption) | assumption); have q124 : (Go.bits .and .i64 a0 1) < (y121.length : Int) := of_decide_eq_true (by first | (with_reducible assumption) | assumption); obtain ⟨ad124, e124, hx124_0⟩ := Kd.at_int (Kd.R_reads' HO123.out).2.2 (Go.bits .and .i64 a0 1) p124 q124; obtain rfl : ado71 = ad124 := (by injection e124))
                              refine value_ (w1 := ?_) (v := ?_) (by rfl) rfl ?_ ?_
                              rotate_left 2
                              · go_simp
                                constructor
                                · rfl
                                · rfl
                              clear hx124_0
                              refine hK.out _ _ ⟨(blk_cell BK108.out 0).trans rfl, (blk_cell BK108.out 1).trans rfl, (blk_cell BK108.out 2).trans rfl, (blk_cell BK108.out 3).trans rfl, (blk_cell BK108.out 4).trans rfl⟩ (fun hHeld => ?_)
                              clear hK K
                              refine norm_ (a' := ?_) ?_ ?_
                              rotate_left
                              · show Act.put _ (some 92) _ = _
                                simp only [Act.put, List.setIfInBounds_toArray, List.set_cons_zero, List.set_cons_succ, i64_w, i32_w]
                                rfl
                              refine one_ (i := 10) (N := some 93) #[true, true, true, true, true, true, true, true, true, true, true, false, false, false, false, true, false, false, false] rfl rfl (one_of HT_.out (by kernel_rfl)) (by decide) (fun K hK => ?_)
                              refine goes_ Try.func8 (by kernel_rfl) rfl #[.agg #[.int .i64 t102, .int .i64 t103, .int .i64 t104, .string t105, .int .i64 t106], .int .i64 (rd y121 (Go.bits .and .i64 a0 1))] (by rfl) rfl rfl (by (try simp only [List.map_toArray, List.map_cons, List.map_nil]); first | done | rfl | (simp only [List.length_drop, List.length_take]; rfl)) ?_
                              with_reducible refine (decoder_Bit.calls t102 t103 t104 t105 t106 (rd y121 (Go.bits .and .i64 a0 1)) t125 t126 t127 t128 t129 t130 t131 _ A46.out).mono ?_
                              rintro e w73 ⟨rfl, hb⟩
                              refine ⟨_, rfl, ?_⟩
                              have n0_ := Aside0.mk (Kd.R_below (by (with_reducible repeat (first | apply Kd.R_alloc | apply Kd.R_drewN | apply Kd.R_drew)); exact HO123.out) hb)
                              have n1_ := Aside0.mk (blk_below (g := gb108) (o := .cells #[.int .i64 t102, .int .i64 t103, .int .i64 t104, .string t105, .int .i64 t106] 23 (0, 0)) (by (with_reducible repeat (first | refine blk_drewN ?_ _ | refine blk_drew ?_ | refine blk_alloc ?_ _)); exact BK108.out) hb)
                              have n2_ := Aside0.mk (blk_below (g := gb109) (o := .cells #[.int .i64 x110000_5, .int .i64 x110001_5, .int .i64 x110002_5, .string x110003_5, .int .i64 x110004_5] 23 (0, 0)) (by (with_reducible repeat (first | refine blk_drewN ?_ _ | refine blk_drew ?_ | refine blk_alloc ?_ _)); exact BK109.out) hb)
                              have n3_ := Aside0.mk (blk_below (g := gb120) (o := .cells #[.int .i64 t113, .int .i64 t114, .int .i64 t115, .string t116, .int .i64 t117] 23 (0, 0)) (by (with_reducible repeat (first | refine blk_drewN ?_ _ | refine blk_drew ?_ | refine blk_alloc ?_ _)); exact BK120.out) hb)
                              have n4_ := Aside0.mk (blk_below (g := gb132) (o := .cells #[.int .i64 0, .int .i64 0, .int .i64 0, .string (⟨#[]⟩ : ByteArray), .int .i64 0] 23 (0, 0)) (by (with_reducible repeat (first | refine blk_drewN ?_ _ | refine blk_drew ?_ | refine blk_alloc ?_ _)); exact BK132.out) hb)
                              have n5_ := Aside0.mk (below_step (by repeat (first | (with_reducible first | exact HB.out | apply below_alloc | apply pw_below_drewN | apply below_drew1 | refine below_set ?_ GE108.out | refine below_set ?_ GE109.out | refine below_set ?_ GE120.out | refine below_set ?_ GE132.out) | exact HB.out)) hb)
                              clear HO123
                              clear BK108
                              clear BK109
                              clear BK120
                              clear BK132
                              clear HB
                              have HO123 := n0_
                              have BK108 := n1_
                              have BK109 := n2_
                              have BK120 := n3_
                              have BK132 := n4_
                              have HB := n5_
                              clear n0_ n1_ n2_ n3_ n4_ n5_
                              (try clear hb)
                              (try clear hb2)
                              (try clear hk)
                              (try clear hi)
                              refine hK.out _ _ ⟨(blk_cell BK108.out 0).trans rfl, (blk_cell BK108.out 1).trans rfl, (blk_cell BK108.out 2).trans rfl, (blk_cell BK108.out 3).trans rfl, (blk_cell BK108.out 4).trans rfl⟩ (fun hHeld => ?_)
                              clear hK K
                              refine norm_ (a' := ?_) ?_ ?_
                              rotate_left
                              · show Act.put _ (some 93) _ = _
                                simp only [Act.put, List.setIfInBounds_toArray, List.set_cons_zero, List.set_cons_succ, i64_w, i32_w]
                                rfl
                              refine pure_ (i := 11) (N := some 82) (v := ?_) (a' := ?_) #[true, true, true, true, true, true, true, true, true, true, true, true, false, false, false, true, false, false, false] rfl rfl (any_of HT_.out (by kernel_rfl)) (fun _ _ _ h => h) (Or.inl ⟨by rfl, ?_⟩) ?_ ?_
                              rotate_left
                              · intro w'
                                go_simp
                                with_reducible rfl
                              rotate_left
                              · simp only [Act.put, List.setIfInBounds_toArray, List.set_cons_zero, List.set_cons_succ, i64_w, i32_w]
                                rfl
                              refine pure_ (i := 12) (N := some 94) (v := ?_) (a' := ?_) #[true, true, true, true, true, true, true, true, true, true, true, true, true, false, false, true, false, false, false] rfl rfl (any_of HT_.out (by kernel_rfl)) (fun _ _ _ h => h) (Or.inl ⟨by rfl, ?_⟩) ?_ ?_
                              rotate_left
                              · intro w'
                                go_simp
                                with_reducible rfl
                              rotate_left
                              · simp only [Act.put, List.setIfInBounds_toArray, List.set_cons_zero, List.set_cons_succ, i64_w, i32_w]
                                rfl
                              refine pure_ (i := 13) (N := some 95) (v := ?_) (a' := ?_) #[true, true, true, true, true, true, true, true, true, true, true, true, true, true, false, true, false, false, false] rfl rfl (any_of HT_.out (by kernel_rfl)) (fun _ _ _ h => h) (Or.inl ⟨by rfl, ?_⟩) ?_ ?_
                              rotate_left
                              · intro w'
                                go_simp
                                with_reducible rfl
                              rotate_left
                              · simp only [Act.put, List.setIfInBounds_toArray, List.set_cons_zero, List.set_cons_succ, i64_w, i32_w]
                                rfl
                              refine pure_ (i := 14) (N := some 96) (v := ?_) (a' := ?_) #[true, true, true, true, true, true, true, true, true, true, true, true, true, true, true, true, false, false, false] rfl rfl (any_of HT_.out (by kernel_rfl)) (fun _ _ _ h => h) (Or.inl ⟨by rfl, ?_⟩) ?_ ?_
                              rotate_left
                              · intro w'
                                go_simp
                                with_reducible rfl
                              rotate_left
                              · simp only [Act.put, List.setIfInBounds_toArray, List.set_cons_zero, List.set_cons_succ, i64_w, i32_w]
                                rfl
                              exact norm_ (by simp only [putAll, Act.put, List.setIfInBounds_toArray, List.set_cons_zero, List.set_cons_succ]) (hCont (.slice (some ado71) y121.length co71, ado71, gb132) _ ⟨hHeld, (by (with_reducible repeat (first | apply Kd.R_alloc | apply Kd.R_drewN | apply Kd.R_drew)); exact HO123.out), ⟨_, rfl⟩, (by (with_reducible repeat (first | refine blk_drewN ?_ _ | refine blk_drew ?_ | refine blk_alloc ?_ _)); exact BK108.out), (by (with_reducible repeat (first | refine blk_drewN ?_ _ | refine blk_drew ?_ | refine blk_alloc ?_ _)); exact BK109.out), (by (with_reducible repeat (first | refine blk_drewN ?_ _ | refine blk_drew ?_ | refine blk_alloc ?_ _)); exact BK120.out), (by (with_reducible repeat (first | refine blk_drewN ?_ _ | refine blk_drew ?_ | refine blk_alloc ?_ _)); exact BK132.out), GW132.out, GE132.out, NB108_132.out, NB132_108.out, NB109_132.out, NB132_109.out, NB120_132.out, NB132_120.out, (by repeat (first | (with_reducible first | exact HB.out | apply below_alloc | apply pw_below_drewN | apply below_drew1 | refine below_set ?_ GE108.out | refine below_set ?_ GE109.out | refine below_set ?_ GE120.out | refine below_set ?_ GE132.out) | exact HB.out))⟩)
                          · skip
                            refine box_step ?hg (N := 12) ?hd (cs := #[.int .i64 0, .int .i64 0, .int .i64 0, .string (⟨#[]⟩ : ByteArray), .int .i64 0]) (t := 23) ?hr ?_; (case hd => rfl); (case hg => rfl); (case hr => first | (go_simp; done) | (go_simp; rfl))
                            intro gb132 hg w69 hbox hb
                            have n0_ := Aside0.mk (blk_below (g := gb108) (o := .cells #[.int .i64 t102, .int .i64 t103, .int .i64 t104, .string t105, .int .i64 t106] 23 (0, 0)) (by (with_reducible repeat (first | refine blk_drewN ?_ _ | refine blk_drew ?_ | refine blk_alloc ?_ _)); exact BK108.out) hb)
                            have n1_ := Aside0.mk (blk_below (g := gb109) (o := .cells #[.int .i64 x110000_5, .int .i64 x110001_5, .int .i64 x110002_5, .string x110003_5, .int .i64 x110004_5] 23 (0, 0)) (by (with_reducible repeat (first | refine blk_drewN ?_ _ | refine blk_drew ?_ | refine blk_alloc ?_ _)); exact BK109.out) hb)
                            have n2_ := Aside0.mk (blk_below (g := gb120) (o := .cells #[.int .i64 t113, .int .i64 t114, .int .i64 t115, .string t116, .int .i64 t117] 23 (0, 0)) (by (with_reducible repeat (first | refine blk_drewN ?_ _ | refine blk_drew ?_ | refine blk_alloc ?_ _)); exact BK120.out) hb)
                            have n3_ := Aside0.mk (below_step (by repeat (first | (with_reducible first | exact HB.out | apply below_alloc | apply pw_below_drewN | apply below_drew1 | refine below_set ?_ GE108.out | refine below_set ?_ GE109.out | refine below_set ?_ GE120.out) | exact HB.out)) hb)
                            have n4_ := Aside0.mk (hbox)
                            have n5_ := Aside0.mk ((by rw [hg]; exact (below_size (by repeat (first | (with_reducible first | exact HB.out | apply below_alloc | apply pw_below_drewN | apply below_drew1 | refine below_set ?_ GE108.out | refine below_set ?_ GE109.out | refine below_set ?_ GE120.out) | exact HB.out))) : w.heap.size ≤ gb132))
                            have n6_ := Aside0.mk ((by rw [hg]; exact (below_size (by repeat (first | (with_reducible first | exact HB.out | apply below_alloc | apply pw_below_drewN | apply below_drew1 | refine below_set ?_ GE108.out | refine below_set ?_ GE109.out | refine below_set ?_ GE120.out) | exact HB.out))) : w.heap.size ≤ gb132))
                            have n7_ := Aside0.mk ((by rw [hg]; exact Nat.ne_of_lt (blk_lt (g := gb108) (o := .cells #[.int .i64 t102, .int .i64 t103, .int .i64 t104, .string t105, .int .i64 t106] 23 (0, 0)) (by (with_reducible repeat (first | refine blk_drewN ?_ _ | refine blk_drew ?_ | refine blk_alloc ?_ _)); exact BK108.out)) : gb108 ≠ gb132))
                            have n8_ := Aside0.mk ((by rw [hg]; exact Nat.ne_of_gt (blk_lt (g := gb108) (o := .cells #[.int .i64 t102, .int .i64 t103, .int .i64 t104, .string t105, .int .i64 t106] 23 (0, 0)) (by (with_reducible repeat (first | refine blk_drewN ?_ _ | refine blk_drew ?_ | refine blk_alloc ?_ _)); exact BK108.out)) : gb132 ≠ gb108))
                            have n9_ := Aside0.mk ((by rw [hg]; exact Nat.ne_of_lt (blk_lt (g := gb109) (o := .cells #[.int .i64 x110000_5, .int .i64 x110001_5, .int .i64 x110002_5, .string x110003_5, .int .i64 x110004_5] 23 (0, 0)) (by (with_reducible repeat (first | refine blk_drewN ?_ _ | refine blk_drew ?_ | refine blk_alloc ?_ _)); exact BK109.out)) : gb109 ≠ gb132))
                            have n10_ := Aside0.mk ((by rw [hg]; exact Nat.ne_of_gt (blk_lt (g := gb109) (o := .cells #[.int .i64 x110000_5, .int .i64 x110001_5, .int .i64 x110002_5, .string x110003_5, .int .i64 x110004_5] 23 (0, 0)) (by (with_reducible repeat (first | refine blk_drewN ?_ _ | refine blk_drew ?_ | refine blk_alloc ?_ _)); exact BK109.out)) : gb132 ≠ gb109))
                            have n11_ := Aside0.mk ((by rw [hg]; exact Nat.ne_of_lt (blk_lt (g := gb120) (o := .cells #[.int .i64 t113, .int .i64 t114, .int .i64 t115, .string t116, .int .i64 t117] 23 (0, 0)) (by (with_reducible repeat (first | refine blk_drewN ?_ _ | refine blk_drew ?_ | refine blk_alloc ?_ _)); exact BK120.out)) : gb120 ≠ gb132))
                            have n12_ := Aside0.mk ((by rw [hg]; exact Nat.ne_of_gt (blk_lt (g := gb120) (o := .cells #[.int .i64 t113, .int .i64 t114, .int .i64 t115, .string t116, .int .i64 t117] 23 (0, 0)) (by (with_reducible repeat (first | refine blk_drewN ?_ _ | refine blk_drew ?_ | refine blk_alloc ?_ _)); exact BK120.out)) : gb132 ≠ gb120))
                            clear BK108
                            clear BK109
                            clear BK120
                            clear HB
                            have BK108 := n0_
                            have BK109 := n1_
                            have BK120 := n2_
                            have HB := n3_
                            have BK132 := n4_
                            have GW132 := n5_
                            have GE132 := n6_
                            have NB108_132 := n7_
                            have NB132_108 := n8_
                            have NB109_132 := n9_
                            have NB132_109 := n10_
                            have NB120_132 := n11_
                            have NB132_120 := n12_
                            clear n0_ n1_ n2_ n3_ n4_ n5_ n6_ n7_ n8_ n9_ n10_ n11_ n12_
                            clear hb hbox hg
                            refine hK.out _ _ ⟨(blk_cell BK108.out 0).trans rfl, (blk_cell BK108.out 1).trans rfl, (blk_cell BK108.out 2).trans rfl, (blk_cell BK108.out 3).trans rfl, (blk_cell BK108.out 4).trans rfl⟩ (fun hHeld => ?_)
                            clear hK K
                            refine norm_ (a' := ?_) ?_ ?_
                            rotate_left
                            · show Act.put _ (some 12) _ = _
                              simp only [Act.put, List.setIfInBounds_toArray, List.set_cons_zero, List.set_cons_succ, i64_w, i32_w]
                              rfl
                            refine one_ (i := 5) (N := some 88) #[true, true, true, true, true, true, true, true, false, false, false, false, false, false, false, true, false, false, false] rfl rfl (one_of HT_.out (by kernel_rfl)) (by decide) (fun K hK => ?_)
                            refine Kd.R_lit_step (Kd.int .i64) _ 3 ?hg (N := 88) ?hd (xs := ([wrap64 (1 - (wrap64 (1 + (Go.bits .and .i64 a1 1023)))), wrap64 (4095 + (wrap64 (1 + (Go.bits .and .i64 a1 1023))))] : List Int)) (inner := [.int .i64 (wrap64 (1 - (wrap64 (1 + (Go.bits .and .i64 a1 1023))))), .int .i64 (wrap64 (4095 + (wrap64 (1 + (Go.bits .and .i64 a1 1023)))))]) (ok := fun _ => True) (okp := fun _ => True) ?hr ?hp (fun _ hk => hk) trivial (Below.refl _ _) (Nat.le_refl _) (by simp) ?_; (case hd => rfl); (case hg => rfl); (case hr => first | (go_simp; done) | (go_simp; rfl)); (case hp => exact (Reps.one (show Kd.M (Kd.int .i64) _ _ _ (wrap64 (1 - (wrap64 (1 + (Go.bits .and .i64 a1 1023))))) [.int .i64 (wrap64 (1 - (wrap64 (1 + (Go.bits .and .i64 a1 1023)))))] from rfl) (Reps.one (show Kd.M (Kd.int .i64) _ _ _ (wrap64 (4095 + (wrap64 (1 + (Go.bits .and .i64 a1 1023))))) [.int .i64 (wrap64 (4095 + (wrap64 (1 + (Go.bits .and .i64 a1 1023)))))] from rfl) (Reps.none _ _))))
                            intro v122 w70 ho71 hb hg_ hnew_
                            clear hg_ hnew_
                            (first | rw [← Ny121.out] at ho71 | (simp only [Int.reduceToNat] at ho71; rw [← Ny121.out] at ho71))
                            have n0_ := Aside0.mk (Kd.R_lower ho71 (below_size (by repeat (first | (with_reducible first | exact HB.out | apply below_alloc | apply pw_below_drewN | apply below_drew1 | refine below_set ?_ GE108.out | refine below_set ?_ GE109.out | refine below_set ?_ GE120.out | refine below_set ?_ GE132.out) | exact HB.out))))
                            have n1_ := Aside0.mk (blk_below (g := gb108) (o := .cells #[.int .i64 t102, .int .i64 t103, .int .i64 t104, .string t105, .int .i64 t106] 23 (0, 0)) (by (with_reducible repeat (first | refine blk_drewN ?_ _ | refine blk_drew ?_ | refine blk_alloc ?_ _)); exact BK108.out) hb)
                            have n2_ := Aside0.mk (blk_below (g := gb109) (o := .cells #[.int .i64 x110000_5, .int .i64 x110001_5, .int .i64 x110002_5, .string x110003_5, .int .i64 x110004_5] 23 (0, 0)) (by (with_reducible repeat (first | refine blk_drewN ?_ _ | refine blk_drew ?_ | refine blk_alloc ?_ _)); exact BK109.out) hb)
                            have n3_ := Aside0.mk (blk_below (g := gb120) (o := .cells #[.int .i64 t113, .int .i64 t114, .int .i64 t115, .string t116, .int .i64 t117] 23 (0, 0)) (by (with_reducible repeat (first | refine blk_drewN ?_ _ | refine blk_drew ?_ | refine blk_alloc ?_ _)); exact BK120.out) hb)
                            have n4_ := Aside0.mk (blk_below (g := gb132) (o := .cells #[.int .i64 0, .int .i64 0, .int .i64 0, .string (⟨#[]⟩ : ByteArray), .int .i64 0] 23 (0, 0)) (by (with_reducible repeat (first | refine blk_drewN ?_ _ | refine blk_drew ?_ | refine blk_alloc ?_ _)); exact BK132.out) hb)
                            have n5_ := Aside0.mk (below_step (by repeat (first | (with_reducible first | exact HB.out | apply below_alloc | apply pw_below_drewN | apply below_drew1 | refine below_set ?_ GE108.out | refine below_set ?_ GE109.out | refine below_set ?_ GE120.out | refine below_set ?_ GE132.out) | exact HB.out)) hb)
                            clear BK108
                            clear BK109
                            clear BK120
                            clear BK132
                            clear HB
                            have HO123 := n0_
                            have BK108 := n1_
                            have BK109 := n2_
                            have BK120 := n3_
                            have BK132 := n4_
                            have HB := n5_
                            clear n0_ n1_ n2_ n3_ n4_ n5_
                            clear hb ho71
                            obtain ⟨Ao72, co72, eo72⟩ := Kd.R_slice HO123.out
                            subst eo72
                            obtain ⟨ado72, fo72, _⟩ := Kd.at_int (Kd.R_reads' HO123.out).2.2 0 (by decide) (by rw [Ny121.out]; simp)
                            cases fo72
                            refine hK.out _ _ ⟨(blk_cell BK108.out 0).trans rfl, (blk_cell BK108.out 1).trans rfl, (blk_cell BK108.out 2).trans rfl, (blk_cell BK108.out 3).trans rfl, (blk_cell BK108.out 4).trans rfl⟩ (fun hHeld => ?_)
                            clear hK K
                            refine norm_ (a' := ?_) ?_ ?_
                            rotate_left
                            · show Act.put _ (some 88) _ = _
                              simp only [Act.put, List.setIfInBounds_toArray, List.set_cons_zero, List.set_cons_succ, i64_w, i32_w]
                              rfl
                            refine pure_ (i := 8) (N := some 91) (v := ?_) (a' := ?_) #[true, true, true, true, true, true, true, true, true, false, false, false, false, false, false, true, false, false, false] rfl rfl (any_of HT_.out (by kernel_rfl)) (fun _ _ _ h => h) (Or.inl ⟨by rfl, ?_⟩) ?_ ?_
                            rotate_left
                            · intro w'
                              go_simp
                              with_reducible rfl
                            rotate_left
                            · simp only [Act.put, List.setIfInBounds_toArray, List.set_cons_zero, List.set_cons_succ, i64_w, i32_w]
                              rfl
                            refine one_ (i := 9) (N := some 92) #[true, true, true, true, true, true, true, true, true, true, false, false, false, false, false, true, false, false, false] rfl rfl (one_of HT_.out (by kernel_rfl)) (by decide) (fun K hK => ?_)
                            (have p124 : 0 ≤ ((Go.bits .and .i64 a0 1) : Int) := of_decide_eq_true (by first | (with_reducible assumption) | assumption); have q124 : (Go.bits .and .i64 a0 1) < (y121.length : Int) := of_decide_eq_true (by first | (with_reducible assumption) | assumption); obtain ⟨ad124, e124, hx124_0⟩ := Kd.at_int (Kd.R_reads' HO123.out).2.2 (Go.bits .and .i64 a0 1) p124 q124; obtain rfl : ado72 = ad124 := (by injection e124))
                            refine value_ (w1 := ?_) (v := ?_) (by rfl) rfl ?_ ?_
                            rotate_left 2
                            · go_simp
                              constructor
                              · rfl
                              · rfl
                            clear hx124_0
                            refine hK.out _ _ ⟨(blk_cell BK108.out 0).trans rfl, (blk_cell BK108.out 1).trans rfl, (blk_cell BK108.out 2).trans rfl, (blk_cell BK108.out 3).trans rfl, (blk_cell BK108.out 4).trans rfl⟩ (fun hHeld => ?_)
                            clear hK K
                            refine norm_ (a' := ?_) ?_ ?_
                            rotate_left
                            · show Act.put _ (some 92) _ = _
                              simp only [Act.put, List.setIfInBounds_toArray, List.set_cons_zero, List.set_cons_succ, i64_w, i32_w]
                              rfl
                            refine one_ (i := 10) (N := some 93) #[true, true, true, true, true, true, true, true, true, true, true, false, false, false, false, true, false, false, false] rfl rfl (one_of HT_.out (by kernel_rfl)) (by decide) (fun K hK => ?_)
                            refine goes_ Try.func8 (by kernel_rfl) rfl #[.agg #[.int .i64 t102, .int .i64 t103, .int .i64 t104, .string t105, .int .i64 t106], .int .i64 (rd y121 (Go.bits .and .i64 a0 1))] (by rfl) rfl rfl (by (try simp only [List.map_toArray, List.map_cons, List.map_nil]); first | done | rfl | (simp only [List.length_drop, List.length_take]; rfl)) ?_
                            with_reducible refine (decoder_Bit.calls t102 t103 t104 t105 t106 (rd y121 (Go.bits .and .i64 a0 1)) t125 t126 t127 t128 t129 t130 t131 _ A46.out).mono ?_
                            rintro e w73 ⟨rfl, hb⟩
                            refine ⟨_, rfl, ?_⟩
                            have n0_ := Aside0.mk (Kd.R_below (by (with_reducible repeat (first | apply Kd.R_alloc | apply Kd.R_drewN | apply Kd.R_drew)); exact HO123.out) hb)
                            have n1_ := Aside0.mk (blk_below (g := gb108) (o := .cells #[.int .i64 t102, .int .i64 t103, .int .i64 t104, .string t105, .int .i64 t106] 23 (0, 0)) (by (with_reducible repeat (first | refine blk_drewN ?_ _ | refine blk_drew ?_ | refine blk_alloc ?_ _)); exact BK108.out) hb)
                            have n2_ := Aside0.mk (blk_below (g := gb109) (o := .cells #[.int .i64 x110000_5, .int .i64 x110001_5, .int .i64 x110002_5, .string x110003_5, .int .i64 x110004_5] 23 (0, 0)) (by (with_reducible repeat (first | refine blk_drewN ?_ _ | refine blk_drew ?_ | refine blk_alloc ?_ _)); exact BK109.out) hb)
                            have n3_ := Aside0.mk (blk_below (g := gb120) (o := .cells #[.int .i64 t113, .int .i64 t114, .int .i64 t115, .string t116, .int .i64 t117] 23 (0, 0)) (by (with_reducible repeat (first | refine blk_drewN ?_ _ | refine blk_drew ?_ | refine blk_alloc ?_ _)); exact BK120.out) hb)
                            have n4_ := Aside0.mk (blk_below (g := gb132) (o := .cells #[.int .i64 0, .int .i64 0, .int .i64 0, .string (⟨#[]⟩ : ByteArray), .int .i64 0] 23 (0, 0)) (by (with_reducible repeat (first | refine blk_drewN ?_ _ | refine blk_drew ?_ | refine blk_alloc ?_ _)); exact BK132.out) hb)
                            have n5_ := Aside0.mk (below_step (by repeat (first | (with_reducible first | exact HB.out | apply below_alloc | apply pw_below_drewN | apply below_drew1 | refine below_set ?_ GE108.out | refine below_set ?_ GE109.out | refine below_set ?_ GE120.out | refine below_set ?_ GE132.out) | exact HB.out)) hb)
                            clear HO123
                            clear BK108
                            clear BK109
                            clear BK120
                            clear BK132
                            clear HB
                            have HO123 := n0_
                            have BK108 := n1_
                            have BK109 := n2_
                            have BK120 := n3_
                            have BK132 := n4_
                            have HB := n5_
                            clear n0_ n1_ n2_ n3_ n4_ n5_
                            (try clear hb)
                            (try clear hb2)
                            (try clear hk)
                            (try clear hi)
                            refine hK.out _ _ ⟨(blk_cell BK108.out 0).trans rfl, (blk_cell BK108.out 1).trans rfl, (blk_cell BK108.out 2).trans rfl, (blk_cell BK108.out 3).trans rfl, (blk_cell BK108.out 4).trans rfl⟩ (fun hHeld => ?_)
                            clear hK K
                            refine norm_ (a' := ?_) ?_ ?_
                            rotate_left
                            · show Act.put _ (some 93) _ = _
                              simp only [Act.put, List.setIfInBounds_toArray, List.set_cons_zero, List.set_cons_succ, i64_w, i32_w]
                              rfl
                            refine pure_ (i := 11) (N := some 82) (v := ?_) (a' := ?_) #[true, true, true, true, true, true, true, true, true, true, true, true, false, false, false, true, false, false, false] rfl rfl (any_of HT_.out (by kernel_rfl)) (fun _ _ _ h => h) (Or.inl ⟨by rfl, ?_⟩) ?_ ?_
                            rotate_left
                            · intro w'
                              go_simp
                              with_reducible rfl
                            rotate_left
                            · simp only [Act.put, List.setIfInBounds_toArray, List.set_cons_zero, List.set_cons_succ, i64_w, i32_w]
                              rfl
                            refine pure_ (i := 12) (N := some 94) (v := ?_) (a' := ?_) #[true, true, true, true, true, true, true, true, true, true, true, true, true, false, false, true, false, false, false] rfl rfl (any_of HT_.out (by kernel_rfl)) (fun _ _ _ h => h) (Or.inl ⟨by rfl, ?_⟩) ?_ ?_
                            rotate_left
                            · intro w'
                              go_simp
                              with_reducible rfl
                            rotate_left
                            · simp only [Act.put, List.setIfInBounds_toArray, List.set_cons_zero, List.set_cons_succ, i64_w, i32_w]
                              rfl
                            refine pure_ (i := 13) (N := some 95) (v := ?_) (a' := ?_) #[true, true, true, true, true, true, true, true, true, true, true, true, true, true, false, true, false, false, false] rfl rfl (any_of HT_.out (by kernel_rfl)) (fun _ _ _ h => h) (Or.inl ⟨by rfl, ?_⟩) ?_ ?_
                            rotate_left
                            · intro w'
                              go_simp
                              with_reducible rfl
                            rotate_left
                            · simp only [Act.put, List.setIfInBounds_toArray, List.set_cons_zero, List.set_cons_succ, i64_w, i32_w]
                              rfl
                            refine pure_ (i := 14) (N := some 96) (v := ?_) (a' := ?_) #[true, true, true, true, true, true, true, true, true, true, true, true, true, true, true, true, false, false, false] rfl rfl (any_of HT_.out (by kernel_rfl)) (fun _ _ _ h => h) (Or.inl ⟨by rfl, ?_⟩) ?_ ?_
                            rotate_left
                            · intro w'
                              go_simp
                              with_reducible rfl
                            rotate_left
                            · simp only [Act.put, List.setIfInBounds_toArray, List.set_cons_zero, List.set_cons_succ, i64_w, i32_w]
                              rfl
                            exact norm_ (by simp only [putAll, Act.put, List.setIfInBounds_toArray, List.set_cons_zero, List.set_cons_succ]) (hCont (.slice (some ado72) y121.length co72, ado72, gb132) _ ⟨hHeld, (by (with_reducible repeat (first | apply Kd.R_alloc | apply Kd.R_drewN | apply Kd.R_drew)); exact HO123.out), ⟨_, rfl⟩, (by (with_reducible repeat (first | refine blk_drewN ?_ _ | refine blk_drew ?_ | refine blk_alloc ?_ _)); exact BK108.out), (by (with_reducible repeat (first | refine blk_drewN ?_ _ | refine blk_drew ?_ | refine blk_alloc ?_ _)); exact BK109.out), (by (with_reducible repeat (first | refine blk_drewN ?_ _ | refine blk_drew ?_ | refine blk_alloc ?_ _)); exact BK120.out), (by (with_reducible repeat (first | refine blk_drewN ?_ _ | refine blk_drew ?_ | refine blk_alloc ?_ _)); exact BK132.out), GW132.out, GE132.out, NB108_132.out, NB132_108.out, NB109_132.out, NB132_109.out, NB120_132.out, NB132_120.out, (by repeat (first | (with_reducible first | exact HB.out | apply below_alloc | apply pw_below_drewN | apply below_drew1 | refine below_set ?_ GE108.out | refine below_set ?_ GE109.out | refine below_set ?_ GE120.out | refine below_set ?_ GE132.out) | exact HB.out))⟩)
                        rintro ⟨v122, adz_v122, gb132⟩ w74 ⟨hS_, h0_, h1_, h2_, h3_, h4_, h5_, h6_, h7_, h8_, h9_, h10_, h11_, h12_, h13_, h14_⟩
                        have n0_ : Aside0 (Kd.R (Kd.int .i64) 3 w74 w.heap.size (fun _ => True) v122 y121) := ⟨h0_⟩
                        have n1_ : Aside0 (∃ c_, (v122 : Value) = .slice (some adz_v122) y121.length c_) := ⟨h1_⟩
                        have n2_ : Aside0 (w74.heap[gb108]? = some (.cells #[.int .i64 t102, .int .i64 t103, .int .i64 t104, .string t105, .int .i64 t106] 23 (0, 0))) := ⟨h2_⟩
                        have n3_ : Aside0 (w74.heap[gb109]? = some (.cells #[.int .i64 x110000_5, .int .i64 x110001_5, .int .i64 x110002_5, .string x110003_5, .int .i64 x110004_5] 23 (0, 0))) := ⟨h3_⟩
                        have n4_ : Aside0 (w74.heap[gb120]? = some (.cells #[.int .i64 t113, .int .i64 t114, .int .i64 t115, .string t116, .int .i64 t117] 23 (0, 0))) := ⟨h4_⟩
                        have n5_ : Aside0 (w74.heap[gb132]? = some (.cells #[.int .i64 0, .int .i64 0, .int .i64 0, .string (⟨#[]⟩ : ByteArray), .int .i64 0] 23 (0, 0))) := ⟨h5_⟩
                        have n6_ : Aside0 (w.heap.size ≤ gb132) := ⟨h6_⟩
                        have n7_ : Aside0 (w.heap.size ≤ gb132) := ⟨h7_⟩
                        have n8_ : Aside0 (gb108 ≠ gb132) := ⟨h8_⟩
                        have n9_ : Aside0 (gb132 ≠ gb108) := ⟨h9_⟩
                        have n10_ : Aside0 (gb109 ≠ gb132) := ⟨h10_⟩
                        have n11_ : Aside0 (gb132 ≠ gb109) := ⟨h11_⟩
                        have n12_ : Aside0 (gb120 ≠ gb132) := ⟨h12_⟩
                        have n13_ : Aside0 (gb132 ≠ gb120) := ⟨h13_⟩
                        have n14_ : Aside0 (Below w.heap.size w w74) := ⟨h14_⟩
                        clear BK108
                        clear BK109
                        clear BK120
                        clear HB
                        clear h0_ h1_ h2_ h3_ h4_ h5_ h6_ h7_ h8_ h9_ h10_ h11_ h12_ h13_ h14_
                        have HO123 := n0_
                        have HA_HO123 := n1_
                        have BK108 := n2_
                        have BK109 := n3_
                        have BK120 := n4_
                        have BK132 := n5_
                        have GW132 := n6_
                        have GE132 := n7_
                        have NB108_132 := n8_
                        have NB132_108 := n9_
                        have NB109_132 := n10_
                        have NB132_109 := n11_
                        have NB120_132 := n12_
                        have NB132_120 := n13_
                        have HB := n14_
                        clear n0_ n1_ n2_ n3_ n4_ n5_ n6_ n7_ n8_ n9_ n10_ n11_ n12_ n13_ n14_
                        have hHeld : w74.cell? ⟨gb108, 0, none⟩ = some (.int .i64 t102) ∧ w74.cell? ⟨gb108, 1, none⟩ = some (.int .i64 t103) ∧ w74.cell? ⟨gb108, 2, none⟩ = some (.int .i64 t104) ∧ w74.cell? ⟨gb108, 3, none⟩ = some (.string t105) ∧ w74.cell? ⟨gb108, 4, none⟩ = some (.int .i64 t106) := hS_
                        obtain ⟨co75, eo75⟩ := HA_HO123.out
                        clear HA_HO123
                        subst eo75
                        refine norm_ (a' := ?_) ?_ ?_
                        rotate_left
                        · simp only [putAll, Act.put, List.setIfInBounds_toArray, List.set_cons_zero, List.set_cons_succ]
                          rfl
                        refine one_ (i := 16) (N := none) #[true, true, true, true, true, true, true, true, true, true, true, true, true, true, true, true, true, false, false] rfl rfl (one_of HT_.out (by kernel_rfl)) (by decide) (fun K hK => ?_)
                        have hs76 : w74.cell? ⟨gb132, 0, none⟩ = some (.int .i64 0) := (blk_cell BK132.out 0).trans rfl
                        have hfs76 := blk_frozen BK132.out 0
                        have hns76_0 := NB108_132.out
                        have hns76_1 := NB109_132.out
                        have hns76_2 := NB120_132.out
                        have hms76_0 := NB132_108.out
                        have hms76_1 := NB132_109.out
                        have hms76_2 := NB132_120.out
                        have hs77 : w74.cell? ⟨gb132, 1, none⟩ = some (.int .i64 0) := (blk_cell BK132.out 1).trans rfl
                        have hfs77 := blk_frozen BK132.out 1
                        have hns77_0 := NB108_132.out
                        have hns77_1 := NB109_132.out
                        have hns77_2 := NB120_132.out
                        have hms77_0 := NB132_108.out
                        have hms77_1 := NB132_109.out
                        have hms77_2 := NB132_120.out
                        have hs78 : w74.cell? ⟨gb132, 2, none⟩ = some (.int .i64 0) := (blk_cell BK132.out 2).trans rfl
                        have hfs78 := blk_frozen BK132.out 2
                        have hns78_0 := NB108_132.out
                        have hns78_1 := NB109_132.out
                        have hns78_2 := NB120_132.out
                        have hms78_0 := NB132_108.out
                        have hms78_1 := NB132_109.out
                        have hms78_2 := NB132_120.out
                        have hs79 : w74.cell? ⟨gb132, 3, none⟩ = some (.string (⟨#[]⟩ : ByteArray)) := (blk_cell BK132.out 3).trans rfl
                        have hfs79 := blk_frozen BK132.out 3
                        have hns79_0 := NB108_132.out
                        have hns79_1 := NB109_132.out
                        have hns79_2 := NB120_132.out
                        have hms79_0 := NB132_108.out
                        have hms79_1 := NB132_109.out
                        have hms79_2 := NB132_120.out
                        have hs80 : w74.cell? ⟨gb132, 4, none⟩ = some (.int .i64 0) := (blk_cell BK132.out 4).trans rfl
                        have hfs80 := blk_frozen BK132.out 4
                        have hns80_0 := NB108_132.out
                        have hns80_1 := NB109_132.out
                        have hns80_2 := NB120_132.out
                        have hms80_0 := NB132_108.out
                        have hms80_1 := NB132_109.out
                        have hms80_2 := NB132_120.out
                        refine skip_ (w1 := ?_) (by rfl) rfl ?_ ?_
                        rotate_left
                        · go_simp
                          rfl
                        refine hK.out _ _ ⟨((cell_far (p := ⟨gb132, _, none⟩) NB108_132.out _).trans (((cell_far (p := ⟨gb132, _, none⟩) NB108_132.out _).trans (((cell_far (p := ⟨gb132, _, none⟩) NB108_132.out _).trans (((cell_far (p := ⟨gb132, _, none⟩) NB108_132.out _).trans (((cell_far (p := ⟨gb132, _, none⟩) NB108_132.out _).trans (hHeld.1)))))))))), ((cell_far (p := ⟨gb132, _, none⟩) NB108_132.out _).trans (((cell_far (p := ⟨gb132, _, none⟩) NB108_132.out _).trans (((cell_far (p := ⟨gb132, _, none⟩) NB108_132.out _).trans (((cell_far (p := ⟨gb132, _, none⟩) NB108_132.out _).trans (((cell_far (p := ⟨gb132, _, none⟩) NB108_132.out _).trans (hHeld.2.1)))))))))), ((cell_far (p := ⟨gb132, _, none⟩) NB108_132.out _).trans (((cell_far (p := ⟨gb132, _, none⟩) NB108_132.out _).trans (((cell_far (p := ⟨gb132, _, none⟩) NB108_132.out _).trans (((cell_far (p := ⟨gb132, _, none⟩) NB108_132.out _).trans (((cell_far (p := ⟨gb132, _, none⟩) NB108_132.out _).trans (hHeld.2.2.1)))))))))), ((cell_far (p := ⟨gb132, _, none⟩) NB108_132.out _).trans (((cell_far (p := ⟨gb132, _, none⟩) NB108_132.out _).trans (((cell_far (p := ⟨gb132, _, none⟩) NB108_132.out _).trans (((cell_far (p := ⟨gb132, _, none⟩) NB108_132.out _).trans (((cell_far (p := ⟨gb132, _, none⟩) NB108_132.out _).trans (hHeld.2.2.2.1)))))))))), ((cell_far (p := ⟨gb132, _, none⟩) NB108_132.out _).trans (((cell_far (p := ⟨gb132, _, none⟩) NB108_132.out _).trans (((cell_far (p := ⟨gb132, _, none⟩) NB108_132.out _).trans (((cell_far (p := ⟨gb132, _, none⟩) NB108_132.out _).trans (((cell_far (p := ⟨gb132, _, none⟩) NB108_132.out _).trans (hHeld.2.2.2.2))))))))))⟩ (fun hHeld => ?_)
                        clear hK K
                        refine pure_ (i := 17) (N := some 13) (v := ?_) (a' := ?_) #[true, true, true, true, true, true, true, true, true, true, true, true, true, true, true, true, true, true, false] rfl rfl (any_of HT_.out (by kernel_rfl)) (fun _ _ _ h => h) (Or.inl ⟨by rfl, ?_⟩) ?_ ?_
                        rotate_left
                        · intro w'
                          go_simp
                          with_reducible rfl
                        rotate_left
                        · simp only [Act.put, List.setIfInBounds_toArray, List.set_cons_zero, List.set_cons_succ, i64_w, i32_w]
                          rfl
                        refine pure_ (i := 18) (N := some 14) (v := ?_) (a' := ?_) #[true, true, true, true, true, true, true, true, true, true, true, true, true, true, true, true, true, true, true] rfl rfl (any_of HT_.out (by kernel_rfl)) (fun _ _ _ h => h) (Or.inl ⟨by rfl, ?_⟩) ?_ ?_
                        rotate_left
                        · intro w'
                          go_simp
                          with_reducible rfl
                        rotate_left
                        · simp only [Act.put, List.setIfInBounds_toArray, List.set_cons_zero, List.set_cons_succ, i64_w, i32_w]
                          rfl
                        refine done_ (done_of HT_.out (by kernel_rfl)) ?_
                        try go_wp2_with (first | ((with_reducible refine gate_dst (N := 100) rfl ?_); refine Kd.R_make (Kd.int .u8) _ 5 rfl (N := 100) rfl 47 _ _ rfl ji47 rfl rfl Try.underlying47 (.int .u8 0) 1 info5 rfl (by decide) (by omega) 0 (ok := fun _ => True) (okp := fun _ => True) rfl (fun _ hk => hk) trivial (of_decide_eq_true (by first | (with_reducible assumption) | assumption)) (Nat.le_trans (Nat.mul_le_mul_right _ (of_decide_eq_true (by first | (with_reducible assumption) | assumption) : ji47.toNat ≤ 281474976710656)) (by omega)) (Below.refl _ _) (Nat.le_refl _) ?_; intro v134 w81 ho82 hb hg_ hnew_; clear hg_ hnew_; (first | rw [← Ny133.out] at ho82 | (simp only [Int.reduceToNat] at ho82; rw [← Ny133.out] at ho82)); have n0_ := Aside0.mk (Kd.R_below (by (with_reducible repeat (first | apply Kd.R_alloc | apply Kd.R_drewN | apply Kd.R_drew)); exact (Kd.R_mono (Kd.R_far (p := ⟨gb132, 4, none⟩) (Kd.R_far (p := ⟨gb132, 3, none⟩) (Kd.R_far (p := ⟨gb132, 2, none⟩) (Kd.R_far (p := ⟨gb132, 1, none⟩) (Kd.R_far (p := ⟨gb132, 0, none⟩) (Kd.R_types HO123.out BK132.out (by decide)) (fun _ hk => hk.2) (.int .i64 t125)) (fun _ hk => hk.2) (.int .i64 t126)) (fun _ hk => hk.2) (.int .i64 t127)) (fun _ hk => hk.2) (.string t128)) (fun _ hk => hk.2) (.int .i64 t129)) (fun _ h_ => h_.1))) hb); have n1_ := Aside0.mk (Kd.R_lower ho82 (below_size (by repeat (first | (with_reducible first | exact HB.out | apply below_alloc | apply pw_below_drewN | apply below_drew1 | refine below_set ?_ GE108.out | refine below_set ?_ GE109.out | refine below_set ?_ GE120.out | refine below_set ?_ GE132.out) | exact HB.out)))); have n2_ := Aside0.mk (blk_below (g := gb108) (o := .cells #[.int .i64 t102, .int .i64 t103, .int .i64 t104, .string t105, .int .i64 t106] 23 (0, 0)) (by (with_reducible repeat (first | refine blk_drewN ?_ _ | refine blk_drew ?_ | refine blk_alloc ?_ _)); refine blk_far ?_ NB108_132.out _; (with_reducible repeat (first | refine blk_drewN ?_ _ | refine blk_drew ?_ | refine blk_alloc ?_ _)); refine blk_far ?_ NB108_132.out _; (with_reducible repeat (first | refine blk_drewN ?_ _ | refine blk_drew ?_ | refine blk_alloc ?_ _)); refine blk_far ?_ NB108_132.out _; (with_reducible repeat (first | refine blk_drewN ?_ _ | refine blk_drew ?_ | refine blk_alloc ?_ _)); refine blk_far ?_ NB108_132.out _; (with_reducible repeat (first | refine blk_drewN ?_ _ | refine blk_drew ?_ | refine blk_alloc ?_ _)); refine blk_far ?_ NB108_132.out _; (with_reducible repeat (first | refine blk_drewN ?_ _ | refine blk_drew ?_ | refine blk_alloc ?_ _)); exact BK108.out) hb); have n3_ := Aside0.mk (blk_below (g := gb109) (o := .cells #[.int .i64 x110000_5, .int .i64 x110001_5, .int .i64 x110002_5, .string x110003_5, .int .i64 x110004_5] 23 (0, 0)) (by (with_reducible repeat (first | refine blk_drewN ?_ _ | refine blk_drew ?_ | refine blk_alloc ?_ _)); refine blk_far ?_ NB109_132.out _; (with_reducible repeat (first | refine blk_drewN ?_ _ | refine blk_drew ?_ | refine blk_alloc ?_ _)); refine blk_far ?_ NB109_132.out _; (with_reducible repeat (first | refine blk_drewN ?_ _ | refine blk_drew ?_ | refine blk_alloc ?_ _)); refine blk_far ?_ NB109_132.out _; (with_reducible repeat (first | refine blk_drewN ?_ _ | refine blk_drew ?_ | refine blk_alloc ?_ _)); refine blk_far ?_ NB109_132.out _; (with_reducible repeat (first | refine blk_drewN ?_ _ | refine blk_drew ?_ | refine blk_alloc ?_ _)); refine blk_far ?_ NB109_132.out _; (with_reducible repeat (first | refine blk_drewN ?_ _ | refine blk_drew ?_ | refine blk_alloc ?_ _)); exact BK109.out) hb); have n4_ := Aside0.mk (blk_below (g := gb120) (o := .cells #[.int .i64 t113, .int .i64 t114, .int .i64 t115, .string t116, .int .i64 t117] 23 (0, 0)) (by (with_reducible repeat (first | refine blk_drewN ?_ _ | refine blk_drew ?_ | refine blk_alloc ?_ _)); refine blk_far ?_ NB120_132.out _; (with_reducible repeat (first | refine blk_drewN ?_ _ | refine blk_drew ?_ | refine blk_alloc ?_ _)); refine blk_far ?_ NB120_132.out _; (with_reducible repeat (first | refine blk_drewN ?_ _ | refine blk_drew ?_ | refine blk_alloc ?_ _)); refine blk_far ?_ NB120_132.out _; (with_reducible repeat (first | refine blk_drewN ?_ _ | refine blk_drew ?_ | refine blk_alloc ?_ _)); refine blk_far ?_ NB120_132.out _; (with_reducible repeat (first | refine blk_drewN ?_ _ | refine blk_drew ?_ | refine blk_alloc ?_ _)); refine blk_far ?_ NB120_132.out _; (with_reducible repeat (first | refine blk_drewN ?_ _ | refine blk_drew ?_ | refine blk_alloc ?_ _)); exact BK120.out) hb); have n5_ := Aside0.mk (blk_below (g := gb132) (o := .cells #[.int .i64 t125, .int .i64 t126, .int .i64 t127, .string t128, .int .i64 t129] 23 (0, 0)) (by (with_reducible repeat (first | refine blk_drewN ?_ _ | refine blk_drew ?_ | refine blk_alloc ?_ _)); refine blk_put (cs := #[.int .i64 t125, .int .i64 t126, .int .i64 t127, .string t128, .int .i64 0]) ?_ 4 _ rfl; (with_reducible repeat (first | refine blk_drewN ?_ _ | refine blk_drew ?_ | refine blk_alloc ?_ _)); refine blk_put (cs := #[.int .i64 t125, .int .i64 t126, .int .i64 t127, .string (⟨#[]⟩ : ByteArray), .int .i64 0]) ?_ 3 _ rfl; (with_reducible repeat (first | refine blk_drewN ?_ _ | refine blk_drew ?_ | refine blk_alloc ?_ _)); refine blk_put (cs := #[.int .i64 t125, .int .i64 t126, .int .i64 0, .string (⟨#[]⟩ : ByteArray), .int .i64 0]) ?_ 2 _ rfl; (with_reducible repeat (first | refine blk_drewN ?_ _ | refine blk_drew ?_ | refine blk_alloc ?_ _)); refine blk_put (cs := #[.int .i64 t125, .int .i64 0, .int .i64 0, .string (⟨#[]⟩ : ByteArray), .int .i64 0]) ?_ 1 _ rfl; (with_reducible repeat (first | refine blk_drewN ?_ _ | refine blk_drew ?_ | refine blk_alloc ?_ _)); refine blk_put (cs := #[.int .i64 0, .int .i64 0, .int .i64 0, .string (⟨#[]⟩ : ByteArray), .int .i64 0]) ?_ 0 _ rfl; (with_reducible repeat (first | refine blk_drewN ?_ _ | refine blk_drew ?_ | refine blk_alloc ?_ _)); exact BK132.out) hb); have n6_ := Aside0.mk (below_step (by repeat (first | (with_reducible first | exact HB.out | apply below_alloc | apply pw_below_drewN | apply below_drew1 | refine below_set ?_ GE108.out | refine below_set ?_ GE109.out | refine below_set ?_ GE120.out | refine below_set ?_ GE132.out) | exact HB.out)) hb); clear HO123; clear BK108; clear BK109; clear BK120; clear BK132; clear HB; have HO123 := n0_; have HO135 := n1_; have BK108 := n2_; have BK109 := n3_; have BK120 := n4_; have BK132 := n5_; have HB := n6_; clear n0_ n1_ n2_ n3_ n4_ n5_ n6_; clear hb ho82; have hcv83 := own_string (P := Try.prog) Try.underlying47 Try.underlying5 Try.underlying9 (Kd.own_of_R HO135.out)) | ((with_reducible refine gate_callee (f := 10) rfl ?_); refine goesL_ (some 102) rfl rfl Try.func10 (by kernel_rfl) rfl #[.string (strOfNums y133)] rfl (by (try simp only [List.map_toArray, List.map_cons, List.map_nil]); first | done | rfl | (simp only [List.length_drop, List.length_take]; rfl)) ?_; (with_reducible refine (decoder_New.calls kj5 (strOfNums y133) t136 t137 t138 t139 t140 t141 _ A50.out).mono ?_); rintro e w84 ⟨rfl, hb⟩; refine ⟨_, rfl, ?_⟩; have n0_ := Aside0.mk (Kd.R_below (by (with_reducible repeat (first | apply Kd.R_alloc | apply Kd.R_drewN | apply Kd.R_drew)); exact HO123.out) hb); have n1_ := Aside0.mk (Kd.R_below (by (with_reducible repeat (first | apply Kd.R_alloc | apply Kd.R_drewN | apply Kd.R_drew)); exact HO135.out) hb); have n2_ := Aside0.mk (blk_below (g := gb108) (o := .cells #[.int .i64 t102, .int .i64 t103, .int .i64 t104, .string t105, .int .i64 t106] 23 (0, 0)) (by (with_reducible repeat (first | refine blk_drewN ?_ _ | refine blk_drew ?_ | refine blk_alloc ?_ _)); exact BK108.out) hb); have n3_ := Aside0.mk (blk_below (g := gb109) (o := .cells #[.int .i64 x110000_5, .int .i64 x110001_5, .int .i64 x110002_5, .string x110003_5, .int .i64 x110004_5] 23 (0, 0)) (by (with_reducible repeat (first | refine blk_drewN ?_ _ | refine blk_drew ?_ | refine blk_alloc ?_ _)); exact BK109.out) hb); have n4_ := Aside0.mk (blk_below (g := gb120) (o := .cells #[.int .i64 t113, .int .i64 t114, .int .i64 t115, .string t116, .int .i64 t117] 23 (0, 0)) (by (with_reducible repeat (first | refine blk_drewN ?_ _ | refine blk_drew ?_ | refine blk_alloc ?_ _)); exact BK120.out) hb); have n5_ := Aside0.mk (blk_below (g := gb132) (o := .cells #[.int .i64 t125, .int .i64 t126, .int .i64 t127, .string t128, .int .i64 t129] 23 (0, 0)) (by (with_reducible repeat (first | refine blk_drewN ?_ _ | refine blk_drew ?_ | refine blk_alloc ?_ _)); exact BK132.out) hb); have n6_ := Aside0.mk (below_step (by repeat (first | (with_reducible first | exact HB.out | apply below_alloc | apply pw_below_drewN | apply below_drew1 | refine below_set ?_ GE108.out | refine below_set ?_ GE109.out | refine below_set ?_ GE120.out | refine below_set ?_ GE132.out) | exact HB.out)) hb); clear HO123; clear HO135; clear BK108; clear BK109; clear BK120; clear BK132; clear HB; have HO123 := n0_; have HO135 := n1_; have BK108 := n2_; have BK109 := n3_; have BK120 := n4_; have BK132 := n5_; have HB := n6_; clear n0_ n1_ n2_ n3_ n4_ n5_ n6_; (try clear hb); (try clear hb2); (try clear hk); (try clear hi)) | ((with_reducible refine gate_dst (N := 15) rfl ?_); refine box_event ?hg (N := 15) ?hd (cs := #[.int .i64 0, .int .i64 0, .int .i64 0, .string (⟨#[]⟩ : ByteArray), .int .i64 0]) (t := 23) ?hr ?_; (case hd => rfl); (case hg => rfl); (case hr => first | (go_simp; done) | (go_simp; rfl)); intro gb142 hg w85 hbox hb; have n0_ := Aside0.mk (Kd.R_below (by (with_reducible repeat (first | apply Kd.R_alloc | apply Kd.R_drewN | apply Kd.R_drew)); exact HO123.out) hb); have n1_ := Aside0.mk (Kd.R_below (by (with_reducible repeat (first | apply Kd.R_alloc | apply Kd.R_drewN | apply Kd.R_drew)); exact HO135.out) hb); have n2_ := Aside0.mk (blk_below (g := gb108) (o := .cells #[.int .i64 t102, .int .i64 t103, .int .i64 t104, .string t105, .int .i64 t106] 23 (0, 0)) (by (with_reducible repeat (first | refine blk_drewN ?_ _ | refine blk_drew ?_ | refine blk_alloc ?_ _)); exact BK108.out) hb); have n3_ := Aside0.mk (blk_below (g := gb109) (o := .cells #[.int .i64 x110000_5, .int .i64 x110001_5, .int .i64 x110002_5, .string x110003_5, .int .i64 x110004_5] 23 (0, 0)) (by (with_reducible repeat (first | refine blk_drewN ?_ _ | refine blk_drew ?_ | refine blk_alloc ?_ _)); exact BK109.out) hb); have n4_ := Aside0.mk (blk_below (g := gb120) (o := .cells #[.int .i64 t113, .int .i64 t114, .int .i64 t115, .string t116, .int .i64 t117] 23 (0, 0)) (by (with_reducible repeat (first | refine blk_drewN ?_ _ | refine blk_drew ?_ | refine blk_alloc ?_ _)); exact BK120.out) hb); have n5_ := Aside0.mk (blk_below (g := gb132) (o := .cells #[.int .i64 t125, .int .i64 t126, .int .i64 t127, .string t128, .int .i64 t129] 23 (0, 0)) (by (with_reducible repeat (first | refine blk_drewN ?_ _ | refine blk_drew ?_ | refine blk_alloc ?_ _)); exact BK132.out) hb); have n6_ := Aside0.mk (below_step (by repeat (first | (with_reducible first | exact HB.out | apply below_alloc | apply pw_below_drewN | apply below_drew1 | refine below_set ?_ GE108.out | refine below_set ?_ GE109.out | refine below_set ?_ GE120.out | refine below_set ?_ GE132.out) | exact HB.out)) hb); have n7_ := Aside0.mk (hbox); have n8_ := Aside0.mk ((by rw [hg]; exact (below_size (by repeat (first | (with_reducible first | exact HB.out | apply below_alloc | apply pw_below_drewN | apply below_drew1 | refine below_set ?_ GE108.out | refine below_set ?_ GE109.out | refine below_set ?_ GE120.out | refine below_set ?_ GE132.out) | exact HB.out))) : w.heap.size ≤ gb142)); have n9_ := Aside0.mk ((by rw [hg]; exact (below_size (by repeat (first | (with_reducible first | exact HB.out | apply below_alloc | apply pw_below_drewN | apply below_drew1 | refine below_set ?_ GE108.out | refine below_set ?_ GE109.out | refine below_set ?_ GE120.out | refine below_set ?_ GE132.out) | exact HB.out))) : w.heap.size ≤ gb142)); have n10_ := Aside0.mk ((by rw [hg]; exact Nat.ne_of_lt (blk_lt (g := gb108) (o := .cells #[.int .i64 t102, .int .i64 t103, .int .i64 t104, .string t105, .int .i64 t106] 23 (0, 0)) (by (with_reducible repeat (first | refine blk_drewN ?_ _ | refine blk_drew ?_ | refine blk_alloc ?_ _)); exact BK108.out)) : gb108 ≠ gb142)); have n11_ := Aside0.mk ((by rw [hg]; exact Nat.ne_of_gt (blk_lt (g := gb108) (o := .cells #[.int .i64 t102, .int .i64 t103, .int .i64 t104, .string t105, .int .i64 t106] 23 (0, 0)) (by (with_reducible repeat (first | refine blk_drewN ?_ _ | refine blk_drew ?_ | refine blk_alloc ?_ _)); exact BK108.out)) : gb142 ≠ gb108)); have n12_ := Aside0.mk ((by rw [hg]; exact Nat.ne_of_lt (blk_lt (g := gb109) (o := .cells #[.int .i64 x110000_5, .int .i64 x110001_5, .int .i64 x110002_5, .string x110003_5, .int .i64 x110004_5] 23 (0, 0)) (by (with_reducible repeat (first | refine blk_drewN ?_ _ | refine blk_drew ?_ | refine blk_alloc ?_ _)); exact BK109.out)) : gb109 ≠ gb142)); have n13_ := Aside0.mk ((by rw [hg]; exact Nat.ne_of_gt (blk_lt (g := gb109) (o := .cells #[.int .i64 x110000_5, .int .i64 x110001_5, .int .i64 x110002_5, .string x110003_5, .int .i64 x110004_5] 23 (0, 0)) (by (with_reducible repeat (first | refine blk_drewN ?_ _ | refine blk_drew ?_ | refine blk_alloc ?_ _)); exact BK109.out)) : gb142 ≠ gb109)); have n14_ := Aside0.mk ((by rw [hg]; exact Nat.ne_of_lt (blk_lt (g := gb120) (o := .cells #[.int .i64 t113, .int .i64 t114, .int .i64 t115, .string t116, .int .i64 t117] 23 (0, 0)) (by (with_reducible repeat (first | refine blk_drewN ?_ _ | refine blk_drew ?_ | refine blk_alloc ?_ _)); exact BK120.out)) : gb120 ≠ gb142)); have n15_ := Aside0.mk ((by rw [hg]; exact Nat.ne_of_gt (blk_lt (g := gb120) (o := .cells #[.int .i64 t113, .int .i64 t114, .int .i64 t115, .string t116, .int .i64 t117] 23 (0, 0)) (by (with_reducible repeat (first | refine blk_drewN ?_ _ | refine blk_drew ?_ | refine blk_alloc ?_ _)); exact BK120.out)) : gb142 ≠ gb120)); have n16_ := Aside0.mk ((by rw [hg]; exact Nat.ne_of_lt (blk_lt (g := gb132) (o := .cells #[.int .i64 t125, .int .i64 t126, .int .i64 t127, .string t128, .int .i64 t129] 23 (0, 0)) (by (with_reducible repeat (first | refine blk_drewN ?_ _ | refine blk_drew ?_ | refine blk_alloc ?_ _)); exact BK132.out)) : gb132 ≠ gb142)); have n17_ := Aside0.mk ((by rw [hg]; exact Nat.ne_of_gt (blk_lt (g := gb132) (o := .cells #[.int .i64 t125, .int .i64 t126, .int .i64 t127, .string t128, .int .i64 t129] 23 (0, 0)) (by (with_reducible repeat (first | refine blk_drewN ?_ _ | refine blk_drew ?_ | refine blk_alloc ?_ _)); exact BK132.out)) : gb142 ≠ gb132)); clear HO123; clear HO135; clear BK108; clear BK109; clear BK120; clear BK132; clear HB; have HO123 := n0_; have HO135 := n1_; have BK108 := n2_; have BK109 := n3_; have BK120 := n4_; have BK132 := n5_; have HB := n6_; have BK142 := n7_; have GW142 := n8_; have GE142 := n9_; have NB108_142 := n10_; have NB142_108 := n11_; have NB109_142 := n12_; have NB142_109 := n13_; have NB120_142 := n14_; have NB142_120 := n15_; have NB132_142 := n16_; have NB142_132 := n17_; clear n0_ n1_ n2_ n3_ n4_ n5_ n6_ n7_ n8_ n9_ n10_ n11_ n12_ n13_ n14_ n15_ n16_ n17_; clear hb hbox hg; have hnb86 := NB142_108.out; have hnc86 := NB108_142.out; have hnb87 := NB142_109.out; have hnc87 := NB109_142.out; have hnb88 := NB142_120.out; have hnc88 := NB120_142.out; have hnb89 := NB142_132.out; have hnc89 := NB132_142.out; have hcz90_0 : w85.cell? ⟨gb142, 0, none⟩ = some (.int .i64 0) := (blk_cell BK142.out 0).trans rfl; have hcz90_1 : w85.cell? ⟨gb142, 1, none⟩ = some (.int .i64 0) := (blk_cell BK142.out 1).trans rfl; have hcz90_2 : w85.cell? ⟨gb142, 2, none⟩ = some (.int .i64 0) := (blk_cell BK142.out 2).trans rfl; have hcz90_3 : w85.cell? ⟨gb142, 3, none⟩ = some (.string (⟨#[]⟩ : ByteArray)) := (blk_cell BK142.out 3).trans rfl; have hcz90_4 : w85.cell? ⟨gb142, 4, none⟩ = some (.int .i64 0) := (blk_cell BK142.out 4).trans rfl; have hfz90_0 := blk_frozen BK142.out 0; have hfz90_1 := blk_frozen BK142.out 1; have hfz90_2 := blk_frozen BK142.out 2; have hfz90_3 := blk_frozen BK142.out 3; have hfz90_4 := blk_frozen BK142.out 4; have hnb91 := NB108_132.out; have hnc91 := NB132_108.out; have hcz92_0 : w85.cell? ⟨gb108, 0, none⟩ = some (.int .i64 t102) := (blk_cell BK108.out 0).trans rfl; have hcz92_1 : w85.cell? ⟨gb108, 1, none⟩ = some (.int .i64 t103) := (blk_cell BK108.out 1).trans rfl; have hcz92_2 : w85.cell? ⟨gb108, 2, none⟩ = some (.int .i64 t104) := (blk_cell BK108.out 2).trans rfl; have hcz92_3 : w85.cell? ⟨gb108, 3, none⟩ = some (.string t105) := (blk_cell BK108.out 3).trans rfl; have hcz92_4 : w85.cell? ⟨gb108, 4, none⟩ = some (.int .i64 t106) := (blk_cell BK108.out 4).trans rfl; have hfz92_0 := blk_frozen BK108.out 0; have hfz92_1 := blk_frozen BK108.out 1; have hfz92_2 := blk_frozen BK108.out 2; have hfz92_3 := blk_frozen BK108.out 3; have hfz92_4 := blk_frozen BK108.out 4) | ((with_reducible refine gate_callee (f := 13) rfl ?_); refine goesL_ (some 106) rfl rfl Try.func13 (by kernel_rfl) rfl #[.agg #[.int .i64 t102, .int .i64 t103, .int .i64 t104, .string t105, .int .i64 t106]] rfl (by (try simp only [List.map_toArray, List.map_cons, List.map_nil]); first | done | rfl | (simp only [List.length_drop, List.length_take]; rfl)) ?_; (with_reducible refine (decoder_May.calls t102 t103 t104 t105 t106 true _ A51.out).mono ?_); rintro e w93 ⟨rfl, hb⟩; refine ⟨_, rfl, ?_⟩; have n0_ := Aside0.mk (Kd.R_below (by (with_reducible repeat (first | apply Kd.R_alloc | apply Kd.R_drewN | apply Kd.R_drew)); exact (Kd.R_mono (Kd.R_far (p := ⟨gb142, 4, none⟩) (Kd.R_far (p := ⟨gb142, 3, none⟩) (Kd.R_far (p := ⟨gb142, 2, none⟩) (Kd.R_far (p := ⟨gb142, 1, none⟩) (Kd.R_far (p := ⟨gb142, 0, none⟩) (Kd.R_types HO123.out BK142.out (by decide)) (fun _ hk => hk.2) (.int .i64 t136)) (fun _ hk => hk.2) (.int .i64 t137)) (fun _ hk => hk.2) (.int .i64 t138)) (fun _ hk => hk.2) (.string t139)) (fun _ hk => hk.2) (.int .i64 t140)) (fun _ h_ => h_.1))) hb); have n1_ := Aside0.mk (Kd.R_below (by (with_reducible repeat (first | apply Kd.R_alloc | apply Kd.R_drewN | apply Kd.R_drew)); exact (Kd.R_mono (Kd.R_far (p := ⟨gb142, 4, none⟩) (Kd.R_far (p := ⟨gb142, 3, none⟩) (Kd.R_far (p := ⟨gb142, 2, none⟩) (Kd.R_far (p := ⟨gb142, 1, none⟩) (Kd.R_far (p := ⟨gb142, 0, none⟩) (Kd.R_types HO135.out BK142.out (by decide)) (fun _ hk => hk.2) (.int .i64 t136)) (fun _ hk => hk.2) (.int .i64 t137)) (fun _ hk => hk.2) (.int .i64 t138)) (fun _ hk => hk.2) (.string t139)) (fun _ hk => hk.2) (.int .i64 t140)) (fun _ h_ => h_.1))) hb); have n2_ := Aside0.mk (blk_below (g := gb108) (o := .cells #[.int .i64 t102, .int .i64 t103, .int .i64 t104, .string t105, .int .i64 t106] 23 (0, 0)) (by (with_reducible repeat (first | refine blk_drewN ?_ _ | refine blk_drew ?_ | refine blk_alloc ?_ _)); refine blk_far ?_ NB108_142.out _; (with_reducible repeat (first | refine blk_drewN ?_ _ | refine blk_drew ?_ | refine blk_alloc ?_ _)); refine blk_far ?_ NB108_142.out _; (with_reducible repeat (first | refine blk_drewN ?_ _ | refine blk_drew ?_ | refine blk_alloc ?_ _)); refine blk_far ?_ NB108_142.out _; (with_reducible repeat (first | refine blk_drewN ?_ _ | refine blk_drew ?_ | refine blk_alloc ?_ _)); refine blk_far ?_ NB108_142.out _; (with_reducible repeat (first | refine blk_drewN ?_ _ | refine blk_drew ?_ | refine blk_alloc ?_ _)); refine blk_far ?_ NB108_142.out _; (with_reducible repeat (first | refine blk_drewN ?_ _ | refine blk_drew ?_ | refine blk_alloc ?_ _)); exact BK108.out) hb); have n3_ := Aside0.mk (blk_below (g := gb109) (o := .cells #[.int .i64 x110000_5, .int .i64 x110001_5, .int .i64 x110002_5, .string x110003_5, .int .i64 x110004_5] 23 (0, 0)) (by (with_reducible repeat (first | refine blk_drewN ?_ _ | refine blk_drew ?_ | refine blk_alloc ?_ _)); refine blk_far ?_ NB109_142.out _; (with_reducible repeat (first | refine blk_drewN ?_ _ | refine blk_drew ?_ | refine blk_alloc ?_ _)); refine blk_far ?_ NB109_142.out _; (with_reducible repeat (first | refine blk_drewN ?_ _ | refine blk_drew ?_ | refine blk_alloc ?_ _)); refine blk_far ?_ NB109_142.out _; (with_reducible repeat (first | refine blk_drewN ?_ _ | refine blk_drew ?_ | refine blk_alloc ?_ _)); refine blk_far ?_ NB109_142.out _; (with_reducible repeat (first | refine blk_drewN ?_ _ | refine blk_drew ?_ | refine blk_alloc ?_ _)); refine blk_far ?_ NB109_142.out _; (with_reducible repeat (first | refine blk_drewN ?_ _ | refine blk_drew ?_ | refine blk_alloc ?_ _)); exact BK109.out) hb); have n4_ := Aside0.mk (blk_below (g := gb120) (o := .cells #[.int .i64 t113, .int .i64 t114, .int .i64 t115, .string t116, .int .i64 t117] 23 (0, 0)) (by (with_reducible repeat (first | refine blk_drewN ?_ _ | refine blk_drew ?_ | refine blk_alloc ?_ _)); refine blk_far ?_ NB120_142.out _; (with_reducible repeat (first | refine blk_drewN ?_ _ | refine blk_drew ?_ | refine blk_alloc ?_ _)); refine blk_far ?_ NB120_142.out _; (with_reducible repeat (first | refine blk_drewN ?_ _ | refine blk_drew ?_ | refine blk_alloc ?_ _)); refine blk_far ?_ NB120_142.out _; (with_reducible repeat (first | refine blk_drewN ?_ _ | refine blk_drew ?_ | refine blk_alloc ?_ _)); refine blk_far ?_ NB120_142.out _; (with_reducible repeat (first | refine blk_drewN ?_ _ | refine blk_drew ?_ | refine blk_alloc ?_ _)); refine blk_far ?_ NB120_142.out _; (with_reducible repeat (first | refine blk_drewN ?_ _ | refine blk_drew ?_ | refine blk_alloc ?_ _)); exact BK120.out) hb); have n5_ := Aside0.mk (blk_below (g := gb132) (o := .cells #[.int .i64 t125, .int .i64 t126, .int .i64 t127, .string t128, .int .i64 t129] 23 (0, 0)) (by (with_reducible repeat (first | refine blk_drewN ?_ _ | refine blk_drew ?_ | refine blk_alloc ?_ _)); refine blk_far ?_ NB132_142.out _; (with_reducible repeat (first | refine blk_drewN ?_ _ | refine blk_drew ?_ | refine blk_alloc ?_ _)); refine blk_far ?_ NB132_142.out _; (with_reducible repeat (first | refine blk_drewN ?_ _ | refine blk_drew ?_ | refine blk_alloc ?_ _)); refine blk_far ?_ NB132_142.out _; (with_reducible repeat (first | refine blk_drewN ?_ _ | refine blk_drew ?_ | refine blk_alloc ?_ _)); refine blk_far ?_ NB132_142.out _; (with_reducible repeat (first | refine blk_drewN ?_ _ | refine blk_drew ?_ | refine blk_alloc ?_ _)); refine blk_far ?_ NB132_142.out _; (with_reducible repeat (first | refine blk_drewN ?_ _ | refine blk_drew ?_ | refine blk_alloc ?_ _)); exact BK132.out) hb); have n6_ := Aside0.mk (blk_below (g := gb142) (o := .cells #[.int .i64 t136, .int .i64 t137, .int .i64 t138, .string t139, .int .i64 t140] 23 (0, 0)) (by (with_reducible repeat (first | refine blk_drewN ?_ _ | refine blk_drew ?_ | refine blk_alloc ?_ _)); refine blk_put (cs := #[.int .i64 t136, .int .i64 t137, .int .i64 t138, .string t139, .int .i64 0]) ?_ 4 _ rfl; (with_reducible repeat (first | refine blk_drewN ?_ _ | refine blk_drew ?_ | refine blk_alloc ?_ _)); refine blk_put (cs := #[.int .i64 t136, .int .i64 t137, .int .i64 t138, .string (⟨#[]⟩ : ByteArray), .int .i64 0]) ?_ 3 _ rfl; (with_reducible repeat (first | refine blk_drewN ?_ _ | refine blk_drew ?_ | refine blk_alloc ?_ _)); refine blk_put (cs := #[.int .i64 t136, .int .i64 t137, .int .i64 0, .string (⟨#[]⟩ : ByteArray), .int .i64 0]) ?_ 2 _ rfl; (with_reducible repeat (first | refine blk_drewN ?_ _ | refine blk_drew ?_ | refine blk_alloc ?_ _)); refine blk_put (cs := #[.int .i64 t136, .int .i64 0, .int .i64 0, .string (⟨#[]⟩ : ByteArray), .int .i64 0]) ?_ 1 _ rfl; (with_reducible repeat (first | refine blk_drewN ?_ _ | refine blk_drew ?_ | refine blk_alloc ?_ _)); refine blk_put (cs := #[.int .i64 0, .int .i64 0, .int .i64 0, .string (⟨#[]⟩ : ByteArray), .int .i64 0]) ?_ 0 _ rfl; (with_reducible repeat (first | refine blk_drewN ?_ _ | refine blk_drew ?_ | refine blk_alloc ?_ _)); exact BK142.out) hb); have n7_ := Aside0.mk (below_step (by repeat (first | (with_reducible first | exact HB.out | apply below_alloc | apply pw_below_drewN | apply below_drew1 | refine below_set ?_ GE108.out | refine below_set ?_ GE109.out | refine below_set ?_ GE120.out | refine below_set ?_ GE132.out | refine below_set ?_ GE142.out) | exact HB.out)) hb); clear HO123; clear HO135; clear BK108; clear BK109; clear BK120; clear BK132; clear BK142; clear HB; have HO123 := n0_; have HO135 := n1_; have BK108 := n2_; have BK109 := n3_; have BK120 := n4_; have BK132 := n5_; have BK142 := n6_; have HB := n7_; clear n0_ n1_ n2_ n3_ n4_ n5_ n6_ n7_; (try clear hb); (try clear hb2); (try clear hk); (try clear hi); have hnb94 := NB109_132.out; have hnc94 := NB132_109.out; have hcz95_0 : w93.cell? ⟨gb109, 0, none⟩ = some (.int .i64 x110000_5) := (blk_cell BK109.out 0).trans rfl; have hcz95_1 : w93.cell? ⟨gb109, 1, none⟩ = some (.int .i64 x110001_5) := (blk_cell BK109.out 1).trans rfl; have hcz95_2 : w93.cell? ⟨gb109, 2, none⟩ = some (.int .i64 x110002_5) := (blk_cell BK109.out 2).trans rfl; have hcz95_3 : w93.cell? ⟨gb109, 3, none⟩ = some (.string x110003_5) := (blk_cell BK109.out 3).trans rfl; have hcz95_4 : w93.cell? ⟨gb109, 4, none⟩ = some (.int .i64 x110004_5) := (blk_cell BK109.out 4).trans rfl; have hfz95_0 := blk_frozen BK109.out 0; have hfz95_1 := blk_frozen BK109.out 1; have hfz95_2 := blk_frozen BK109.out 2; have hfz95_3 := blk_frozen BK109.out 3; have hfz95_4 := blk_frozen BK109.out 4) | (go_at_call 13; (with_reducible refine (decoder_May.calls x110000_5 x110001_5 x110002_5 x110003_5 x110004_5 false _ A53.out).mono ?_); rintro e w96 ⟨rfl, hb⟩; have n0_ := Aside0.mk (Kd.R_below (by (with_reducible repeat (first | apply Kd.R_alloc | apply Kd.R_drewN | apply Kd.R_drew)); exact HO123.out) hb); have n1_ := Aside0.mk (Kd.R_below (by (with_reducible repeat (first | apply Kd.R_alloc | apply Kd.R_drewN | apply Kd.R_drew)); exact HO135.out) hb); have n2_ := Aside0.mk (blk_below (g := gb108) (o := .cells #[.int .i64 t102, .int .i64 t103, .int .i64 t104, .string t105, .int .i64 t106] 23 (0, 0)) (by (with_reducible repeat (first | refine blk_drewN ?_ _ | refine blk_drew ?_ | refine blk_alloc ?_ _)); exact BK108.out) hb); have n3_ := Aside0.mk (blk_below (g := gb109) (o := .cells #[.int .i64 x110000_5, .int .i64 x110001_5, .int .i64 x110002_5, .string x110003_5, .int .i64 x110004_5] 23 (0, 0)) (by (with_reducible repeat (first | refine blk_drewN ?_ _ | refine blk_drew ?_ | refine blk_alloc ?_ _)); exact BK109.out) hb); have n4_ := Aside0.mk (blk_below (g := gb120) (o := .cells #[.int .i64 t113, .int .i64 t114, .int .i64 t115, .string t116, .int .i64 t117] 23 (0, 0)) (by (with_reducible repeat (first | refine blk_drewN ?_ _ | refine blk_drew ?_ | refine blk_alloc ?_ _)); exact BK120.out) hb); have n5_ := Aside0.mk (blk_below (g := gb132) (o := .cells #[.int .i64 t125, .int .i64 t126, .int .i64 t127, .string t128, .int .i64 t129] 23 (0, 0)) (by (with_reducible repeat (first | refine blk_drewN ?_ _ | refine blk_drew ?_ | refine blk_alloc ?_ _)); exact BK132.out) hb); have n6_ := Aside0.mk (blk_below (g := gb142) (o := .cells #[.int .i64 t136, .int .i64 t137, .int .i64 t138, .string t139, .int .i64 t140] 23 (0, 0)) (by (with_reducible repeat (first | refine blk_drewN ?_ _ | refine blk_drew ?_ | refine blk_alloc ?_ _)); exact BK142.out) hb); have n7_ := Aside0.mk (below_step (by repeat (first | (with_reducible first | exact HB.out | apply below_alloc | apply pw_below_drewN | apply below_drew1 | refine below_set ?_ GE108.out | refine below_set ?_ GE109.out | refine below_set ?_ GE120.out | refine below_set ?_ GE132.out | refine below_set ?_ GE142.out) | exact HB.out)) hb); clear HO123; clear HO135; clear BK108; clear BK109; clear BK120; clear BK132; clear BK142; clear HB; have HO123 := n0_; have HO135 := n1_; have BK108 := n2_; have BK109 := n3_; have BK120 := n4_; have BK132 := n5_; have BK142 := n6_; have HB := n7_; clear n0_ n1_ n2_ n3_ n4_ n5_ n6_ n7_; (try clear hb); (try clear hb2); (try clear hk); (try clear hi)) | (go_at_call 12; (with_reducible refine (descantlaw0_Num.calls t119 t145 _ A55.out).mono ?_); rintro e w' ⟨rfl, ⟨nd, rfl⟩⟩) | (go_at_call 12; (with_reducible refine (descantlaw0_Num.calls t131 t146 _ A57.out).mono ?_); rintro e w' ⟨rfl, ⟨nd, rfl⟩⟩) | (go_at_call 12; (with_reducible refine (descantlaw0_Num.calls t141 t147 _ A59.out).mono ?_); rintro e w' ⟨rfl, ⟨nd, rfl⟩⟩))
                        go_ret
                        exact ⟨by first | rfl | (simp [errW_none, errW_some] <;> rfl) | (simp only [← hji47]; first | rfl | (simp [errW_none, errW_some] <;> rfl)) | (simp [*, errW_none, errW_some] <;> rfl), by repeat (first | (with_reducible first | exact HB.out | apply below_alloc | apply pw_below_drewN | apply below_drew1 | refine below_set ?_ GE108.out | refine below_set ?_ GE109.out | refine below_set ?_ GE120.out | refine below_set ?_ GE132.out | refine below_set ?_ GE142.out) | exact HB.out)⟩
                      · rw [if_neg c58] at H
                        have c58b0 : (t146 == 500) = false := beq_eq_false_iff_ne.mpr c58
                        have c58b1 : (t146 != 500) = true := bne_iff_ne.mpr c58
                        exact absurd H (by simp)
                    · rw [if_neg c56] at H
                      have c56b0 : (t145 == 500) = false := beq_eq_false_iff_ne.mpr c56
                      have c56b1 : (t145 != 500) = true := bne_iff_ne.mpr c56
                      exact absurd H (by simp)
                · replace c52 := Bool.eq_false_iff.mpr c52
                  subst c52
                  have H1 : (some false) = some true := by rw [if_neg (show ¬ (false = true) by decide)] at H; exact H
                  clear H
                  have H := H1
                  clear H1
                  exact absurd H (by simp)
              · rw [if_neg c49] at H
                exact absurd H (by simp)
            · rw [if_neg c48] at H
              exact absurd H (by simp)
          · rw [if_neg c45] at H
            exact absurd H (by simp)
        · rw [if_neg c44] at H
          exact absurd H (by simp)
  · replace c4 := Bool.eq_false_iff.mpr c4
    subst c4
    have H1 : (some false) = some true := by rw [if_neg (show ¬ (false = true) by decide)] at H; exact H
    clear H
    have H := H1
    clear H1
    exact absurd H (by simp)

/-- THE ONE PURE STATEMENT of descantlaw5_DecoderForms: yours. -/
def descantlaw5_DecoderForms.Pure : Prop := ∀ (a0 : Int) (a1 : Int), (Lit.int .i64 a0).wf = true → (Lit.int .i64 a1).wf = true → ∃ k, descantlaw5_DecoderForms.f k a0 a1 = some true
theorem descantlaw5_DecoderForms.walk (P : descantlaw5_DecoderForms.Pure) (a0 : Int) (a1 : Int) (w : World) (w0 : (Lit.int .i64 a0).wf = true) (w1 : (Lit.int .i64 a1).wf = true) :
    Calls Try.prog 5 #[.int .i64 a0, .int .i64 a1] w fun e w' => e = .returned (.bool true) ∧ Below w.heap.size w w' := by
  obtain ⟨k, h⟩ := P a0 a1 w0 w1
  refine (descantlaw5_DecoderForms.calls k a0 a1 true w rfl h).mono ?_
  rintro e w' ⟨rfl, hd⟩
  exact ⟨rfl, hd⟩

end Go.Proofs.Ytbhmpmhjklkghaa.RDecoderForms
