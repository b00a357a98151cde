-- Laid by a program of this session (wip/myprint.py), over the kit's print of the translation. Not trusted: Lean checks it.
import Derived.Test.YtbhmpmhjklkghaaRDecoderZerosx0
namespace Go.Proofs.Ytbhmpmhjklkghaa.RDecoderZeros
open Go.RowKit Go.Proofs.Ytbhmpmhjklkghaa Go.Proofs.Ytbhmpmhjklkghaa.CBase Go.Proofs.YtbhmpmhjklkghaaW.PrintWords Go.Proofs.YtbhmpmhjklkghaaW.PrintLast Go.Proofs.YtbhmpmhjklkghaaW.PrintMore
attribute [local go_sem] max2_int min2_int max_two min_two max_three min_three max_four min_four   -- for this text's walks alone
set_option linter.unusedVariables false
set_option linter.unusedSimpArgs false

/-! ### descantlaw5_DecoderZeros: function 6 -/
mutual
def descantlaw5_DecoderZeros.j0 : Nat → ByteArray → List Int → Bool → Int → Int → Int → ByteArray → Int → Int → Int → Int → ByteArray → Int → Option (Bool)
  | 0, _, _, _, _, _, _, _, _, _, _, _, _, _ => none
  | k + 1, x0, x1, x36, x109000, x109001, x109002, x109003, x109004, x116000, x116001, x116002, x116003, x116004 => if x36 = true then (some (decide ((wrap64 ((x0.size : Int) + 3)) > 65536))) else (descantlaw5_DecoderZeros.l0 k x1 0 x109000 x109001 x109002 x109003 x109004 x116000 x116001 x116002 x116003 x116004)
def descantlaw5_DecoderZeros.l0 : Nat → List Int → Int → Int → Int → Int → ByteArray → Int → Int → Int → Int → ByteArray → Int → Option (Bool)
  | 0, _, _, _, _, _, _, _, _, _, _, _, _ => none
  | k + 1, x1, x9, x109000, x109001, x109002, x109003, x109004, x116000, x116001, x116002, x116003, x116004 => if x9 < (x1.length : Int) then (descantlaw5_DecoderZeros.j2 k x1 x9 (decide (x9 < 60)) x109000 x109001 x109002 x109003 x109004 x116000 x116001 x116002 x116003 x116004) else (descantlaw5_DecoderZeros.j2 k x1 x9 false x109000 x109001 x109002 x109003 x109004 x116000 x116001 x116002 x116003 x116004)
def descantlaw5_DecoderZeros.j2 : Nat → List Int → Int → Bool → Int → Int → Int → ByteArray → Int → Int → Int → Int → ByteArray → Int → Option (Bool)
  | 0, _, _, _, _, _, _, _, _, _, _, _, _, _ => none
  | k + 1, x1, x9, x48, x109000, x109001, x109002, x109003, x109004, x116000, x116001, x116002, x116003, x116004 => if x48 = true then (if 0 ≤ x9 then (if x9 < (x1.length : Int) then ((decoder_Bit.f x109000 x109001 x109002 x109003 x109004 (wrap64 (1 + (Go.bits .and .i64 (rd x1 x9) 4094)))).bind fun bt119 => ((decoder_Bit.f x116000 x116001 x116002 x116003 x116004 (wrap64 (1 + (Go.bits .and .i64 (rd x1 x9) 4094)))).bind fun bt128 => ((descantlaw0_Num.f bt119.2.2.2.2.2.2).bind fun t136 => (if t136 = 0 then ((descantlaw0_Num.f bt128.2.2.2.2.2.2).bind fun t137 => (if t137 = 0 then (if bt119.2.2.2.2.2.1 = bt128.2.2.2.2.2.1 then (if bt119.1 = bt128.1 then (if bt119.2.1 = bt128.2.1 then (if bt119.2.2.1 = bt128.2.2.1 then (if bt119.2.2.2.2.1 = bt128.2.2.2.2.1 then (descantlaw5_DecoderZeros.l0 k x1 (wrap64 (x9 + 1)) bt119.1 bt119.2.1 bt119.2.2.1 bt119.2.2.2.1 bt119.2.2.2.2.1 bt128.1 bt128.2.1 bt128.2.2.1 bt128.2.2.2.1 bt128.2.2.2.2.1) else (some false)) else (some false)) else (some false)) else (some false)) else (some false)) else (some false))) else (some false))))) else (none)) else (none)) else (some true)
end
def descantlaw5_DecoderZeros.f (k : Nat) (a0 : ByteArray) (l1 : List Int) : Option (Bool) := (descantlaw5_awake.f).bind fun t101 => (if t101 = true then ((decoder_New.f k a0).bind fun bt102 => (if a0.size + 3 ≤ 9223372036854775807 then ((decoder_New.f k (a0 ++ (⟨#[0, 0, 0]⟩ : ByteArray))).bind fun bt109 => ((descantlaw0_Num.f bt102.2.2.2.2.2).bind fun t116 => (if t116 = 0 then ((descantlaw0_Num.f bt109.2.2.2.2.2).bind fun t117 => (descantlaw5_DecoderZeros.j0 k a0 l1 (t117 != 0) bt102.1 bt102.2.1 bt102.2.2.1 bt102.2.2.2.1 bt102.2.2.2.2.1 bt109.1 bt109.2.1 bt109.2.2.1 bt109.2.2.2.1 bt109.2.2.2.2.1)) else (descantlaw5_DecoderZeros.j0 k a0 l1 true bt102.1 bt102.2.1 bt102.2.2.1 bt102.2.2.2.1 bt102.2.2.2.2.1 bt109.1 bt109.2.1 bt109.2.2.1 bt109.2.2.2.1 bt109.2.2.2.2.1)))) else (none))) else (some false))
theorem descantlaw5_DecoderZeros.mono_l : ∀ k, (∀ y0 y1 y2 y3 y4 y5 y6 y7 y8 y9 y10 y11 y12, LeO (descantlaw5_DecoderZeros.j0 k y0 y1 y2 y3 y4 y5 y6 y7 y8 y9 y10 y11 y12) (descantlaw5_DecoderZeros.j0 (k + 1) y0 y1 y2 y3 y4 y5 y6 y7 y8 y9 y10 y11 y12)) ∧ (∀ y0 y1 y2 y3 y4 y5 y6 y7 y8 y9 y10 y11, LeO (descantlaw5_DecoderZeros.l0 k y0 y1 y2 y3 y4 y5 y6 y7 y8 y9 y10 y11) (descantlaw5_DecoderZeros.l0 (k + 1) y0 y1 y2 y3 y4 y5 y6 y7 y8 y9 y10 y11)) ∧ (∀ y0 y1 y2 y3 y4 y5 y6 y7 y8 y9 y10 y11 y12, LeO (descantlaw5_DecoderZeros.j2 k y0 y1 y2 y3 y4 y5 y6 y7 y8 y9 y10 y11 y12) (descantlaw5_DecoderZeros.j2 (k + 1) y0 y1 y2 y3 y4 y5 y6 y7 y8 y9 y10 y11 y12))
  | 0 => ⟨fun _ _ _ _ _ _ _ _ _ _ _ _ _ r h => by simp [descantlaw5_DecoderZeros.j0] at h, fun _ _ _ _ _ _ _ _ _ _ _ _ r h => by simp [descantlaw5_DecoderZeros.l0] at h, fun _ _ _ _ _ _ _ _ _ _ _ _ _ r h => by simp [descantlaw5_DecoderZeros.j2] at h⟩
  | k + 1 => by
    obtain ⟨ih0, ih1, ih2⟩ := descantlaw5_DecoderZeros.mono_l k
    refine ⟨?_, ?_, ?_⟩
    · intro y0 y1 y2 y3 y4 y5 y6 y7 y8 y9 y10 y11 y12
      unfold descantlaw5_DecoderZeros.j0
      repeat' first
      | (with_reducible exact ih0 _ _ _ _ _ _ _ _ _ _ _ _ _)
      | (with_reducible exact ih1 _ _ _ _ _ _ _ _ _ _ _ _)
      | (with_reducible exact ih2 _ _ _ _ _ _ _ _ _ _ _ _ _)
      | (with_reducible exact decoder_New.mono _ _)
      | (with_reducible exact LeO.refl _)
      | (with_reducible exact LeO.none _)
      | (with_reducible refine LeO.ite ?_ ?_)
      | (with_reducible refine LeO.bind ?_ (fun _ => ?_))
      | exact ih0 _ _ _ _ _ _ _ _ _ _ _ _ _
      | exact ih1 _ _ _ _ _ _ _ _ _ _ _ _
      | exact ih2 _ _ _ _ _ _ _ _ _ _ _ _ _
      | exact decoder_New.mono _ _
      | exact LeO.none _
      | refine LeO.ite ?_ ?_
      | refine LeO.bind ?_ (fun _ => ?_)
    · intro y0 y1 y2 y3 y4 y5 y6 y7 y8 y9 y10 y11
      unfold descantlaw5_DecoderZeros.l0
      repeat' first
      | (with_reducible exact ih0 _ _ _ _ _ _ _ _ _ _ _ _ _)
      | (with_reducible exact ih1 _ _ _ _ _ _ _ _ _ _ _ _)
      | (with_reducible exact ih2 _ _ _ _ _ _ _ _ _ _ _ _ _)
      | (with_reducible exact decoder_New.mono _ _)
      | (with_reducible exact LeO.refl _)
      | (with_reducible exact LeO.none _)
      | (with_reducible refine LeO.ite ?_ ?_)
      | (with_reducible refine LeO.bind ?_ (fun _ => ?_))
      | exact ih0 _ _ _ _ _ _ _ _ _ _ _ _ _
      | exact ih1 _ _ _ _ _ _ _ _ _ _ _ _
      | exact ih2 _ _ _ _ _ _ _ _ _ _ _ _ _
      | exact decoder_New.mono _ _
      | exact LeO.none _
      | refine LeO.ite ?_ ?_
      | refine LeO.bind ?_ (fun _ => ?_)
    · intro y0 y1 y2 y3 y4 y5 y6 y7 y8 y9 y10 y11 y12
      unfold descantlaw5_DecoderZeros.j2
      repeat' first
      | (with_reducible exact ih0 _ _ _ _ _ _ _ _ _ _ _ _ _)
      | (with_reducible exact ih1 _ _ _ _ _ _ _ _ _ _ _ _)
      | (with_reducible exact ih2 _ _ _ _ _ _ _ _ _ _ _ _ _)
      | (with_reducible exact decoder_New.mono _ _)
      | (with_reducible exact LeO.refl _)
      | (with_reducible exact LeO.none _)
      | (with_reducible refine LeO.ite ?_ ?_)
      | (with_reducible refine LeO.bind ?_ (fun _ => ?_))
      | exact ih0 _ _ _ _ _ _ _ _ _ _ _ _ _
      | exact ih1 _ _ _ _ _ _ _ _ _ _ _ _
      | exact ih2 _ _ _ _ _ _ _ _ _ _ _ _ _
      | exact decoder_New.mono _ _
      | exact LeO.none _
      | refine LeO.ite ?_ ?_
      | refine LeO.bind ?_ (fun _ => ?_)
theorem descantlaw5_DecoderZeros.mono : ∀ a0 a1 k, LeO (descantlaw5_DecoderZeros.f k a0 a1) (descantlaw5_DecoderZeros.f (k + 1) a0 a1) := by
  intro a0 a1 k
  obtain ⟨ih0, ih1, ih2⟩ := descantlaw5_DecoderZeros.mono_l k
  unfold descantlaw5_DecoderZeros.f
  repeat' first
      | (with_reducible exact ih0 _ _ _ _ _ _ _ _ _ _ _ _ _)
      | (with_reducible exact ih1 _ _ _ _ _ _ _ _ _ _ _ _)
      | (with_reducible exact ih2 _ _ _ _ _ _ _ _ _ _ _ _ _)
      | (with_reducible exact decoder_New.mono _ _)
      | (with_reducible exact LeO.refl _)
      | (with_reducible exact LeO.none _)
      | (with_reducible refine LeO.ite ?_ ?_)
      | (with_reducible refine LeO.bind ?_ (fun _ => ?_))
      | exact ih0 _ _ _ _ _ _ _ _ _ _ _ _ _
      | exact ih1 _ _ _ _ _ _ _ _ _ _ _ _
      | exact ih2 _ _ _ _ _ _ _ _ _ _ _ _ _
      | exact decoder_New.mono _ _
      | exact LeO.none _
      | refine LeO.ite ?_ ?_
      | refine LeO.bind ?_ (fun _ => ?_)
def descantlaw5_DecoderZeros.T10 : Bool × List (List Nat × List Nat) := (true, [([], []), ([], []), ([], []), ([1, 2], [1, 2]), ([3], [3]), ([4], [4]), ([5], [5]), ([0, 6], [0, 6]), ([7], [7]), ([8], [8]), ([8], [8]), ([8], [8]), ([], []), ([12, 9, 7, 0, 1, 2, 3, 4, 5, 6, 7, 8, 9, 12], [9, 12]), ([10, 13, 0, 1, 2, 3, 4, 5, 6, 7, 8, 9, 10, 12, 13], [10]), ([11, 14, 0, 1, 2, 3, 4, 5, 6, 7, 8, 9, 10, 11, 12, 13, 14], [11])])
def descantlaw5_DecoderZeros.B10 : List Nat := [0, 0, 0, 6, 14, 30, 62, 127, 255, 511, 511, 511, 0, 5119, 14335, 32767]
theorem descantlaw5_DecoderZeros.tab10 : rtab .any (opsOf Try.f6 10) = descantlaw5_DecoderZeros.T10 := by kernel_rfl
theorem descantlaw5_DecoderZeros.bits10 : waitsOk descantlaw5_DecoderZeros.T10.2 descantlaw5_DecoderZeros.B10 = true := by kernel_rfl
def descantlaw5_DecoderZeros.T11 : Bool × List (List Nat × List Nat) := (true, [([], []), ([], []), ([], []), ([1, 2], [1, 2]), ([3], [3]), ([4], [4]), ([5], [5]), ([0, 6], [0, 6]), ([7], [7]), ([8], [8]), ([8], [8]), ([8], [8]), ([], []), ([12, 9, 7, 0, 1, 2, 3, 4, 5, 6, 7, 8, 9, 12], [9, 12]), ([10, 13, 0, 1, 2, 3, 4, 5, 6, 7, 8, 9, 10, 12, 13], [10]), ([11, 14, 0, 1, 2, 3, 4, 5, 6, 7, 8, 9, 10, 11, 12, 13, 14], [11])])
def descantlaw5_DecoderZeros.B11 : List Nat := [0, 0, 0, 6, 14, 30, 62, 127, 255, 511, 511, 511, 0, 5119, 14335, 32767]
theorem descantlaw5_DecoderZeros.tab11 : rtab .any (opsOf Try.f6 11) = descantlaw5_DecoderZeros.T11 := by kernel_rfl
theorem descantlaw5_DecoderZeros.bits11 : waitsOk descantlaw5_DecoderZeros.T11.2 descantlaw5_DecoderZeros.B11 = true := by kernel_rfl
set_option maxHeartbeats 8000000 in
set_option maxRecDepth 100000 in
theorem descantlaw5_DecoderZeros.calls (k : Nat) (a0 : ByteArray) (A1 : Option Addr) (c1 : Nat) (l1 : List Int) (r : Bool) (w : World) (hr1 : Kd.C (Kd.int .i64) w A1 l1.length l1) (hc1 : l1.length ≤ c1) (hr_ : r = true) (h : descantlaw5_DecoderZeros.f k a0 l1 = some r) :
    Calls Try.prog 6 #[.string a0, .slice A1 l1.length c1] w fun e w' => e = .returned (.bool r) ∧ Below w.heap.size w w' := by
  have hu23 := Try.underlying23
  have HR1 := Aside0.mk hr1
  have HC1 := Aside0.mk hc1
  clear hr1 hc1
  have HB := Aside0.mk (Below.refl w.heap.size w)
  subst hr_
  have H : ((descantlaw5_awake.f).bind fun t101 => (if t101 = true then ((decoder_New.f k a0).bind fun bt102 => (if a0.size + 3 ≤ 9223372036854775807 then ((decoder_New.f k (a0 ++ (⟨#[0, 0, 0]⟩ : ByteArray))).bind fun bt109 => ((descantlaw0_Num.f bt102.2.2.2.2.2).bind fun t116 => (if t116 = 0 then ((descantlaw0_Num.f bt109.2.2.2.2.2).bind fun t117 => (descantlaw5_DecoderZeros.j0 k a0 l1 (t117 != 0) bt102.1 bt102.2.1 bt102.2.2.1 bt102.2.2.2.1 bt102.2.2.2.2.1 bt109.1 bt109.2.1 bt109.2.2.1 bt109.2.2.2.1 bt109.2.2.2.2.1)) else (descantlaw5_DecoderZeros.j0 k a0 l1 true bt102.1 bt102.2.1 bt102.2.2.1 bt102.2.2.2.1 bt102.2.2.2.2.1 bt109.1 bt109.2.1 bt109.2.2.1 bt109.2.2.2.1 bt109.2.2.2.2.1)))) else (none))) else (some false))) = some true := h
  clear h
  replace H := Option.bind_eq_some_iff.mp H
  obtain ⟨t101, A30, H⟩ := H
  replace H : (if t101 = true then ((decoder_New.f k a0).bind fun bt102 => (if a0.size + 3 ≤ 9223372036854775807 then ((decoder_New.f k (a0 ++ (⟨#[0, 0, 0]⟩ : ByteArray))).bind fun bt109 => ((descantlaw0_Num.f bt102.2.2.2.2.2).bind fun t116 => (if t116 = 0 then ((descantlaw0_Num.f bt109.2.2.2.2.2).bind fun t117 => (descantlaw5_DecoderZeros.j0 k a0 l1 (t117 != 0) bt102.1 bt102.2.1 bt102.2.2.1 bt102.2.2.2.1 bt102.2.2.2.2.1 bt109.1 bt109.2.1 bt109.2.2.1 bt109.2.2.2.1 bt109.2.2.2.2.1)) else (descantlaw5_DecoderZeros.j0 k a0 l1 true bt102.1 bt102.2.1 bt102.2.2.1 bt102.2.2.2.1 bt102.2.2.2.2.1 bt109.1 bt109.2.1 bt109.2.2.1 bt109.2.2.2.1 bt109.2.2.2.2.1)))) else (none))) else (some false)) = some true := H
  have A3 := Aside0.mk A30
  clear A30
  by_cases c4 : t101 = true
  · subst c4
    have H1 : ((decoder_New.f k a0).bind fun bt102 => (if a0.size + 3 ≤ 9223372036854775807 then ((decoder_New.f k (a0 ++ (⟨#[0, 0, 0]⟩ : ByteArray))).bind fun bt109 => ((descantlaw0_Num.f bt102.2.2.2.2.2).bind fun t116 => (if t116 = 0 then ((descantlaw0_Num.f bt109.2.2.2.2.2).bind fun t117 => (descantlaw5_DecoderZeros.j0 k a0 l1 (t117 != 0) bt102.1 bt102.2.1 bt102.2.2.1 bt102.2.2.2.1 bt102.2.2.2.2.1 bt109.1 bt109.2.1 bt109.2.2.1 bt109.2.2.2.1 bt109.2.2.2.2.1)) else (descantlaw5_DecoderZeros.j0 k a0 l1 true bt102.1 bt102.2.1 bt102.2.2.1 bt102.2.2.2.1 bt102.2.2.2.2.1 bt109.1 bt109.2.1 bt109.2.2.1 bt109.2.2.2.1 bt109.2.2.2.2.1)))) else (none))) = some true := by rw [if_pos rfl] at H; exact H
    clear H
    have H := H1
    clear H1
    replace H := Option.bind_eq_some_iff.mp H
    obtain ⟨⟨t102, t103, t104, t105, t106, t107⟩, A50, H⟩ := H
    replace H : (if a0.size + 3 ≤ 9223372036854775807 then ((decoder_New.f k (a0 ++ (⟨#[0, 0, 0]⟩ : ByteArray))).bind fun bt109 => ((descantlaw0_Num.f t107).bind fun t116 => (if t116 = 0 then ((descantlaw0_Num.f bt109.2.2.2.2.2).bind fun t117 => (descantlaw5_DecoderZeros.j0 k a0 l1 (t117 != 0) t102 t103 t104 t105 t106 bt109.1 bt109.2.1 bt109.2.2.1 bt109.2.2.2.1 bt109.2.2.2.2.1)) else (descantlaw5_DecoderZeros.j0 k a0 l1 true t102 t103 t104 t105 t106 bt109.1 bt109.2.1 bt109.2.2.1 bt109.2.2.2.1 bt109.2.2.2.2.1)))) else (none)) = some true := H
    have A5 := Aside0.mk A50
    clear A50
    by_cases c6 : a0.size + 3 ≤ 9223372036854775807
    · rw [if_pos c6] at H
      have c6b0 := eq_true c6
      have c6b1 : decide (a0.size + 3 ≤ 9223372036854775807) = true := decide_eq_true c6
      try have c6b2 : (9223372036854775807 < a0.size + 3) = False := eq_false (Nat.not_lt.2 c6)
      replace H := Option.bind_eq_some_iff.mp H
      obtain ⟨⟨t109, t110, t111, t112, t113, t114⟩, A70, H⟩ := H
      replace H : ((descantlaw0_Num.f t107).bind fun t116 => (if t116 = 0 then ((descantlaw0_Num.f t114).bind fun t117 => (descantlaw5_DecoderZeros.j0 k a0 l1 (t117 != 0) t102 t103 t104 t105 t106 t109 t110 t111 t112 t113)) else (descantlaw5_DecoderZeros.j0 k a0 l1 true t102 t103 t104 t105 t106 t109 t110 t111 t112 t113))) = some true := H
      have A7 := Aside0.mk A70
      clear A70
      have HC8 := Aside0.mk H
      clear H
      go_enter Try.func6, Try.ntmps6
      go_upto_region 5 with (first | ((with_reducible refine gate_callee (f := 15) rfl ?_); refine goesL_ (some 16) rfl rfl Try.func15 (by kernel_rfl) rfl #[] rfl (by (try simp only [List.map_toArray, List.map_cons, List.map_nil]); first | done | rfl | (simp only [List.length_drop, List.length_take]; rfl)) ?_; (with_reducible refine (descantlaw5_awake.calls  true _ A3.out).mono ?_); rintro e w9 ⟨rfl, hb⟩; refine ⟨_, rfl, ?_⟩; have n0_ := Aside0.mk (below_step (by repeat (first | (with_reducible first | exact HB.out | apply below_alloc | apply pw_below_drewN | apply below_drew1) | exact HB.out)) hb); clear HB; have HB := n0_; clear n0_; (try clear hb); (try clear hb2); (try clear hk); (try clear hi)) | ((with_reducible refine gate_callee (f := 10) rfl ?_); refine goesL_ (some 20) rfl rfl Try.func10 (by kernel_rfl) rfl #[.string a0] rfl (by (try simp only [List.map_toArray, List.map_cons, List.map_nil]); first | done | rfl | (simp only [List.length_drop, List.length_take]; rfl)) ?_; (with_reducible refine (decoder_New.calls k a0 t102 t103 t104 t105 t106 t107 _ A5.out).mono ?_); rintro e w10 ⟨rfl, hb⟩; refine ⟨_, rfl, ?_⟩; have n0_ := Aside0.mk (below_step (by repeat (first | (with_reducible first | exact HB.out | apply below_alloc | apply pw_below_drewN | apply below_drew1) | exact HB.out)) hb); clear HB; have HB := n0_; clear n0_; (try clear hb); (try clear hb2); (try clear hk); (try clear hi)) | ((with_reducible refine gate_dst (N := 5) rfl ?_); refine box_event ?hg (N := 5) ?hd (cs := #[.int .i64 0, .int .i64 0, .int .i64 0, .string (⟨#[]⟩ : ByteArray), .int .i64 0]) (t := 23) ?hr ?_; (case hd => rfl); (case hg => rfl); (case hr => first | (go_simp; done) | (go_simp; rfl)); intro gb108 hg w11 hbox hb; have n0_ := Aside0.mk (below_step (by repeat (first | (with_reducible first | exact HB.out | apply below_alloc | apply pw_below_drewN | apply below_drew1) | exact HB.out)) hb); have n1_ := Aside0.mk (hbox); have n2_ := Aside0.mk ((by rw [hg]; exact (below_size (by repeat (first | (with_reducible first | exact HB.out | apply below_alloc | apply pw_below_drewN | apply below_drew1) | exact HB.out))) : w.heap.size ≤ gb108)); have n3_ := Aside0.mk ((by rw [hg]; exact (below_size (by repeat (first | (with_reducible first | exact HB.out | apply below_alloc | apply pw_below_drewN | apply below_drew1) | exact HB.out))) : w.heap.size ≤ gb108)); clear HB; have HB := n0_; have BK108 := n1_; have GW108 := n2_; have GE108 := n3_; clear n0_ n1_ n2_ n3_; clear hb hbox hg; have hcz12_0 : w11.cell? ⟨gb108, 0, none⟩ = some (.int .i64 0) := (blk_cell BK108.out 0).trans rfl; have hcz12_1 : w11.cell? ⟨gb108, 1, none⟩ = some (.int .i64 0) := (blk_cell BK108.out 1).trans rfl; have hcz12_2 : w11.cell? ⟨gb108, 2, none⟩ = some (.int .i64 0) := (blk_cell BK108.out 2).trans rfl; have hcz12_3 : w11.cell? ⟨gb108, 3, none⟩ = some (.string (⟨#[]⟩ : ByteArray)) := (blk_cell BK108.out 3).trans rfl; have hcz12_4 : w11.cell? ⟨gb108, 4, none⟩ = some (.int .i64 0) := (blk_cell BK108.out 4).trans rfl; have hfz12_0 := blk_frozen BK108.out 0; have hfz12_1 := blk_frozen BK108.out 1; have hfz12_2 := blk_frozen BK108.out 2; have hfz12_3 := blk_frozen BK108.out 3; have hfz12_4 := blk_frozen BK108.out 4) | ((with_reducible refine gate_callee (f := 10) rfl ?_); refine goesL_ (some 26) rfl rfl Try.func10 (by kernel_rfl) rfl #[.string (a0 ++ (⟨#[0, 0, 0]⟩ : ByteArray))] rfl (by (try simp only [List.map_toArray, List.map_cons, List.map_nil]); first | done | rfl | (simp only [List.length_drop, List.length_take]; rfl)) ?_; (with_reducible refine (decoder_New.calls k (a0 ++ (⟨#[0, 0, 0]⟩ : ByteArray)) t109 t110 t111 t112 t113 t114 _ A7.out).mono ?_); rintro e w13 ⟨rfl, hb⟩; refine ⟨_, rfl, ?_⟩; have n0_ := Aside0.mk (blk_below (g := gb108) (o := .cells #[.int .i64 t102, .int .i64 t103, .int .i64 t104, .string t105, .int .i64 t106] 23 (0, 0)) (by (with_reducible repeat (first | refine blk_drewN ?_ _ | refine blk_drew ?_ | refine blk_alloc ?_ _)); refine blk_put (cs := #[.int .i64 t102, .int .i64 t103, .int .i64 t104, .string t105, .int .i64 0]) ?_ 4 _ rfl; (with_reducible repeat (first | refine blk_drewN ?_ _ | refine blk_drew ?_ | refine blk_alloc ?_ _)); refine blk_put (cs := #[.int .i64 t102, .int .i64 t103, .int .i64 t104, .string (⟨#[]⟩ : ByteArray), .int .i64 0]) ?_ 3 _ rfl; (with_reducible repeat (first | refine blk_drewN ?_ _ | refine blk_drew ?_ | refine blk_alloc ?_ _)); refine blk_put (cs := #[.int .i64 t102, .int .i64 t103, .int .i64 0, .string (⟨#[]⟩ : ByteArray), .int .i64 0]) ?_ 2 _ rfl; (with_reducible repeat (first | refine blk_drewN ?_ _ | refine blk_drew ?_ | refine blk_alloc ?_ _)); refine blk_put (cs := #[.int .i64 t102, .int .i64 0, .int .i64 0, .string (⟨#[]⟩ : ByteArray), .int .i64 0]) ?_ 1 _ rfl; (with_reducible repeat (first | refine blk_drewN ?_ _ | refine blk_drew ?_ | refine blk_alloc ?_ _)); refine blk_put (cs := #[.int .i64 0, .int .i64 0, .int .i64 0, .string (⟨#[]⟩ : ByteArray), .int .i64 0]) ?_ 0 _ rfl; (with_reducible repeat (first | refine blk_drewN ?_ _ | refine blk_drew ?_ | refine blk_alloc ?_ _)); exact BK108.out) hb); have n1_ := Aside0.mk (below_step (by repeat (first | (with_reducible first | exact HB.out | apply below_alloc | apply pw_below_drewN | apply below_drew1 | refine below_set ?_ GE108.out) | exact HB.out)) hb); clear BK108; clear HB; have BK108 := n0_; have HB := n1_; clear n0_ n1_; (try clear hb); (try clear hb2); (try clear hk); (try clear hi)) | ((with_reducible refine gate_dst (N := 7) rfl ?_); refine box_event ?hg (N := 7) ?hd (cs := #[.int .i64 0, .int .i64 0, .int .i64 0, .string (⟨#[]⟩ : ByteArray), .int .i64 0]) (t := 23) ?hr ?_; (case hd => rfl); (case hg => rfl); (case hr => first | (go_simp; done) | (go_simp; rfl)); intro gb115 hg w14 hbox hb; have n0_ := Aside0.mk (blk_below (g := gb108) (o := .cells #[.int .i64 t102, .int .i64 t103, .int .i64 t104, .string t105, .int .i64 t106] 23 (0, 0)) (by (with_reducible repeat (first | refine blk_drewN ?_ _ | refine blk_drew ?_ | refine blk_alloc ?_ _)); exact BK108.out) hb); have n1_ := Aside0.mk (below_step (by repeat (first | (with_reducible first | exact HB.out | apply below_alloc | apply pw_below_drewN | apply below_drew1 | refine below_set ?_ GE108.out) | exact HB.out)) hb); have n2_ := Aside0.mk (hbox); have n3_ := Aside0.mk ((by rw [hg]; exact (below_size (by repeat (first | (with_reducible first | exact HB.out | apply below_alloc | apply pw_below_drewN | apply below_drew1 | refine below_set ?_ GE108.out) | exact HB.out))) : w.heap.size ≤ gb115)); have n4_ := Aside0.mk ((by rw [hg]; exact (below_size (by repeat (first | (with_reducible first | exact HB.out | apply below_alloc | apply pw_below_drewN | apply below_drew1 | refine below_set ?_ GE108.out) | exact HB.out))) : w.heap.size ≤ gb115)); have n5_ := Aside0.mk ((by rw [hg]; exact Nat.ne_of_lt (blk_lt (g := gb108) (o := .cells #[.int .i64 t102, .int .i64 t103, .int .i64 t104, .string t105, .int .i64 t106] 23 (0, 0)) (by (with_reducible repeat (first | refine blk_drewN ?_ _ | refine blk_drew ?_ | refine blk_alloc ?_ _)); exact BK108.out)) : gb108 ≠ gb115)); have n6_ := Aside0.mk ((by rw [hg]; exact Nat.ne_of_gt (blk_lt (g := gb108) (o := .cells #[.int .i64 t102, .int .i64 t103, .int .i64 t104, .string t105, .int .i64 t106] 23 (0, 0)) (by (with_reducible repeat (first | refine blk_drewN ?_ _ | refine blk_drew ?_ | refine blk_alloc ?_ _)); exact BK108.out)) : gb115 ≠ gb108)); clear BK108; clear HB; have BK108 := n0_; have HB := n1_; have BK115 := n2_; have GW115 := n3_; have GE115 := n4_; have NB108_115 := n5_; have NB115_108 := n6_; clear n0_ n1_ n2_ n3_ n4_ n5_ n6_; clear hb hbox hg; have hnb15 := NB115_108.out; have hnc15 := NB108_115.out; have hcz16_0 : w14.cell? ⟨gb115, 0, none⟩ = some (.int .i64 0) := (blk_cell BK115.out 0).trans rfl; have hcz16_1 : w14.cell? ⟨gb115, 1, none⟩ = some (.int .i64 0) := (blk_cell BK115.out 1).trans rfl; have hcz16_2 : w14.cell? ⟨gb115, 2, none⟩ = some (.int .i64 0) := (blk_cell BK115.out 2).trans rfl; have hcz16_3 : w14.cell? ⟨gb115, 3, none⟩ = some (.string (⟨#[]⟩ : ByteArray)) := (blk_cell BK115.out 3).trans rfl; have hcz16_4 : w14.cell? ⟨gb115, 4, none⟩ = some (.int .i64 0) := (blk_cell BK115.out 4).trans rfl; have hfz16_0 := blk_frozen BK115.out 0; have hfz16_1 := blk_frozen BK115.out 1; have hfz16_2 := blk_frozen BK115.out 2; have hfz16_3 := blk_frozen BK115.out 3; have hfz16_4 := blk_frozen BK115.out 4))
      (try simp only [Act.put, List.setIfInBounds_toArray, List.set_cons_zero, List.set_cons_succ])
      go_cut [36] (fun v36 wc => ∃ (kq : Nat) (x36_7 : Bool), v36 = .bool x36_7 ∧ Aside0 (descantlaw5_DecoderZeros.j0 kq a0 l1 x36_7 t102 t103 t104 t105 t106 t109 t110 t111 t112 t113 = some true) ∧ Aside0 (kq ≤ k) ∧ Aside0 (wc.heap[gb108]? = some (.cells #[.int .i64 t102, .int .i64 t103, .int .i64 t104, .string t105, .int .i64 t106] 23 (0, 0))) ∧ Aside0 (wc.heap[gb115]? = some (.cells #[.int .i64 t109, .int .i64 t110, .int .i64 t111, .string t112, .int .i64 t113] 23 (0, 0))) ∧ Aside0 (Below w.heap.size w wc))
      case first =>
        have H := HC8.out
        clear HC8
        replace H := Option.bind_eq_some_iff.mp H
        obtain ⟨t116, A170, H⟩ := H
        replace H : (if t116 = 0 then ((descantlaw0_Num.f t114).bind fun t117 => (descantlaw5_DecoderZeros.j0 k a0 l1 (t117 != 0) t102 t103 t104 t105 t106 t109 t110 t111 t112 t113)) else (descantlaw5_DecoderZeros.j0 k a0 l1 true t102 t103 t104 t105 t106 t109 t110 t111 t112 t113)) = some true := H
        have A17 := Aside0.mk A170
        clear A170
        by_cases c18 : t116 = 0
        · rw [if_pos c18] at H
          have c18b0 : (t116 == 0) = true := beq_iff_eq.mpr c18
          have c18b1 : (t116 != 0) = false := bne_eq_false_iff_eq.mpr c18
          clear c18
          (first | rw [c18b0] | (simp only [i64_w, i32_w]; rw [c18b0]) | skip)
          replace H := Option.bind_eq_some_iff.mp H
          obtain ⟨t117, A190, H⟩ := H
          replace H : (descantlaw5_DecoderZeros.j0 k a0 l1 (t117 != 0) t102 t103 t104 t105 t106 t109 t110 t111 t112 t113) = some true := H
          have A19 := Aside0.mk A190
          clear A190
          have H' := Aside0.mk H
          clear H
          go_wp2_with (first | ((with_reducible refine gate_callee (f := 12) rfl ?_); refine goesL_ (some 30) rfl rfl Try.func12 (by kernel_rfl) rfl #[.int .i64 t107] rfl (by (try simp only [List.map_toArray, List.map_cons, List.map_nil]); first | done | rfl | (simp only [List.length_drop, List.length_take]; rfl)) ?_; (with_reducible refine (descantlaw0_Num.calls t107 t116 _ A17.out).mono ?_); rintro e w' ⟨rfl, ⟨nd, rfl⟩⟩; refine ⟨_, rfl, ?_⟩) | (go_at_call 12; (with_reducible refine (descantlaw0_Num.calls t114 t117 _ A19.out).mono ?_); rintro e w' ⟨rfl, ⟨nd, rfl⟩⟩))
          go_meet
          case rel => exact ⟨_, ((t117 != 0)), (by first | rfl | (simp; done) | (simp [*]; done)), H', ⟨by first | omega | exact Nat.le_refl _⟩, ⟨by (with_reducible repeat (first | refine blk_drewN ?_ _ | refine blk_drew ?_ | refine blk_alloc ?_ _)); refine blk_far ?_ NB108_115.out _; (with_reducible repeat (first | refine blk_drewN ?_ _ | refine blk_drew ?_ | refine blk_alloc ?_ _)); refine blk_far ?_ NB108_115.out _; (with_reducible repeat (first | refine blk_drewN ?_ _ | refine blk_drew ?_ | refine blk_alloc ?_ _)); refine blk_far ?_ NB108_115.out _; (with_reducible repeat (first | refine blk_drewN ?_ _ | refine blk_drew ?_ | refine blk_alloc ?_ _)); refine blk_far ?_ NB108_115.out _; (with_reducible repeat (first | refine blk_drewN ?_ _ | refine blk_drew ?_ | refine blk_alloc ?_ _)); refine blk_far ?_ NB108_115.out _; (with_reducible repeat (first | refine blk_drewN ?_ _ | refine blk_drew ?_ | refine blk_alloc ?_ _)); exact BK108.out⟩, ⟨by (with_reducible repeat (first | refine blk_drewN ?_ _ | refine blk_drew ?_ | refine blk_alloc ?_ _)); refine blk_put (cs := #[.int .i64 t109, .int .i64 t110, .int .i64 t111, .string t112, .int .i64 0]) ?_ 4 _ rfl; (with_reducible repeat (first | refine blk_drewN ?_ _ | refine blk_drew ?_ | refine blk_alloc ?_ _)); refine blk_put (cs := #[.int .i64 t109, .int .i64 t110, .int .i64 t111, .string (⟨#[]⟩ : ByteArray), .int .i64 0]) ?_ 3 _ rfl; (with_reducible repeat (first | refine blk_drewN ?_ _ | refine blk_drew ?_ | refine blk_alloc ?_ _)); refine blk_put (cs := #[.int .i64 t109, .int .i64 t110, .int .i64 0, .string (⟨#[]⟩ : ByteArray), .int .i64 0]) ?_ 2 _ rfl; (with_reducible repeat (first | refine blk_drewN ?_ _ | refine blk_drew ?_ | refine blk_alloc ?_ _)); refine blk_put (cs := #[.int .i64 t109, .int .i64 0, .int .i64 0, .string (⟨#[]⟩ : ByteArray), .int .i64 0]) ?_ 1 _ rfl; (with_reducible repeat (first | refine blk_drewN ?_ _ | refine blk_drew ?_ | refine blk_alloc ?_ _)); refine blk_put (cs := #[.int .i64 0, .int .i64 0, .int .i64 0, .string (⟨#[]⟩ : ByteArray), .int .i64 0]) ?_ 0 _ rfl; (with_reducible repeat (first | refine blk_drewN ?_ _ | refine blk_drew ?_ | refine blk_alloc ?_ _)); exact BK115.out⟩, ⟨by repeat (first | (with_reducible first | exact HB.out | apply below_alloc | apply pw_below_drewN | apply below_drew1 | refine below_set ?_ GE108.out | refine below_set ?_ GE115.out) | exact HB.out)⟩⟩
        · rw [if_neg c18] at H
          have c18b0 : (t116 == 0) = false := beq_eq_false_iff_ne.mpr c18
          have c18b1 : (t116 != 0) = true := bne_iff_ne.mpr c18
          (first | rw [c18b0] | (simp only [i64_w, i32_w]; rw [c18b0]) | skip)
          have H' := Aside0.mk H
          clear H
          go_wp2_with (first | ((with_reducible refine gate_callee (f := 12) rfl ?_); refine goesL_ (some 30) rfl rfl Try.func12 (by kernel_rfl) rfl #[.int .i64 t107] rfl (by (try simp only [List.map_toArray, List.map_cons, List.map_nil]); first | done | rfl | (simp only [List.length_drop, List.length_take]; rfl)) ?_; (with_reducible refine (descantlaw0_Num.calls t107 t116 _ A17.out).mono ?_); rintro e w' ⟨rfl, ⟨nd, rfl⟩⟩; refine ⟨_, rfl, ?_⟩))
          go_meet
          case rel => exact ⟨_, (true), (by first | rfl | (simp; done) | (simp [*]; done)), H', ⟨by first | omega | exact Nat.le_refl _⟩, ⟨by (with_reducible repeat (first | refine blk_drewN ?_ _ | refine blk_drew ?_ | refine blk_alloc ?_ _)); refine blk_far ?_ NB108_115.out _; (with_reducible repeat (first | refine blk_drewN ?_ _ | refine blk_drew ?_ | refine blk_alloc ?_ _)); refine blk_far ?_ NB108_115.out _; (with_reducible repeat (first | refine blk_drewN ?_ _ | refine blk_drew ?_ | refine blk_alloc ?_ _)); refine blk_far ?_ NB108_115.out _; (with_reducible repeat (first | refine blk_drewN ?_ _ | refine blk_drew ?_ | refine blk_alloc ?_ _)); refine blk_far ?_ NB108_115.out _; (with_reducible repeat (first | refine blk_drewN ?_ _ | refine blk_drew ?_ | refine blk_alloc ?_ _)); refine blk_far ?_ NB108_115.out _; (with_reducible repeat (first | refine blk_drewN ?_ _ | refine blk_drew ?_ | refine blk_alloc ?_ _)); exact BK108.out⟩, ⟨by (with_reducible repeat (first | refine blk_drewN ?_ _ | refine blk_drew ?_ | refine blk_alloc ?_ _)); refine blk_put (cs := #[.int .i64 t109, .int .i64 t110, .int .i64 t111, .string t112, .int .i64 0]) ?_ 4 _ rfl; (with_reducible repeat (first | refine blk_drewN ?_ _ | refine blk_drew ?_ | refine blk_alloc ?_ _)); refine blk_put (cs := #[.int .i64 t109, .int .i64 t110, .int .i64 t111, .string (⟨#[]⟩ : ByteArray), .int .i64 0]) ?_ 3 _ rfl; (with_reducible repeat (first | refine blk_drewN ?_ _ | refine blk_drew ?_ | refine blk_alloc ?_ _)); refine blk_put (cs := #[.int .i64 t109, .int .i64 t110, .int .i64 0, .string (⟨#[]⟩ : ByteArray), .int .i64 0]) ?_ 2 _ rfl; (with_reducible repeat (first | refine blk_drewN ?_ _ | refine blk_drew ?_ | refine blk_alloc ?_ _)); refine blk_put (cs := #[.int .i64 t109, .int .i64 0, .int .i64 0, .string (⟨#[]⟩ : ByteArray), .int .i64 0]) ?_ 1 _ rfl; (with_reducible repeat (first | refine blk_drewN ?_ _ | refine blk_drew ?_ | refine blk_alloc ?_ _)); refine blk_put (cs := #[.int .i64 0, .int .i64 0, .int .i64 0, .string (⟨#[]⟩ : ByteArray), .int .i64 0]) ?_ 0 _ rfl; (with_reducible repeat (first | refine blk_drewN ?_ _ | refine blk_drew ?_ | refine blk_alloc ?_ _)); exact BK115.out⟩, ⟨by repeat (first | (with_reducible first | exact HB.out | apply below_alloc | apply pw_below_drewN | apply below_drew1 | refine below_set ?_ GE108.out | refine below_set ?_ GE115.out) | exact HB.out)⟩⟩
      case rest =>
        clear HC8
        try clear c1
        try clear p2
        try clear c4
        try clear c6
        try clear c6b0
        try clear c6b1
        try clear c6b2
        try clear c10
        try clear c12
        try clear c15
        try clear c18
        try clear c18b0
        try clear c18b1
        try clear hcz12_0
        try clear hcz12_1
        try clear hcz12_2
        try clear hcz12_3
        try clear hcz12_4
        try clear hcz16_0
        try clear hcz16_1
        try clear hcz16_2
        try clear hcz16_3
        try clear hcz16_4
        try clear hfz12_0
        try clear hfz12_1
        try clear hfz12_2
        try clear hfz12_3
        try clear hfz12_4
        try clear hfz16_0
        try clear hfz16_1
        try clear hfz16_2
        try clear hfz16_3
        try clear hfz16_4
        obtain ⟨kq, x36_7, rfl, HA, HJ7, BK108, BK115, HB⟩ := hcut
        cases kq with
        | zero => exact absurd HA.out (by simp [descantlaw5_DecoderZeros.j0])
        | succ kj7 =>
          have H := HA.out
          clear HA
          simp only [descantlaw5_DecoderZeros.j0] at H
          by_cases c20 : x36_7 = true
          · subst c20
            have H1 : (some (decide ((wrap64 ((a0.size : Int) + 3)) > 65536))) = some true := by rw [if_pos rfl] at H; exact H
            clear H
            have H := H1
            clear H1
            have E_ := Option.some.inj H
            clear H
            go_wp2
            go_ret
            exact ⟨by first | rfl | (simp [errW_none, errW_some] <;> rfl) | (simp [*, errW_none, errW_some] <;> rfl), by repeat (first | (with_reducible first | exact HB.out | apply below_alloc | apply pw_below_drewN | apply below_drew1 | refine below_set ?_ GE108.out | refine below_set ?_ GE115.out) | exact HB.out)⟩
          · replace c20 := Bool.eq_false_iff.mpr c20
            subst c20
            have H1 : (descantlaw5_DecoderZeros.l0 kj7 l1 0 t102 t103 t104 t105 t106 t109 t110 t111 t112 t113) = some true := by rw [if_neg (show ¬ (false = true) by decide)] at H; exact H
            clear H
            have H := H1
            clear H1
            have H' := Aside0.mk H
            clear H
            go_wp2
            go_loopg [9] kj7 (fun kq v9 w' => ∃ (x9_2 : Int) (x109000_2 : Int) (x109001_2 : Int) (x109002_2 : Int) (x109003_2 : ByteArray) (x109004_2 : Int) (x116000_2 : Int) (x116001_2 : Int) (x116002_2 : Int) (x116003_2 : ByteArray) (x116004_2 : Int), v9 = .int .i64 x9_2 ∧ Aside0 (descantlaw5_DecoderZeros.l0 kq l1 x9_2 x109000_2 x109001_2 x109002_2 x109003_2 x109004_2 x116000_2 x116001_2 x116002_2 x116003_2 x116004_2 = some true) ∧ Aside0 (kq ≤ kj7) ∧ Aside0 (w'.heap[gb108]? = some (.cells #[.int .i64 x109000_2, .int .i64 x109001_2, .int .i64 x109002_2, .string x109003_2, .int .i64 x109004_2] 23 (0, 0))) ∧ Aside0 (w'.heap[gb115]? = some (.cells #[.int .i64 x116000_2, .int .i64 x116001_2, .int .i64 x116002_2, .string x116003_2, .int .i64 x116004_2] 23 (0, 0))) ∧ Aside0 (Below w.heap.size w w'))
            case atStart => exact ⟨(0), (t102), (t103), (t104), (t105), (t106), (t109), (t110), (t111), (t112), (t113), (by first | rfl | (simp; done) | (simp [*]; done)), H', ⟨Nat.le_refl _⟩, ⟨by (with_reducible repeat (first | refine blk_drewN ?_ _ | refine blk_drew ?_ | refine blk_alloc ?_ _)); exact BK108.out⟩, ⟨by (with_reducible repeat (first | refine blk_drewN ?_ _ | refine blk_drew ?_ | refine blk_alloc ?_ _)); exact BK115.out⟩, ⟨by repeat (first | (with_reducible first | exact HB.out | apply below_alloc | apply pw_below_drewN | apply below_drew1 | refine below_set ?_ GE108.out | refine below_set ?_ GE115.out) | exact HB.out)⟩⟩
            case round =>
              clear H'
              try clear c1
              try clear c2
              try clear p2
              try clear c4
              try clear c6
              try clear c6b0
              try clear c6b1
              try clear c6b2
              try clear p6
              try clear c10
              try clear c12
              try clear c15
              try clear c18
              try clear c18b0
              try clear c18b1
              try clear c20
              try clear hcz12_0
              try clear hcz12_1
              try clear hcz12_2
              try clear hcz12_3
              try clear hcz12_4
              try clear hcz16_0
              try clear hcz16_1
              try clear hcz16_2
              try clear hcz16_3
              try clear hcz16_4
              try clear hfz12_0
              try clear hfz12_1
              try clear hfz12_2
              try clear hfz12_3
              try clear hfz12_4
              try clear hfz16_0
              try clear hfz16_1
              try clear hfz16_2
              try clear hfz16_3
              try clear hfz16_4
              try clear p2
              obtain ⟨x9_2, x109000_2, x109001_2, x109002_2, x109003_2, x109004_2, x116000_2, x116001_2, x116002_2, x116003_2, x116004_2, rfl, HA, HK2, BK108, BK115, HB⟩ := hrel
              cases gk with
              | zero => exact absurd HA.out (by simp [descantlaw5_DecoderZeros.l0])
              | succ k2 =>
                have H := HA.out
                clear HA
                simp only [descantlaw5_DecoderZeros.l0] at H
                have HC21 := Aside0.mk H
                clear H
                go_upto_region 8 with (fail)
                go_cut [48] (fun v48 wc => ∃ (kq : Nat) (x48_20 : Bool), v48 = .bool x48_20 ∧ Aside0 (descantlaw5_DecoderZeros.j2 kq l1 x9_2 x48_20 x109000_2 x109001_2 x109002_2 x109003_2 x109004_2 x116000_2 x116001_2 x116002_2 x116003_2 x116004_2 = some true) ∧ Aside0 (kq ≤ k2) ∧ Aside0 (wc.heap[gb108]? = some (.cells #[.int .i64 x109000_2, .int .i64 x109001_2, .int .i64 x109002_2, .string x109003_2, .int .i64 x109004_2] 23 (0, 0))) ∧ Aside0 (wc.heap[gb115]? = some (.cells #[.int .i64 x116000_2, .int .i64 x116001_2, .int .i64 x116002_2, .string x116003_2, .int .i64 x116004_2] 23 (0, 0))) ∧ Aside0 (Below w.heap.size w wc))
                case first =>
                  have H := HC21.out
                  clear HC21
                  by_cases c22 : x9_2 < (l1.length : Int)
                  · rw [if_pos c22] at H
                    have c22b0 : decide (x9_2 < (l1.length : Int)) = true := decide_eq_true c22
                    clear c22
                    (first | rw [c22b0] | (simp only [i64_w, i32_w]; rw [c22b0]) | skip)
                    have H' := Aside0.mk H
                    clear H
                    go_wp2
                    go_meet
                    case rel => exact ⟨_, (decide (x9_2 < 60)), (by first | rfl | (simp; done) | (simp [*]; done)), H', ⟨by have := HJ7.out; have := HK2.out; first | omega | exact Nat.le_refl _⟩, ⟨by (with_reducible repeat (first | refine blk_drewN ?_ _ | refine blk_drew ?_ | refine blk_alloc ?_ _)); exact BK108.out⟩, ⟨by (with_reducible repeat (first | refine blk_drewN ?_ _ | refine blk_drew ?_ | refine blk_alloc ?_ _)); exact BK115.out⟩, ⟨by repeat (first | (with_reducible first | exact HB.out | apply below_alloc | apply pw_below_drewN | apply below_drew1 | refine below_set ?_ GE108.out | refine below_set ?_ GE115.out) | exact HB.out)⟩⟩
                  · rw [if_neg c22] at H
                    have c22b0 : decide (x9_2 < (l1.length : Int)) = false := decide_eq_false c22
                    clear c22
                    (first | rw [c22b0] | (simp only [i64_w, i32_w]; rw [c22b0]) | skip)
                    have H' := Aside0.mk H
                    clear H
                    go_wp2
                    go_meet
                    case rel => exact ⟨_, (false), (by first | rfl | (simp; done) | (simp [*]; done)), H', ⟨by have := HJ7.out; have := HK2.out; first | omega | exact Nat.le_refl _⟩, ⟨by (with_reducible repeat (first | refine blk_drewN ?_ _ | refine blk_drew ?_ | refine blk_alloc ?_ _)); exact BK108.out⟩, ⟨by (with_reducible repeat (first | refine blk_drewN ?_ _ | refine blk_drew ?_ | refine blk_alloc ?_ _)); exact BK115.out⟩, ⟨by repeat (first | (with_reducible first | exact HB.out | apply below_alloc | apply pw_below_drewN | apply below_drew1 | refine below_set ?_ GE108.out | refine below_set ?_ GE115.out) | exact HB.out)⟩⟩
                case rest =>
                  clear HC21
                  try clear c1
                  try clear c2
                  try clear p2
                  try clear c4
                  try clear c6
                  try clear c6b0
                  try clear c6b1
                  try clear c6b2
                  try clear p6
                  try clear c10
                  try clear c12
                  try clear c15
                  try clear c18
                  try clear c18b0
                  try clear c18b1
                  try clear c20
                  try clear c22
                  try clear c22b0
                  try clear hcz12_0
                  try clear hcz12_1
                  try clear hcz12_2
                  try clear hcz12_3
                  try clear hcz12_4
                  try clear hcz16_0
                  try clear hcz16_1
                  try clear hcz16_2
                  try clear hcz16_3
                  try clear hcz16_4
                  try clear hfz12_0
                  try clear hfz12_1
                  try clear hfz12_2
                  try clear hfz12_3
                  try clear hfz12_4
                  try clear hfz16_0
                  try clear hfz16_1
                  try clear hfz16_2
                  try clear hfz16_3
                  try clear hfz16_4
                  try clear p2
                  try clear p6
                  obtain ⟨kq, x48_20, rfl, HA, HJ20, BK108, BK115, HB⟩ := hcut
                  cases kq with
                  | zero => exact absurd HA.out (by simp [descantlaw5_DecoderZeros.j2])
                  | succ kj20 =>
                    have H := HA.out
                    clear HA
                    simp only [descantlaw5_DecoderZeros.j2] at H
                    by_cases c23 : x48_20 = true
                    · subst c23
                      have H1 : (if 0 ≤ x9_2 then (if x9_2 < (l1.length : Int) then ((decoder_Bit.f x109000_2 x109001_2 x109002_2 x109003_2 x109004_2 (wrap64 (1 + (Go.bits .and .i64 (rd l1 x9_2) 4094)))).bind fun bt119 => ((decoder_Bit.f x116000_2 x116001_2 x116002_2 x116003_2 x116004_2 (wrap64 (1 + (Go.bits .and .i64 (rd l1 x9_2) 4094)))).bind fun bt128 => ((descantlaw0_Num.f bt119.2.2.2.2.2.2).bind fun t136 => (if t136 = 0 then ((descantlaw0_Num.f bt128.2.2.2.2.2.2).bind fun t137 => (if t137 = 0 then (if bt119.2.2.2.2.2.1 = bt128.2.2.2.2.2.1 then (if bt119.1 = bt128.1 then (if bt119.2.1 = bt128.2.1 then (if bt119.2.2.1 = bt128.2.2.1 then (if bt119.2.2.2.2.1 = bt128.2.2.2.2.1 then (descantlaw5_DecoderZeros.l0 kj20 l1 (wrap64 (x9_2 + 1)) bt119.1 bt119.2.1 bt119.2.2.1 bt119.2.2.2.1 bt119.2.2.2.2.1 bt128.1 bt128.2.1 bt128.2.2.1 bt128.2.2.2.1 bt128.2.2.2.2.1) else (some false)) else (some false)) else (some false)) else (some false)) else (some false)) else (some false))) else (some false))))) else (none)) else (none)) = some true := by rw [if_pos rfl] at H; exact H
                      clear H
                      have H := H1
                      clear H1
                      by_cases c24 : 0 ≤ x9_2
                      · rw [if_pos c24] at H
                        have c24b0 : decide (0 ≤ x9_2) = true := decide_eq_true c24
                        clear c24
                        by_cases c25 : x9_2 < (l1.length : Int)
                        · rw [if_pos c25] at H
                          have c25b0 : decide (x9_2 < (l1.length : Int)) = true := decide_eq_true c25
                          clear c25
                          replace H := Option.bind_eq_some_iff.mp H
                          obtain ⟨⟨t119, t120, t121, t122, t123, t124, t125⟩, A260, H⟩ := H
                          replace H : ((decoder_Bit.f x116000_2 x116001_2 x116002_2 x116003_2 x116004_2 (wrap64 (1 + (Go.bits .and .i64 (rd l1 x9_2) 4094)))).bind fun bt128 => ((descantlaw0_Num.f t125).bind fun t136 => (if t136 = 0 then ((descantlaw0_Num.f bt128.2.2.2.2.2.2).bind fun t137 => (if t137 = 0 then (if t124 = bt128.2.2.2.2.2.1 then (if t119 = bt128.1 then (if t120 = bt128.2.1 then (if t121 = bt128.2.2.1 then (if t123 = bt128.2.2.2.2.1 then (descantlaw5_DecoderZeros.l0 kj20 l1 (wrap64 (x9_2 + 1)) t119 t120 t121 t122 t123 bt128.1 bt128.2.1 bt128.2.2.1 bt128.2.2.2.1 bt128.2.2.2.2.1) else (some false)) else (some false)) else (some false)) else (some false)) else (some false)) else (some false))) else (some false)))) = some true := H
                          have A26 := Aside0.mk A260
                          clear A260
                          replace H := Option.bind_eq_some_iff.mp H
                          obtain ⟨⟨t128, t129, t130, t131, t132, t133, t134⟩, A270, H⟩ := H
                          replace H : ((descantlaw0_Num.f t125).bind fun t136 => (if t136 = 0 then ((descantlaw0_Num.f t134).bind fun t137 => (if t137 = 0 then (if t124 = t133 then (if t119 = t128 then (if t120 = t129 then (if t121 = t130 then (if t123 = t132 then (descantlaw5_DecoderZeros.l0 kj20 l1 (wrap64 (x9_2 + 1)) t119 t120 t121 t122 t123 t128 t129 t130 t131 t132) else (some false)) else (some false)) else (some false)) else (some false)) else (some false)) else (some false))) else (some false))) = some true := H
                          have A27 := Aside0.mk A270
                          clear A270
                          replace H := Option.bind_eq_some_iff.mp H
                          obtain ⟨t136, A280, H⟩ := H
                          replace H : (if t136 = 0 then ((descantlaw0_Num.f t134).bind fun t137 => (if t137 = 0 then (if t124 = t133 then (if t119 = t128 then (if t120 = t129 then (if t121 = t130 then (if t123 = t132 then (descantlaw5_DecoderZeros.l0 kj20 l1 (wrap64 (x9_2 + 1)) t119 t120 t121 t122 t123 t128 t129 t130 t131 t132) else (some false)) else (some false)) else (some false)) else (some false)) else (some false)) else (some false))) else (some false)) = some true := H
                          have A28 := Aside0.mk A280
                          clear A280
                          by_cases c29 : t136 = 0
                          · rw [if_pos c29] at H
                            have c29b0 : (t136 == 0) = true := beq_iff_eq.mpr c29
                            have c29b1 : (t136 != 0) = false := bne_eq_false_iff_eq.mpr c29
                            clear c29
                            replace H := Option.bind_eq_some_iff.mp H
                            obtain ⟨t137, A300, H⟩ := H
                            replace H : (if t137 = 0 then (if t124 = t133 then (if t119 = t128 then (if t120 = t129 then (if t121 = t130 then (if t123 = t132 then (descantlaw5_DecoderZeros.l0 kj20 l1 (wrap64 (x9_2 + 1)) t119 t120 t121 t122 t123 t128 t129 t130 t131 t132) else (some false)) else (some false)) else (some false)) else (some false)) else (some false)) else (some false)) = some true := H
                            have A30 := Aside0.mk A300
                            clear A300
                            by_cases c31 : t137 = 0
                            · rw [if_pos c31] at H
                              have c31b0 : (t137 == 0) = true := beq_iff_eq.mpr c31
                              have c31b1 : (t137 != 0) = false := bne_eq_false_iff_eq.mpr c31
                              clear c31
                              by_cases c32 : t124 = t133
                              · rw [if_pos c32] at H
                                have c32b0 : (t124 == t133) = true := beq_iff_eq.mpr c32
                                have c32b1 : (t124 != t133) = false := bne_eq_false_iff_eq.mpr c32
                                clear c32
                                by_cases c33 : t119 = t128
                                · rw [if_pos c33] at H
                                  have c33b0 : (t119 == t128) = true := beq_iff_eq.mpr c33
                                  have c33b1 : (t119 != t128) = false := bne_eq_false_iff_eq.mpr c33
                                  clear c33
                                  by_cases c34 : t120 = t129
                                  · rw [if_pos c34] at H
                                    have c34b0 : (t120 == t129) = true := beq_iff_eq.mpr c34
                                    have c34b1 : (t120 != t129) = false := bne_eq_false_iff_eq.mpr c34
                                    clear c34
                                    by_cases c35 : t121 = t130
                                    · rw [if_pos c35] at H
                                      have c35b0 : (t121 == t130) = true := beq_iff_eq.mpr c35
                                      have c35b1 : (t121 != t130) = false := bne_eq_false_iff_eq.mpr c35
                                      clear c35
                                      by_cases c36 : t123 = t132
                                      · rw [if_pos c36] at H
                                        have c36b0 : (t123 == t132) = true := beq_iff_eq.mpr c36
                                        have c36b1 : (t123 != t132) = false := bne_eq_false_iff_eq.mpr c36
                                        clear c36
                                        have H' := Aside0.mk H
                                        clear H
                                        try go_wp2
                                        have n0_ := Aside0.mk (blk_drew BK108.out)
                                        have n1_ := Aside0.mk (blk_drew BK115.out)
                                        have n2_ := Aside0.mk (below_drew1 HB.out)
                                        clear BK108
                                        clear BK115
                                        clear HB
                                        have BK108 := n0_
                                        have BK115 := n1_
                                        have HB := n2_
                                        clear n0_ n1_ n2_
                                        have p118 : 0 ≤ (x9_2 : Int) := of_decide_eq_true (by first | (with_reducible assumption) | assumption)
                                        have q118 : x9_2 < (l1.length : Int) := of_decide_eq_true (by first | (with_reducible assumption) | assumption)
                                        obtain ⟨ad118, e118, hx118_0⟩ := Kd.at_int HR1.out x9_2 p118 q118
                                        have hw118_0 := hx118_0
                                        cases e118
                                        replace hx118_0 := (HB.out.cell (World.block_lt_of_cell? w _ hx118_0)).trans hx118_0
                                        replace p118 := eq_true p118
                                        replace q118 := eq_true q118
                                        refine start_ (n := 16) (S := fun w' => w'.cell? ⟨gb108, 0, none⟩ = some (.int .i64 x109000_2) ∧ w'.cell? ⟨gb108, 1, none⟩ = some (.int .i64 x109001_2) ∧ w'.cell? ⟨gb108, 2, none⟩ = some (.int .i64 x109002_2) ∧ w'.cell? ⟨gb108, 3, none⟩ = some (.string x109003_2) ∧ w'.cell? ⟨gb108, 4, none⟩ = some (.int .i64 x109004_2) ∧ w'.cell? (ad118.add (x9_2).toNat) = some (.int .i64 (rd l1 x9_2))) (ds := []) #[false, false, false, false, false, false, false, false, false, false, false, false, false, false, false, false] (by kernel_rfl) rfl rfl ⟨(blk_cell BK108.out 0).trans rfl, (blk_cell BK108.out 1).trans rfl, (blk_cell BK108.out 2).trans rfl, (blk_cell BK108.out 3).trans rfl, (blk_cell BK108.out 4).trans rfl, ((HB.out.cell (World.block_lt_of_cell? w _ hw118_0)).trans hw118_0)⟩ (fun hHeld => ?_); refine with_tabW descantlaw5_DecoderZeros.tab10 descantlaw5_DecoderZeros.bits10 (fun HT_ HW_ => ?_)
                                        generalize wc.drew = w37 at BK108 BK115 HB hx118_0 hHeld ⊢
                                        refine pure_ (i := 1) (N := some 53) (v := ?_) (a' := ?_) #[false, true, false, false, false, false, false, false, false, false, false, false, false, false, false, false] rfl rfl (any_of HT_.out (by kernel_rfl)) (fun _ _ _ h => h) (Or.inl ⟨by rfl, ?_⟩) ?_ ?_
                                        rotate_left
                                        · intro w'
                                          go_simp
                                          with_reducible rfl
                                        rotate_left
                                        · simp only [Act.put, List.setIfInBounds_toArray, List.set_cons_zero, List.set_cons_succ, i64_w, i32_w]
                                          rfl
                                        refine pure_ (i := 2) (N := some 54) (v := ?_) (a' := ?_) #[false, true, true, false, false, false, false, false, false, false, false, false, false, false, false, false] rfl rfl (any_of HT_.out (by kernel_rfl)) (fun _ _ _ h => h) (Or.inl ⟨by rfl, ?_⟩) ?_ ?_
                                        rotate_left
                                        · intro w'
                                          go_simp
                                          with_reducible rfl
                                        rotate_left
                                        · simp only [Act.put, List.setIfInBounds_toArray, List.set_cons_zero, List.set_cons_succ, i64_w, i32_w]
                                          rfl
                                        refine pure_ (i := 3) (N := some 55) (v := ?_) (a' := ?_) #[false, true, true, true, false, false, false, false, false, false, false, false, false, false, false, false] rfl rfl (any_of HT_.out (by kernel_rfl)) (fun _ _ _ h => h) (Or.inl ⟨by rfl, ?_⟩) ?_ ?_
                                        rotate_left
                                        · intro w'
                                          go_simp
                                          with_reducible rfl
                                        rotate_left
                                        · simp only [Act.put, List.setIfInBounds_toArray, List.set_cons_zero, List.set_cons_succ, i64_w, i32_w]
                                          rfl
                                        refine take_ (i := 0) (N := some 52) (v := ?_) (a' := ?_) #[true, true, true, true, false, false, false, false, false, false, false, false, false, false, false, false] rfl rfl (take_ofW HT_.out HW_.out (by kernel_rfl)) (fun _ _ _ h => h) (Or.inl ⟨by rfl, ?_⟩) hHeld ?_ ?_
                                        rotate_left
                                        · rintro w' ⟨s0, s1, s2, s3, s4, s5⟩
                                          go_simp
                                          with_reducible rfl
                                        rotate_left
                                        · simp only [Act.put, List.setIfInBounds_toArray, List.set_cons_zero, List.set_cons_succ, i64_w, i32_w]
                                          rfl
                                        refine take_ (i := 4) (N := some 56) (v := ?_) (a' := ?_) #[true, true, true, true, true, false, false, false, false, false, false, false, false, false, false, false] rfl rfl (take_ofW HT_.out HW_.out (by kernel_rfl)) (fun _ _ _ h => h) (Or.inl ⟨by rfl, ?_⟩) hHeld ?_ ?_
                                        rotate_left
                                        · rintro w' ⟨s0, s1, s2, s3, s4, s5⟩
                                          go_simp
                                          with_reducible rfl
                                        rotate_left
                                        · simp only [Act.put, List.setIfInBounds_toArray, List.set_cons_zero, List.set_cons_succ, i64_w, i32_w]
                                          rfl
                                        refine pure_ (i := 5) (N := some 57) (v := ?_) (a' := ?_) #[true, true, true, true, true, true, false, false, false, false, false, false, false, false, false, false] rfl rfl (any_of HT_.out (by kernel_rfl)) (fun _ _ _ h => h) (Or.inl ⟨by rfl, ?_⟩) ?_ ?_
                                        rotate_left
                                        · intro w'
                                          go_simp
                                          with_reducible rfl
                                        rotate_left
                                        · simp only [Act.put, List.setIfInBounds_toArray, List.set_cons_zero, List.set_cons_succ, i64_w, i32_w]
                                          rfl
                                        refine pure_ (i := 6) (N := some 58) (v := ?_) (a' := ?_) #[true, true, true, true, true, true, true, false, false, false, false, false, false, false, false, false] rfl rfl (any_of HT_.out (by kernel_rfl)) (fun _ _ _ h => h) (Or.inl ⟨by rfl, ?_⟩) ?_ ?_
                                        rotate_left
                                        · intro w'
                                          go_simp
                                          with_reducible rfl
                                        rotate_left
                                        · simp only [Act.put, List.setIfInBounds_toArray, List.set_cons_zero, List.set_cons_succ, i64_w, i32_w]
                                          rfl
                                        refine join_ (σ := Nat) 3 #[true, true, true, true, true, true, true, true, true, true, true, true, true, false, false, false] (fun s_ => [(59, .tuple #[.agg #[.int .i64 t119, .int .i64 t120, .int .i64 t121, .string t122, .int .i64 t123], .int .i64 t124, .int .i64 t125]), (10, .pointer (some ⟨s_, 0, none⟩)), (51, .tuple #[.agg #[.int .i64 t119, .int .i64 t120, .int .i64 t121, .string t122, .int .i64 t123], .int .i64 t124, .int .i64 t125]), (60, .agg #[.int .i64 t119, .int .i64 t120, .int .i64 t121, .string t122, .int .i64 t123]), (61, .int .i64 t124), (62, .int .i64 t125)]) (fun s_ w' => (w'.cell? ⟨gb108, 0, none⟩ = some (.int .i64 x109000_2) ∧ w'.cell? ⟨gb108, 1, none⟩ = some (.int .i64 x109001_2) ∧ w'.cell? ⟨gb108, 2, none⟩ = some (.int .i64 x109002_2) ∧ w'.cell? ⟨gb108, 3, none⟩ = some (.string x109003_2) ∧ w'.cell? ⟨gb108, 4, none⟩ = some (.int .i64 x109004_2) ∧ w'.cell? (ad118.add (x9_2).toNat) = some (.int .i64 (rd l1 x9_2))) ∧ (w'.heap[gb108]? = some (.cells #[.int .i64 x109000_2, .int .i64 x109001_2, .int .i64 x109002_2, .string x109003_2, .int .i64 x109004_2] 23 (0, 0))) ∧ (w'.heap[gb115]? = some (.cells #[.int .i64 x116000_2, .int .i64 x116001_2, .int .i64 x116002_2, .string x116003_2, .int .i64 x116004_2] 23 (0, 0))) ∧ (w'.heap[s_]? = some (.cells #[.int .i64 0, .int .i64 0, .int .i64 0, .string (⟨#[]⟩ : ByteArray), .int .i64 0] 23 (0, 0))) ∧ (w.heap.size ≤ s_) ∧ (w.heap.size ≤ s_) ∧ (gb108 ≠ s_) ∧ (s_ ≠ gb108) ∧ (gb115 ≠ s_) ∧ (s_ ≠ gb115) ∧ (Below w.heap.size w w')) ?_ ?_
                                        rotate_left
                                        · intro hCont
                                          refine two_ (i := 7) (j := 12) (Ni := some 59) (Nj := some 10) #[true, true, true, true, true, true, true, true, false, false, false, false, false, false, false, false] #[true, true, true, true, true, true, true, false, false, false, false, false, true, false, false, false] rfl rfl rfl rfl (two_of HT_.out (by kernel_rfl)) (by decide) (by decide) (fun K hK => ?_) (fun K hK => ?_)
                                          · skip
                                            refine goes_ Try.func8 (by kernel_rfl) rfl #[.agg #[.int .i64 x109000_2, .int .i64 x109001_2, .int .i64 x109002_2, .string x109003_2, .int .i64 x109004_2], .int .i64 (wrap64 (1 + (Go.bits .and .i64 (rd l1 x9_2) 4094)))] (by rfl) rfl rfl (by (try simp only [List.map_toArray, List.map_cons, List.map_nil]); first | done | rfl | (simp only [List.length_drop, List.length_take]; rfl)) ?_
                                            with_reducible refine (decoder_Bit.calls x109000_2 x109001_2 x109002_2 x109003_2 x109004_2 (wrap64 (1 + (Go.bits .and .i64 (rd l1 x9_2) 4094))) t119 t120 t121 t122 t123 t124 t125 _ A26.out).mono ?_
                                            rintro e w38 ⟨rfl, hb⟩
                                            refine ⟨_, rfl, ?_⟩
                                            have n0_ := Aside0.mk (blk_below (g := gb108) (o := .cells #[.int .i64 x109000_2, .int .i64 x109001_2, .int .i64 x109002_2, .string x109003_2, .int .i64 x109004_2] 23 (0, 0)) (by (with_reducible repeat (first | refine blk_drewN ?_ _ | refine blk_drew ?_ | refine blk_alloc ?_ _)); exact BK108.out) hb)
                                            have n1_ := Aside0.mk (blk_below (g := gb115) (o := .cells #[.int .i64 x116000_2, .int .i64 x116001_2, .int .i64 x116002_2, .string x116003_2, .int .i64 x116004_2] 23 (0, 0)) (by (with_reducible repeat (first | refine blk_drewN ?_ _ | refine blk_drew ?_ | refine blk_alloc ?_ _)); exact BK115.out) hb)
                                            have n2_ := Aside0.mk (below_step (by repeat (first | (with_reducible first | exact HB.out | apply below_alloc | apply pw_below_drewN | apply below_drew1 | refine below_set ?_ GE108.out | refine below_set ?_ GE115.out) | exact HB.out)) hb)
                                            clear BK108
                                            clear BK115
                                            clear HB
                                            have BK108 := n0_
                                            have BK115 := n1_
                                            have HB := n2_
                                            clear n0_ n1_ n2_
                                            (try clear hb)
                                            (try clear hb2)
                                            (try clear hk)
                                            (try clear hi)
                                            refine hK.out _ _ ⟨(blk_cell BK108.out 0).trans rfl, (blk_cell BK108.out 1).trans rfl, (blk_cell BK108.out 2).trans rfl, (blk_cell BK108.out 3).trans rfl, (blk_cell BK108.out 4).trans rfl, ((HB.out.cell (World.block_lt_of_cell? w _ hw118_0)).trans hw118_0)⟩ (fun hHeld => ?_)
                                            clear hK K
                                            refine norm_ (a' := ?_) ?_ ?_
                                            rotate_left
                                            · show Act.put _ (some 59) _ = _
                                              simp only [Act.put, List.setIfInBounds_toArray, List.set_cons_zero, List.set_cons_succ, i64_w, i32_w]
                                              rfl
                                            refine pure_ (i := 8) (N := some 51) (v := ?_) (a' := ?_) #[true, true, true, true, true, true, true, true, true, false, false, false, false, false, false, false] rfl rfl (any_of HT_.out (by kernel_rfl)) (fun _ _ _ h => h) (Or.inl ⟨by rfl, ?_⟩) ?_ ?_
                                            rotate_left
                                            · intro w'
                                              go_simp
                                              with_reducible rfl
                                            rotate_left
                                            · simp only [Act.put, List.setIfInBounds_toArray, List.set_cons_zero, List.set_cons_succ, i64_w, i32_w]
                                              rfl
                                            refine pure_ (i := 9) (N := some 60) (v := ?_) (a' := ?_) #[true, true, true, true, true, true, true, true, true, true, false, false, false, false, false, false] rfl rfl (any_of HT_.out (by kernel_rfl)) (fun _ _ _ h => h) (Or.inl ⟨by rfl, ?_⟩) ?_ ?_
                                            rotate_left
                                            · intro w'
                                              go_simp
                                              with_reducible rfl
                                            rotate_left
                                            · simp only [Act.put, List.setIfInBounds_toArray, List.set_cons_zero, List.set_cons_succ, i64_w, i32_w]
                                              rfl
                                            refine pure_ (i := 10) (N := some 61) (v := ?_) (a' := ?_) #[true, true, true, true, true, true, true, true, true, true, true, false, false, false, false, false] rfl rfl (any_of HT_.out (by kernel_rfl)) (fun _ _ _ h => h) (Or.inl ⟨by rfl, ?_⟩) ?_ ?_
                                            rotate_left
                                            · intro w'
                                              go_simp
                                              with_reducible rfl
                                            rotate_left
                                            · simp only [Act.put, List.setIfInBounds_toArray, List.set_cons_zero, List.set_cons_succ, i64_w, i32_w]
                                              rfl
                                            refine pure_ (i := 11) (N := some 62) (v := ?_) (a' := ?_) #[true, true, true, true, true, true, true, true, true, true, true, true, false, false, false, false] rfl rfl (any_of HT_.out (by kernel_rfl)) (fun _ _ _ h => h) (Or.inl ⟨by rfl, ?_⟩) ?_ ?_
                                            rotate_left
                                            · intro w'
                                              go_simp
                                              with_reducible rfl
                                            rotate_left
                                            · simp only [Act.put, List.setIfInBounds_toArray, List.set_cons_zero, List.set_cons_succ, i64_w, i32_w]
                                              rfl
                                            refine one_ (i := 12) (N := some 10) #[true, true, true, true, true, true, true, true, true, true, true, true, true, false, false, false] rfl rfl (one_of HT_.out (by kernel_rfl)) (by decide) (fun K hK => ?_)
                                            refine box_step ?hg (N := 10) ?hd (cs := #[.int .i64 0, .int .i64 0, .int .i64 0, .string (⟨#[]⟩ : ByteArray), .int .i64 0]) (t := 23) ?hr ?_; (case hd => rfl); (case hg => rfl); (case hr => first | (go_simp; done) | (go_simp; rfl))
                                            intro gb126 hg w39 hbox hb
                                            have n0_ := Aside0.mk (blk_below (g := gb108) (o := .cells #[.int .i64 x109000_2, .int .i64 x109001_2, .int .i64 x109002_2, .string x109003_2, .int .i64 x109004_2] 23 (0, 0)) (by (with_reducible repeat (first | refine blk_drewN ?_ _ | refine blk_drew ?_ | refine blk_alloc ?_ _)); exact BK108.out) hb)
                                            have n1_ := Aside0.mk (blk_below (g := gb115) (o := .cells #[.int .i64 x116000_2, .int .i64 x116001_2, .int .i64 x116002_2, .string x116003_2, .int .i64 x116004_2] 23 (0, 0)) (by (with_reducible repeat (first | refine blk_drewN ?_ _ | refine blk_drew ?_ | refine blk_alloc ?_ _)); exact BK115.out) hb)
                                            have n2_ := Aside0.mk (below_step (by repeat (first | (with_reducible first | exact HB.out | apply below_alloc | apply pw_below_drewN | apply below_drew1 | refine below_set ?_ GE108.out | refine below_set ?_ GE115.out) | exact HB.out)) hb)
                                            have n3_ := Aside0.mk (hbox)
                                            have n4_ := Aside0.mk ((by rw [hg]; exact (below_size (by repeat (first | (with_reducible first | exact HB.out | apply below_alloc | apply pw_below_drewN | apply below_drew1 | refine below_set ?_ GE108.out | refine below_set ?_ GE115.out) | exact HB.out))) : w.heap.size ≤ gb126))
                                            have n5_ := Aside0.mk ((by rw [hg]; exact (below_size (by repeat (first | (with_reducible first | exact HB.out | apply below_alloc | apply pw_below_drewN | apply below_drew1 | refine below_set ?_ GE108.out | refine below_set ?_ GE115.out) | exact HB.out))) : w.heap.size ≤ gb126))
                                            have n6_ := Aside0.mk ((by rw [hg]; exact Nat.ne_of_lt (blk_lt (g := gb108) (o := .cells #[.int .i64 x109000_2, .int .i64 x109001_2, .int .i64 x109002_2, .string x109003_2, .int .i64 x109004_2] 23 (0, 0)) (by (with_reducible repeat (first | refine blk_drewN ?_ _ | refine blk_drew ?_ | refine blk_alloc ?_ _)); exact BK108.out)) : gb108 ≠ gb126))
                                            have n7_ := Aside0.mk ((by rw [hg]; exact Nat.ne_of_gt (blk_lt (g := gb108) (o := .cells #[.int .i64 x109000_2, .int .i64 x109001_2, .int .i64 x109002_2, .string x109003_2, .int .i64 x109004_2] 23 (0, 0)) (by (with_reducible repeat (first | refine blk_drewN ?_ _ | refine blk_drew ?_ | refine blk_alloc ?_ _)); exact BK108.out)) : gb126 ≠ gb108))
                                            have n8_ := Aside0.mk ((by rw [hg]; exact Nat.ne_of_lt (blk_lt (g := gb115) (o := .cells #[.int .i64 x116000_2, .int .i64 x116001_2, .int .i64 x116002_2, .string x116003_2, .int .i64 x116004_2] 23 (0, 0)) (by (with_reducible repeat (first | refine blk_drewN ?_ _ | refine blk_drew ?_ | refine blk_alloc ?_ _)); exact BK115.out)) : gb115 ≠ gb126))
                                            have n9_ := Aside0.mk ((by rw [hg]; exact Nat.ne_of_gt (blk_lt (g := gb115) (o := .cells #[.int .i64 x116000_2, .int .i64 x116001_2, .int .i64 x116002_2, .string x116003_2, .int .i64 x116004_2] 23 (0, 0)) (by (with_reducible repeat (first | refine blk_drewN ?_ _ | refine blk_drew ?_ | refine blk_alloc ?_ _)); exact BK115.out)) : gb126 ≠ gb115))
                                            clear BK108
                                            clear BK115
                                            clear HB
                                            have BK108 := n0_
                                            have BK115 := n1_
                                            have HB := n2_
                                            have BK126 := n3_
                                            have GW126 := n4_
                                            have GE126 := n5_
                                            have NB108_126 := n6_
                                            have NB126_108 := n7_
                                            have NB115_126 := n8_
                                            have NB126_115 := n9_
                                            clear n0_ n1_ n2_ n3_ n4_ n5_ n6_ n7_ n8_ n9_
                                            clear hb hbox hg
                                            refine hK.out _ _ ⟨(blk_cell BK108.out 0).trans rfl, (blk_cell BK108.out 1).trans rfl, (blk_cell BK108.out 2).trans rfl, (blk_cell BK108.out 3).trans rfl, (blk_cell BK108.out 4).trans rfl, ((HB.out.cell (World.block_lt_of_cell? w _ hw118_0)).trans hw118_0)⟩ (fun hHeld => ?_)
                                            clear hK K
                                            refine norm_ (a' := ?_) ?_ ?_
                                            rotate_left
                                            · show Act.put _ (some 10) _ = _
                                              simp only [Act.put, List.setIfInBounds_toArray, List.set_cons_zero, List.set_cons_succ, i64_w, i32_w]
                                              rfl
                                            exact norm_ (by simp only [putAll, Act.put, List.setIfInBounds_toArray, List.set_cons_zero, List.set_cons_succ]) (hCont (gb126) _ ⟨hHeld, (by (with_reducible repeat (first | refine blk_drewN ?_ _ | refine blk_drew ?_ | refine blk_alloc ?_ _)); exact BK108.out), (by (with_reducible repeat (first | refine blk_drewN ?_ _ | refine blk_drew ?_ | refine blk_alloc ?_ _)); exact BK115.out), (by (with_reducible repeat (first | refine blk_drewN ?_ _ | refine blk_drew ?_ | refine blk_alloc ?_ _)); exact BK126.out), GW126.out, GE126.out, NB108_126.out, NB126_108.out, NB115_126.out, NB126_115.out, (by repeat (first | (with_reducible first | exact HB.out | apply below_alloc | apply pw_below_drewN | apply below_drew1 | refine below_set ?_ GE108.out | refine below_set ?_ GE115.out | refine below_set ?_ GE126.out) | exact HB.out))⟩)
                                          · skip
                                            refine box_step ?hg (N := 10) ?hd (cs := #[.int .i64 0, .int .i64 0, .int .i64 0, .string (⟨#[]⟩ : ByteArray), .int .i64 0]) (t := 23) ?hr ?_; (case hd => rfl); (case hg => rfl); (case hr => first | (go_simp; done) | (go_simp; rfl))
                                            intro gb126 hg w38 hbox hb
                                            have n0_ := Aside0.mk (blk_below (g := gb108) (o := .cells #[.int .i64 x109000_2, .int .i64 x109001_2, .int .i64 x109002_2, .string x109003_2, .int .i64 x109004_2] 23 (0, 0)) (by (with_reducible repeat (first | refine blk_drewN ?_ _ | refine blk_drew ?_ | refine blk_alloc ?_ _)); exact BK108.out) hb)
                                            have n1_ := Aside0.mk (blk_below (g := gb115) (o := .cells #[.int .i64 x116000_2, .int .i64 x116001_2, .int .i64 x116002_2, .string x116003_2, .int .i64 x116004_2] 23 (0, 0)) (by (with_reducible repeat (first | refine blk_drewN ?_ _ | refine blk_drew ?_ | refine blk_alloc ?_ _)); exact BK115.out) hb)
                                            have n2_ := Aside0.mk (below_step (by repeat (first | (with_reducible first | exact HB.out | apply below_alloc | apply pw_below_drewN | apply below_drew1 | refine below_set ?_ GE108.out | refine below_set ?_ GE115.out) | exact HB.out)) hb)
                                            have n3_ := Aside0.mk (hbox)
                                            have n4_ := Aside0.mk ((by rw [hg]; exact (below_size (by repeat (first | (with_reducible first | exact HB.out | apply below_alloc | apply pw_below_drewN | apply below_drew1 | refine below_set ?_ GE108.out | refine below_set ?_ GE115.out) | exact HB.out))) : w.heap.size ≤ gb126))
                                            have n5_ := Aside0.mk ((by rw [hg]; exact (below_size (by repeat (first | (with_reducible first | exact HB.out | apply below_alloc | apply pw_below_drewN | apply below_drew1 | refine below_set ?_ GE108.out | refine below_set ?_ GE115.out) | exact HB.out))) : w.heap.size ≤ gb126))
                                            have n6_ := Aside0.mk ((by rw [hg]; exact Nat.ne_of_lt (blk_lt (g := gb108) (o := .cells #[.int .i64 x109000_2, .int .i64 x109001_2, .int .i64 x109002_2, .string x109003_2, .int .i64 x109004_2] 23 (0, 0)) (by (with_reducible repeat (first | refine blk_drewN ?_ _ | refine blk_drew ?_ | refine blk_alloc ?_ _)); exact BK108.out)) : gb108 ≠ gb126))
                                            have n7_ := Aside0.mk ((by rw [hg]; exact Nat.ne_of_gt (blk_lt (g := gb108) (o := .cells #[.int .i64 x109000_2, .int .i64 x109001_2, .int .i64 x109002_2, .string x109003_2, .int .i64 x109004_2] 23 (0, 0)) (by (with_reducible repeat (first | refine blk_drewN ?_ _ | refine blk_drew ?_ | refine blk_alloc ?_ _)); exact BK108.out)) : gb126 ≠ gb108))
                                            have n8_ := Aside0.mk ((by rw [hg]; exact Nat.ne_of_lt (blk_lt (g := gb115) (o := .cells #[.int .i64 x116000_2, .int .i64 x116001_2, .int .i64 x116002_2, .string x116003_2, .int .i64 x116004_2] 23 (0, 0)) (by (with_reducible repeat (first | refine blk_drewN ?_ _ | refine blk_drew ?_ | refine blk_alloc ?_ _)); exact BK115.out)) : gb115 ≠ gb126))
                                            have n9_ := Aside0.mk ((by rw [hg]; exact Nat.ne_of_gt (blk_lt (g := gb115) (o := .cells #[.int .i64 x116000_2, .int .i64 x116001_2, .int .i64 x116002_2, .string x116003_2, .int .i64 x116004_2] 23 (0, 0)) (by (with_reducible repeat (first | refine blk_drewN ?_ _ | refine blk_drew ?_ | refine blk_alloc ?_ _)); exact BK115.out)) : gb126 ≠ gb115))
                                            clear BK108
                                            clear BK115
                                            clear HB
                                            have BK108 := n0_
                                            have BK115 := n1_
                                            have HB := n2_
                                            have BK126 := n3_
                                            have GW126 := n4_
                                            have GE126 := n5_
                                            have NB108_126 := n6_
                                            have NB126_108 := n7_
                                            have NB115_126 := n8_
                                            have NB126_115 := n9_
                                            clear n0_ n1_ n2_ n3_ n4_ n5_ n6_ n7_ n8_ n9_
                                            clear hb hbox hg
                                            refine hK.out _ _ ⟨(blk_cell BK108.out 0).trans rfl, (blk_cell BK108.out 1).trans rfl, (blk_cell BK108.out 2).trans rfl, (blk_cell BK108.out 3).trans rfl, (blk_cell BK108.out 4).trans rfl, ((HB.out.cell (World.block_lt_of_cell? w _ hw118_0)).trans hw118_0)⟩ (fun hHeld => ?_)
                                            clear hK K
                                            refine norm_ (a' := ?_) ?_ ?_
                                            rotate_left
                                            · show Act.put _ (some 10) _ = _
                                              simp only [Act.put, List.setIfInBounds_toArray, List.set_cons_zero, List.set_cons_succ, i64_w, i32_w]
                                              rfl
                                            refine one_ (i := 7) (N := some 59) #[true, true, true, true, true, true, true, true, false, false, false, false, true, false, false, false] rfl rfl (one_of HT_.out (by kernel_rfl)) (by decide) (fun K hK => ?_)
                                            refine goes_ Try.func8 (by kernel_rfl) rfl #[.agg #[.int .i64 x109000_2, .int .i64 x109001_2, .int .i64 x109002_2, .string x109003_2, .int .i64 x109004_2], .int .i64 (wrap64 (1 + (Go.bits .and .i64 (rd l1 x9_2) 4094)))] (by rfl) rfl rfl (by (try simp only [List.map_toArray, List.map_cons, List.map_nil]); first | done | rfl | (simp only [List.length_drop, List.length_take]; rfl)) ?_
                                            with_reducible refine (decoder_Bit.calls x109000_2 x109001_2 x109002_2 x109003_2 x109004_2 (wrap64 (1 + (Go.bits .and .i64 (rd l1 x9_2) 4094))) t119 t120 t121 t122 t123 t124 t125 _ A26.out).mono ?_
                                            rintro e w39 ⟨rfl, hb⟩
                                            refine ⟨_, rfl, ?_⟩
                                            have n0_ := Aside0.mk (blk_below (g := gb108) (o := .cells #[.int .i64 x109000_2, .int .i64 x109001_2, .int .i64 x109002_2, .string x109003_2, .int .i64 x109004_2] 23 (0, 0)) (by (with_reducible repeat (first | refine blk_drewN ?_ _ | refine blk_drew ?_ | refine blk_alloc ?_ _)); exact BK108.out) hb)
                                            have n1_ := Aside0.mk (blk_below (g := gb115) (o := .cells #[.int .i64 x116000_2, .int .i64 x116001_2, .int .i64 x116002_2, .string x116003_2, .int .i64 x116004_2] 23 (0, 0)) (by (with_reducible repeat (first | refine blk_drewN ?_ _ | refine blk_drew ?_ | refine blk_alloc ?_ _)); exact BK115.out) hb)
                                            have n2_ := Aside0.mk (blk_below (g := gb126) (o := .cells #[.int .i64 0, .int .i64 0, .int .i64 0, .string (⟨#[]⟩ : ByteArray), .int .i64 0] 23 (0, 0)) (by (with_reducible repeat (first | refine blk_drewN ?_ _ | refine blk_drew ?_ | refine blk_alloc ?_ _)); exact BK126.out) hb)
                                            have n3_ := Aside0.mk (below_step (by repeat (first | (with_reducible first | exact HB.out | apply below_alloc | apply pw_below_drewN | apply below_drew1 | refine below_set ?_ GE108.out | refine below_set ?_ GE115.out | refine below_set ?_ GE126.out) | exact HB.out)) hb)
                                            clear BK108
                                            clear BK115
                                            clear BK126
                                            clear HB
                                            have BK108 := n0_
                                            have BK115 := n1_
                                            have BK126 := n2_
                                            have HB := n3_
                                            clear n0_ n1_ n2_ n3_
                                            (try clear hb)
                                            (try clear hb2)
                                            (try clear hk)
                                            (try clear hi)
                                            refine hK.out _ _ ⟨(blk_cell BK108.out 0).trans rfl, (blk_cell BK108.out 1).trans rfl, (blk_cell BK108.out 2).trans rfl, (blk_cell BK108.out 3).trans rfl, (blk_cell BK108.out 4).trans rfl, ((HB.out.cell (World.block_lt_of_cell? w _ hw118_0)).trans hw118_0)⟩ (fun hHeld => ?_)
                                            clear hK K
                                            refine norm_ (a' := ?_) ?_ ?_
                                            rotate_left
                                            · show Act.put _ (some 59) _ = _
                                              simp only [Act.put, List.setIfInBounds_toArray, List.set_cons_zero, List.set_cons_succ, i64_w, i32_w]
                                              rfl
                                            refine pure_ (i := 8) (N := some 51) (v := ?_) (a' := ?_) #[true, true, true, true, true, true, true, true, true, false, false, false, true, false, false, false] rfl rfl (any_of HT_.out (by kernel_rfl)) (fun _ _ _ h => h) (Or.inl ⟨by rfl, ?_⟩) ?_ ?_
                                            rotate_left
                                            · intro w'
                                              go_simp
                                              with_reducible rfl
                                            rotate_left
                                            · simp only [Act.put, List.setIfInBounds_toArray, List.set_cons_zero, List.set_cons_succ, i64_w, i32_w]
                                              rfl
                                            refine pure_ (i := 9) (N := some 60) (v := ?_) (a' := ?_) #[true, true, true, true, true, true, true, true, true, true, false, false, true, false, false, false] rfl rfl (any_of HT_.out (by kernel_rfl)) (fun _ _ _ h => h) (Or.inl ⟨by rfl, ?_⟩) ?_ ?_
                                            rotate_left
                                            · intro w'
                                              go_simp
                                              with_reducible rfl
                                            rotate_left
                                            · simp only [Act.put, List.setIfInBounds_toArray, List.set_cons_zero, List.set_cons_succ, i64_w, i32_w]
                                              rfl
                                            refine pure_ (i := 10) (N := some 61) (v := ?_) (a' := ?_) #[true, true, true, true, true, true, true, true, true, true, true, false, true, false, false, false] rfl rfl (any_of HT_.out (by kernel_rfl)) (fun _ _ _ h => h) (Or.inl ⟨by rfl, ?_⟩) ?_ ?_
                                            rotate_left
                                            · intro w'
                                              go_simp
                                              with_reducible rfl
                                            rotate_left
                                            · simp only [Act.put, List.setIfInBounds_toArray, List.set_cons_zero, List.set_cons_succ, i64_w, i32_w]
                                              rfl
                                            refine pure_ (i := 11) (N := some 62) (v := ?_) (a' := ?_) #[true, true, true, true, true, true, true, true, true, true, true, true, true, false, false, false] rfl rfl (any_of HT_.out (by kernel_rfl)) (fun _ _ _ h => h) (Or.inl ⟨by rfl, ?_⟩) ?_ ?_
                                            rotate_left
                                            · intro w'
                                              go_simp
                                              with_reducible rfl
                                            rotate_left
                                            · simp only [Act.put, List.setIfInBounds_toArray, List.set_cons_zero, List.set_cons_succ, i64_w, i32_w]
                                              rfl
                                            exact norm_ (by simp only [putAll, Act.put, List.setIfInBounds_toArray, List.set_cons_zero, List.set_cons_succ]) (hCont (gb126) _ ⟨hHeld, (by (with_reducible repeat (first | refine blk_drewN ?_ _ | refine blk_drew ?_ | refine blk_alloc ?_ _)); exact BK108.out), (by (with_reducible repeat (first | refine blk_drewN ?_ _ | refine blk_drew ?_ | refine blk_alloc ?_ _)); exact BK115.out), (by (with_reducible repeat (first | refine blk_drewN ?_ _ | refine blk_drew ?_ | refine blk_alloc ?_ _)); exact BK126.out), GW126.out, GE126.out, NB108_126.out, NB126_108.out, NB115_126.out, NB126_115.out, (by repeat (first | (with_reducible first | exact HB.out | apply below_alloc | apply pw_below_drewN | apply below_drew1 | refine below_set ?_ GE108.out | refine below_set ?_ GE115.out | refine below_set ?_ GE126.out) | exact HB.out))⟩)
                                        rintro gb126 w40 ⟨hS_, h0_, h1_, h2_, h3_, h4_, h5_, h6_, h7_, h8_, h9_⟩
                                        have n0_ : Aside0 (w40.heap[gb108]? = some (.cells #[.int .i64 x109000_2, .int .i64 x109001_2, .int .i64 x109002_2, .string x109003_2, .int .i64 x109004_2] 23 (0, 0))) := ⟨h0_⟩
                                        have n1_ : Aside0 (w40.heap[gb115]? = some (.cells #[.int .i64 x116000_2, .int .i64 x116001_2, .int .i64 x116002_2, .string x116003_2, .int .i64 x116004_2] 23 (0, 0))) := ⟨h1_⟩
                                        have n2_ : Aside0 (w40.heap[gb126]? = some (.cells #[.int .i64 0, .int .i64 0, .int .i64 0, .string (⟨#[]⟩ : ByteArray), .int .i64 0] 23 (0, 0))) := ⟨h2_⟩
                                        have n3_ : Aside0 (w.heap.size ≤ gb126) := ⟨h3_⟩
                                        have n4_ : Aside0 (w.heap.size ≤ gb126) := ⟨h4_⟩
                                        have n5_ : Aside0 (gb108 ≠ gb126) := ⟨h5_⟩
                                        have n6_ : Aside0 (gb126 ≠ gb108) := ⟨h6_⟩
                                        have n7_ : Aside0 (gb115 ≠ gb126) := ⟨h7_⟩
                                        have n8_ : Aside0 (gb126 ≠ gb115) := ⟨h8_⟩
                                        have n9_ : Aside0 (Below w.heap.size w w40) := ⟨h9_⟩
                                        clear BK108
                                        clear BK115
                                        clear HB
                                        clear h0_ h1_ h2_ h3_ h4_ h5_ h6_ h7_ h8_ h9_
                                        have BK108 := n0_
                                        have BK115 := n1_
                                        have BK126 := n2_
                                        have GW126 := n3_
                                        have GE126 := n4_
                                        have NB108_126 := n5_
                                        have NB126_108 := n6_
                                        have NB115_126 := n7_
                                        have NB126_115 := n8_
                                        have HB := n9_
                                        clear n0_ n1_ n2_ n3_ n4_ n5_ n6_ n7_ n8_ n9_
                                        have hHeld : w40.cell? ⟨gb108, 0, none⟩ = some (.int .i64 x109000_2) ∧ w40.cell? ⟨gb108, 1, none⟩ = some (.int .i64 x109001_2) ∧ w40.cell? ⟨gb108, 2, none⟩ = some (.int .i64 x109002_2) ∧ w40.cell? ⟨gb108, 3, none⟩ = some (.string x109003_2) ∧ w40.cell? ⟨gb108, 4, none⟩ = some (.int .i64 x109004_2) ∧ w40.cell? (ad118.add (x9_2).toNat) = some (.int .i64 (rd l1 x9_2)) := hS_
                                        refine norm_ (a' := ?_) ?_ ?_
                                        rotate_left
                                        · simp only [putAll, Act.put, List.setIfInBounds_toArray, List.set_cons_zero, List.set_cons_succ]
                                          rfl
                                        refine one_ (i := 13) (N := none) #[true, true, true, true, true, true, true, true, true, true, true, true, true, true, false, false] rfl rfl (one_of HT_.out (by kernel_rfl)) (by decide) (fun K hK => ?_)
                                        have hs41 : w40.cell? ⟨gb126, 0, none⟩ = some (.int .i64 0) := (blk_cell BK126.out 0).trans rfl
                                        have hfs41 := blk_frozen BK126.out 0
                                        have hns41_0 := NB108_126.out
                                        have hns41_1 := NB115_126.out
                                        have hms41_0 := NB126_108.out
                                        have hms41_1 := NB126_115.out
                                        have hs42 : w40.cell? ⟨gb126, 1, none⟩ = some (.int .i64 0) := (blk_cell BK126.out 1).trans rfl
                                        have hfs42 := blk_frozen BK126.out 1
                                        have hns42_0 := NB108_126.out
                                        have hns42_1 := NB115_126.out
                                        have hms42_0 := NB126_108.out
                                        have hms42_1 := NB126_115.out
                                        have hs43 : w40.cell? ⟨gb126, 2, none⟩ = some (.int .i64 0) := (blk_cell BK126.out 2).trans rfl
                                        have hfs43 := blk_frozen BK126.out 2
                                        have hns43_0 := NB108_126.out
                                        have hns43_1 := NB115_126.out
                                        have hms43_0 := NB126_108.out
                                        have hms43_1 := NB126_115.out
                                        have hs44 : w40.cell? ⟨gb126, 3, none⟩ = some (.string (⟨#[]⟩ : ByteArray)) := (blk_cell BK126.out 3).trans rfl
                                        have hfs44 := blk_frozen BK126.out 3
                                        have hns44_0 := NB108_126.out
                                        have hns44_1 := NB115_126.out
                                        have hms44_0 := NB126_108.out
                                        have hms44_1 := NB126_115.out
                                        have hs45 : w40.cell? ⟨gb126, 4, none⟩ = some (.int .i64 0) := (blk_cell BK126.out 4).trans rfl
                                        have hfs45 := blk_frozen BK126.out 4
                                        have hns45_0 := NB108_126.out
                                        have hns45_1 := NB115_126.out
                                        have hms45_0 := NB126_108.out
                                        have hms45_1 := NB126_115.out
                                        refine skip_ (w1 := ?_) (by rfl) rfl ?_ ?_
                                        rotate_left
                                        · go_simp
                                          rfl
                                        refine hK.out _ _ ⟨((cell_far (p := ⟨gb126, _, none⟩) NB108_126.out _).trans (((cell_far (p := ⟨gb126, _, none⟩) NB108_126.out _).trans (((cell_far (p := ⟨gb126, _, none⟩) NB108_126.out _).trans (((cell_far (p := ⟨gb126, _, none⟩) NB108_126.out _).trans (((cell_far (p := ⟨gb126, _, none⟩) NB108_126.out _).trans (hHeld.1)))))))))), ((cell_far (p := ⟨gb126, _, none⟩) NB108_126.out _).trans (((cell_far (p := ⟨gb126, _, none⟩) NB108_126.out _).trans (((cell_far (p := ⟨gb126, _, none⟩) NB108_126.out _).trans (((cell_far (p := ⟨gb126, _, none⟩) NB108_126.out _).trans (((cell_far (p := ⟨gb126, _, none⟩) NB108_126.out _).trans (hHeld.2.1)))))))))), ((cell_far (p := ⟨gb126, _, none⟩) NB108_126.out _).trans (((cell_far (p := ⟨gb126, _, none⟩) NB108_126.out _).trans (((cell_far (p := ⟨gb126, _, none⟩) NB108_126.out _).trans (((cell_far (p := ⟨gb126, _, none⟩) NB108_126.out _).trans (((cell_far (p := ⟨gb126, _, none⟩) NB108_126.out _).trans (hHeld.2.2.1)))))))))), ((cell_far (p := ⟨gb126, _, none⟩) NB108_126.out _).trans (((cell_far (p := ⟨gb126, _, none⟩) NB108_126.out _).trans (((cell_far (p := ⟨gb126, _, none⟩) NB108_126.out _).trans (((cell_far (p := ⟨gb126, _, none⟩) NB108_126.out _).trans (((cell_far (p := ⟨gb126, _, none⟩) NB108_126.out _).trans (hHeld.2.2.2.1)))))))))), ((cell_far (p := ⟨gb126, _, none⟩) NB108_126.out _).trans (((cell_far (p := ⟨gb126, _, none⟩) NB108_126.out _).trans (((cell_far (p := ⟨gb126, _, none⟩) NB108_126.out _).trans (((cell_far (p := ⟨gb126, _, none⟩) NB108_126.out _).trans (((cell_far (p := ⟨gb126, _, none⟩) NB108_126.out _).trans (hHeld.2.2.2.2.1)))))))))), ((cell_far (p := ⟨gb126, _, none⟩) (by first | exact Nat.ne_of_lt (Nat.lt_of_lt_of_le (by have := World.block_lt_of_cell? _ _ hw118_0; first | rwa [add_block] at this | exact this) GW126.out) | (rw [add_block]; exact Nat.ne_of_lt (Nat.lt_of_lt_of_le (by have := World.block_lt_of_cell? _ _ hw118_0; first | rwa [add_block] at this | exact this) GW126.out)) | (show (Addr.add _ _).block ≠ _; rw [add_block]; exact Nat.ne_of_lt (Nat.lt_of_lt_of_le (by have := World.block_lt_of_cell? _ _ hw118_0; first | rwa [add_block] at this | exact this) GW126.out)) | (dsimp only; exact Nat.ne_of_lt (Nat.lt_of_lt_of_le (by have := World.block_lt_of_cell? _ _ hw118_0; first | rwa [add_block] at this | exact this) GW126.out))) _).trans (((cell_far (p := ⟨gb126, _, none⟩) (by first | exact Nat.ne_of_lt (Nat.lt_of_lt_of_le (by have := World.block_lt_of_cell? _ _ hw118_0; first | rwa [add_block] at this | exact this) GW126.out) | (rw [add_block]; exact Nat.ne_of_lt (Nat.lt_of_lt_of_le (by have := World.block_lt_of_cell? _ _ hw118_0; first | rwa [add_block] at this | exact this) GW126.out)) | (show (Addr.add _ _).block ≠ _; rw [add_block]; exact Nat.ne_of_lt (Nat.lt_of_lt_of_le (by have := World.block_lt_of_cell? _ _ hw118_0; first | rwa [add_block] at this | exact this) GW126.out)) | (dsimp only; exact Nat.ne_of_lt (Nat.lt_of_lt_of_le (by have := World.block_lt_of_cell? _ _ hw118_0; first | rwa [add_block] at this | exact this) GW126.out))) _).trans (((cell_far (p := ⟨gb126, _, none⟩) (by first | exact Nat.ne_of_lt (Nat.lt_of_lt_of_le (by have := World.block_lt_of_cell? _ _ hw118_0; first | rwa [add_block] at this | exact this) GW126.out) | (rw [add_block]; exact Nat.ne_of_lt (Nat.lt_of_lt_of_le (by have := World.block_lt_of_cell? _ _ hw118_0; first | rwa [add_block] at this | exact this) GW126.out)) | (show (Addr.add _ _).block ≠ _; rw [add_block]; exact Nat.ne_of_lt (Nat.lt_of_lt_of_le (by have := World.block_lt_of_cell? _ _ hw118_0; first | rwa [add_block] at this | exact this) GW126.out)) | (dsimp only; exact Nat.ne_of_lt (Nat.lt_of_lt_of_le (by have := World.block_lt_of_cell? _ _ hw118_0; first | rwa [add_block] at this | exact this) GW126.out))) _).trans (((cell_far (p := ⟨gb126, _, none⟩) (by first | exact Nat.ne_of_lt (Nat.lt_of_lt_of_le (by have := World.block_lt_of_cell? _ _ hw118_0; first | rwa [add_block] at this | exact this) GW126.out) | (rw [add_block]; exact Nat.ne_of_lt (Nat.lt_of_lt_of_le (by have := World.block_lt_of_cell? _ _ hw118_0; first | rwa [add_block] at this | exact this) GW126.out)) | (show (Addr.add _ _).block ≠ _; rw [add_block]; exact Nat.ne_of_lt (Nat.lt_of_lt_of_le (by have := World.block_lt_of_cell? _ _ hw118_0; first | rwa [add_block] at this | exact this) GW126.out)) | (dsimp only; exact Nat.ne_of_lt (Nat.lt_of_lt_of_le (by have := World.block_lt_of_cell? _ _ hw118_0; first | rwa [add_block] at this | exact this) GW126.out))) _).trans (((cell_far (p := ⟨gb126, _, none⟩) (by first | exact Nat.ne_of_lt (Nat.lt_of_lt_of_le (by have := World.block_lt_of_cell? _ _ hw118_0; first | rwa [add_block] at this | exact this) GW126.out) | (rw [add_block]; exact Nat.ne_of_lt (Nat.lt_of_lt_of_le (by have := World.block_lt_of_cell? _ _ hw118_0; first | rwa [add_block] at this | exact this) GW126.out)) | (show (Addr.add _ _).block ≠ _; rw [add_block]; exact Nat.ne_of_lt (Nat.lt_of_lt_of_le (by have := World.block_lt_of_cell? _ _ hw118_0; first | rwa [add_block] at this | exact this) GW126.out)) | (dsimp only; exact Nat.ne_of_lt (Nat.lt_of_lt_of_le (by have := World.block_lt_of_cell? _ _ hw118_0; first | rwa [add_block] at this | exact this) GW126.out))) _).trans (hHeld.2.2.2.2.2))))))))))⟩ (fun hHeld => ?_)
                                        clear hK K
                                        refine pure_ (i := 14) (N := some 11) (v := ?_) (a' := ?_) #[true, true, true, true, true, true, true, true, true, true, true, true, true, true, true, false] rfl rfl (any_of HT_.out (by kernel_rfl)) (fun _ _ _ h => h) (Or.inl ⟨by rfl, ?_⟩) ?_ ?_
                                        rotate_left
                                        · intro w'
                                          go_simp
                                          with_reducible rfl
                                        rotate_left
                                        · simp only [Act.put, List.setIfInBounds_toArray, List.set_cons_zero, List.set_cons_succ, i64_w, i32_w]
                                          rfl
                                        refine pure_ (i := 15) (N := some 12) (v := ?_) (a' := ?_) #[true, true, true, true, true, true, true, true, true, true, true, true, true, true, true, true] rfl rfl (any_of HT_.out (by kernel_rfl)) (fun _ _ _ h => h) (Or.inl ⟨by rfl, ?_⟩) ?_ ?_
                                        rotate_left
                                        · intro w'
                                          go_simp
                                          with_reducible rfl
                                        rotate_left
                                        · simp only [Act.put, List.setIfInBounds_toArray, List.set_cons_zero, List.set_cons_succ, i64_w, i32_w]
                                          rfl
                                        refine done_ (done_of HT_.out (by kernel_rfl)) ?_
                                        try go_wp2
                                        have n0_ : Aside0 ((((((w40.setCell ⟨gb126, 0, none⟩ (.int .i64 t119)).setCell ⟨gb126, 1, none⟩ (.int .i64 t120)).setCell ⟨gb126, 2, none⟩ (.int .i64 t121)).setCell ⟨gb126, 3, none⟩ (.string t122)).setCell ⟨gb126, 4, none⟩ (.int .i64 t123)).heap[gb108]? = some (.cells #[.int .i64 x109000_2, .int .i64 x109001_2, .int .i64 x109002_2, .string x109003_2, .int .i64 x109004_2] 23 (0, 0))) := ⟨by (with_reducible repeat (first | refine blk_drewN ?_ _ | refine blk_drew ?_ | refine blk_alloc ?_ _)); refine blk_far ?_ NB108_126.out _; (with_reducible repeat (first | refine blk_drewN ?_ _ | refine blk_drew ?_ | refine blk_alloc ?_ _)); refine blk_far ?_ NB108_126.out _; (with_reducible repeat (first | refine blk_drewN ?_ _ | refine blk_drew ?_ | refine blk_alloc ?_ _)); refine blk_far ?_ NB108_126.out _; (with_reducible repeat (first | refine blk_drewN ?_ _ | refine blk_drew ?_ | refine blk_alloc ?_ _)); refine blk_far ?_ NB108_126.out _; (with_reducible repeat (first | refine blk_drewN ?_ _ | refine blk_drew ?_ | refine blk_alloc ?_ _)); refine blk_far ?_ NB108_126.out _; (with_reducible repeat (first | refine blk_drewN ?_ _ | refine blk_drew ?_ | refine blk_alloc ?_ _)); exact BK108.out⟩
                                        have n1_ : Aside0 ((((((w40.setCell ⟨gb126, 0, none⟩ (.int .i64 t119)).setCell ⟨gb126, 1, none⟩ (.int .i64 t120)).setCell ⟨gb126, 2, none⟩ (.int .i64 t121)).setCell ⟨gb126, 3, none⟩ (.string t122)).setCell ⟨gb126, 4, none⟩ (.int .i64 t123)).heap[gb115]? = some (.cells #[.int .i64 x116000_2, .int .i64 x116001_2, .int .i64 x116002_2, .string x116003_2, .int .i64 x116004_2] 23 (0, 0))) := ⟨by (with_reducible repeat (first | refine blk_drewN ?_ _ | refine blk_drew ?_ | refine blk_alloc ?_ _)); refine blk_far ?_ NB115_126.out _; (with_reducible repeat (first | refine blk_drewN ?_ _ | refine blk_drew ?_ | refine blk_alloc ?_ _)); refine blk_far ?_ NB115_126.out _; (with_reducible repeat (first | refine blk_drewN ?_ _ | refine blk_drew ?_ | refine blk_alloc ?_ _)); refine blk_far ?_ NB115_126.out _; (with_reducible repeat (first | refine blk_drewN ?_ _ | refine blk_drew ?_ | refine blk_alloc ?_ _)); refine blk_far ?_ NB115_126.out _; (with_reducible repeat (first | refine blk_drewN ?_ _ | refine blk_drew ?_ | refine blk_alloc ?_ _)); refine blk_far ?_ NB115_126.out _; (with_reducible repeat (first | refine blk_drewN ?_ _ | refine blk_drew ?_ | refine blk_alloc ?_ _)); exact BK115.out⟩
                                        have n2_ : Aside0 ((((((w40.setCell ⟨gb126, 0, none⟩ (.int .i64 t119)).setCell ⟨gb126, 1, none⟩ (.int .i64 t120)).setCell ⟨gb126, 2, none⟩ (.int .i64 t121)).setCell ⟨gb126, 3, none⟩ (.string t122)).setCell ⟨gb126, 4, none⟩ (.int .i64 t123)).heap[gb126]? = some (.cells #[.int .i64 t119, .int .i64 t120, .int .i64 t121, .string t122, .int .i64 t123] 23 (0, 0))) := ⟨by (with_reducible repeat (first | refine blk_drewN ?_ _ | refine blk_drew ?_ | refine blk_alloc ?_ _)); refine blk_put (cs := #[.int .i64 t119, .int .i64 t120, .int .i64 t121, .string t122, .int .i64 0]) ?_ 4 _ rfl; (with_reducible repeat (first | refine blk_drewN ?_ _ | refine blk_drew ?_ | refine blk_alloc ?_ _)); refine blk_put (cs := #[.int .i64 t119, .int .i64 t120, .int .i64 t121, .string (⟨#[]⟩ : ByteArray), .int .i64 0]) ?_ 3 _ rfl; (with_reducible repeat (first | refine blk_drewN ?_ _ | refine blk_drew ?_ | refine blk_alloc ?_ _)); refine blk_put (cs := #[.int .i64 t119, .int .i64 t120, .int .i64 0, .string (⟨#[]⟩ : ByteArray), .int .i64 0]) ?_ 2 _ rfl; (with_reducible repeat (first | refine blk_drewN ?_ _ | refine blk_drew ?_ | refine blk_alloc ?_ _)); refine blk_put (cs := #[.int .i64 t119, .int .i64 0, .int .i64 0, .string (⟨#[]⟩ : ByteArray), .int .i64 0]) ?_ 1 _ rfl; (with_reducible repeat (first | refine blk_drewN ?_ _ | refine blk_drew ?_ | refine blk_alloc ?_ _)); refine blk_put (cs := #[.int .i64 0, .int .i64 0, .int .i64 0, .string (⟨#[]⟩ : ByteArray), .int .i64 0]) ?_ 0 _ rfl; (with_reducible repeat (first | refine blk_drewN ?_ _ | refine blk_drew ?_ | refine blk_alloc ?_ _)); exact BK126.out⟩
                                        have n3_ : Aside0 (Below w.heap.size w (((((w40.setCell ⟨gb126, 0, none⟩ (.int .i64 t119)).setCell ⟨gb126, 1, none⟩ (.int .i64 t120)).setCell ⟨gb126, 2, none⟩ (.int .i64 t121)).setCell ⟨gb126, 3, none⟩ (.string t122)).setCell ⟨gb126, 4, none⟩ (.int .i64 t123))) := ⟨by repeat (first | (with_reducible first | exact HB.out | apply below_alloc | apply pw_below_drewN | apply below_drew1 | refine below_set ?_ GE108.out | refine below_set ?_ GE115.out | refine below_set ?_ GE126.out) | exact HB.out)⟩
                                        (try clear BK108)
                                        (try clear BK115)
                                        (try clear BK126)
                                        (try clear HB)
                                        generalize (((((w40.setCell ⟨gb126, 0, none⟩ (.int .i64 t119)).setCell ⟨gb126, 1, none⟩ (.int .i64 t120)).setCell ⟨gb126, 2, none⟩ (.int .i64 t121)).setCell ⟨gb126, 3, none⟩ (.string t122)).setCell ⟨gb126, 4, none⟩ (.int .i64 t123)) = w46 at n0_ n1_ n2_ n3_ ⊢
                                        have BK108 := n0_
                                        have BK115 := n1_
                                        have BK126 := n2_
                                        have HB := n3_
                                        clear n0_ n1_ n2_ n3_
                                        have n0_ := Aside0.mk (blk_drew BK108.out)
                                        have n1_ := Aside0.mk (blk_drew BK115.out)
                                        have n2_ := Aside0.mk (blk_drew BK126.out)
                                        have n3_ := Aside0.mk (below_drew1 HB.out)
                                        clear BK108
                                        clear BK115
                                        clear BK126
                                        clear HB
                                        have BK108 := n0_
                                        have BK115 := n1_
                                        have BK126 := n2_
                                        have HB := n3_
                                        clear n0_ n1_ n2_ n3_
                                        have p127 : 0 ≤ (x9_2 : Int) := of_decide_eq_true (by first | (with_reducible assumption) | assumption)
                                        have q127 : x9_2 < (l1.length : Int) := of_decide_eq_true (by first | (with_reducible assumption) | assumption)
                                        obtain ⟨ad127, e127, hx127_0⟩ := Kd.at_int HR1.out x9_2 p127 q127
                                        have hw127_0 := hx127_0
                                        obtain rfl : ad118 = ad127 := (by injection e127)
                                        replace hx127_0 := (HB.out.cell (World.block_lt_of_cell? w _ hx127_0)).trans hx127_0
                                        replace p127 := eq_true p127
                                        replace q127 := eq_true q127
                                        refine start_ (n := 16) (S := fun w' => w'.cell? ⟨gb115, 0, none⟩ = some (.int .i64 x116000_2) ∧ w'.cell? ⟨gb115, 1, none⟩ = some (.int .i64 x116001_2) ∧ w'.cell? ⟨gb115, 2, none⟩ = some (.int .i64 x116002_2) ∧ w'.cell? ⟨gb115, 3, none⟩ = some (.string x116003_2) ∧ w'.cell? ⟨gb115, 4, none⟩ = some (.int .i64 x116004_2) ∧ w'.cell? (ad118.add (x9_2).toNat) = some (.int .i64 (rd l1 x9_2))) (ds := []) #[false, false, false, false, false, false, false, false, false, false, false, false, false, false, false, false] (by kernel_rfl) rfl rfl ⟨(blk_cell BK115.out 0).trans rfl, (blk_cell BK115.out 1).trans rfl, (blk_cell BK115.out 2).trans rfl, (blk_cell BK115.out 3).trans rfl, (blk_cell BK115.out 4).trans rfl, ((HB.out.cell (World.block_lt_of_cell? w _ hw127_0)).trans hw127_0)⟩ (fun hHeld => ?_); refine with_tabW descantlaw5_DecoderZeros.tab11 descantlaw5_DecoderZeros.bits11 (fun HT_ HW_ => ?_)
                                        generalize w46.drew = w47 at BK108 BK115 BK126 HB hx127_0 hHeld ⊢
                                        refine pure_ (i := 1) (N := some 65) (v := ?_) (a' := ?_) #[false, true, false, false, false, false, false, false, false, false, false, false, false, false, false, false] rfl rfl (any_of HT_.out (by kernel_rfl)) (fun _ _ _ h => h) (Or.inl ⟨by rfl, ?_⟩) ?_ ?_
                                        rotate_left
                                        · intro w'
                                          go_simp
                                          with_reducible rfl
                                        rotate_left
                                        · simp only [Act.put, List.setIfInBounds_toArray, List.set_cons_zero, List.set_cons_succ, i64_w, i32_w]
                                          rfl
                                        refine pure_ (i := 2) (N := some 66) (v := ?_) (a' := ?_) #[false, true, true, false, false, false, false, false, false, false, false, false, false, false, false, false] rfl rfl (any_of HT_.out (by kernel_rfl)) (fun _ _ _ h => h) (Or.inl ⟨by rfl, ?_⟩) ?_ ?_
                                        rotate_left
                                        · intro w'
                                          go_simp
                                          with_reducible rfl
                                        rotate_left
                                        · simp only [Act.put, List.setIfInBounds_toArray, List.set_cons_zero, List.set_cons_succ, i64_w, i32_w]
                                          rfl
                                        refine pure_ (i := 3) (N := some 67) (v := ?_) (a' := ?_) #[false, true, true, true, false, false, false, false, false, false, false, false, false, false, false, false] rfl rfl (any_of HT_.out (by kernel_rfl)) (fun _ _ _ h => h) (Or.inl ⟨by rfl, ?_⟩) ?_ ?_
                                        rotate_left
                                        · intro w'
                                          go_simp
                                          with_reducible rfl
                                        rotate_left
                                        · simp only [Act.put, List.setIfInBounds_toArray, List.set_cons_zero, List.set_cons_succ, i64_w, i32_w]
                                          rfl
                                        refine take_ (i := 0) (N := some 64) (v := ?_) (a' := ?_) #[true, true, true, true, false, false, false, false, false, false, false, false, false, false, false, false] rfl rfl (take_ofW HT_.out HW_.out (by kernel_rfl)) (fun _ _ _ h => h) (Or.inl ⟨by rfl, ?_⟩) hHeld ?_ ?_
                                        rotate_left
                                        · rintro w' ⟨s0, s1, s2, s3, s4, s5⟩
                                          go_simp
                                          with_reducible rfl
                                        rotate_left
                                        · simp only [Act.put, List.setIfInBounds_toArray, List.set_cons_zero, List.set_cons_succ, i64_w, i32_w]
                                          rfl
                                        refine take_ (i := 4) (N := some 68) (v := ?_) (a' := ?_) #[true, true, true, true, true, false, false, false, false, false, false, false, false, false, false, false] rfl rfl (take_ofW HT_.out HW_.out (by kernel_rfl)) (fun _ _ _ h => h) (Or.inl ⟨by rfl, ?_⟩) hHeld ?_ ?_
                                        rotate_left
                                        · rintro w' ⟨s0, s1, s2, s3, s4, s5⟩
                                          go_simp
                                          with_reducible rfl
                                        rotate_left
                                        · simp only [Act.put, List.setIfInBounds_toArray, List.set_cons_zero, List.set_cons_succ, i64_w, i32_w]
                                          rfl
                                        refine pure_ (i := 5) (N := some 69) (v := ?_) (a' := ?_) #[true, true, true, true, true, true, false, false, false, false, false, false, false, false, false, false] rfl rfl (any_of HT_.out (by kernel_rfl)) (fun _ _ _ h => h) (Or.inl ⟨by rfl, ?_⟩) ?_ ?_
                                        rotate_left
                                        · intro w'
                                          go_simp
                                          with_reducible rfl
                                        rotate_left
                                        · simp only [Act.put, List.setIfInBounds_toArray, List.set_cons_zero, List.set_cons_succ, i64_w, i32_w]
                                          rfl
                                        refine pure_ (i := 6) (N := some 70) (v := ?_) (a' := ?_) #[true, true, true, true, true, true, true, false, false, false, false, false, false, false, false, false] rfl rfl (any_of HT_.out (by kernel_rfl)) (fun _ _ _ h => h) (Or.inl ⟨by rfl, ?_⟩) ?_ ?_
                                        rotate_left
                                        · intro w'
                                          go_simp
                                          with_reducible rfl
                                        rotate_left
                                        · simp only [Act.put, List.setIfInBounds_toArray, List.set_cons_zero, List.set_cons_succ, i64_w, i32_w]
                                          rfl
                                        refine join_ (σ := Nat) 3 #[true, true, true, true, true, true, true, true, true, true, true, true, true, false, false, false] (fun s_ => [(71, .tuple #[.agg #[.int .i64 t128, .int .i64 t129, .int .i64 t130, .string t131, .int .i64 t132], .int .i64 t133, .int .i64 t134]), (13, .pointer (some ⟨s_, 0, none⟩)), (63, .tuple #[.agg #[.int .i64 t128, .int .i64 t129, .int .i64 t130, .string t131, .int .i64 t132], .int .i64 t133, .int .i64 t134]), (72, .agg #[.int .i64 t128, .int .i64 t129, .int .i64 t130, .string t131, .int .i64 t132]), (73, .int .i64 t133), (74, .int .i64 t134)]) (fun s_ w' => (w'.cell? ⟨gb115, 0, none⟩ = some (.int .i64 x116000_2) ∧ w'.cell? ⟨gb115, 1, none⟩ = some (.int .i64 x116001_2) ∧ w'.cell? ⟨gb115, 2, none⟩ = some (.int .i64 x116002_2) ∧ w'.cell? ⟨gb115, 3, none⟩ = some (.string x116003_2) ∧ w'.cell? ⟨gb115, 4, none⟩ = some (.int .i64 x116004_2) ∧ w'.cell? (ad118.add (x9_2).toNat) = some (.int .i64 (rd l1 x9_2))) ∧ (w'.heap[gb108]? = some (.cells #[.int .i64 x109000_2, .int .i64 x109001_2, .int .i64 x109002_2, .string x109003_2, .int .i64 x109004_2] 23 (0, 0))) ∧ (w'.heap[gb115]? = some (.cells #[.int .i64 x116000_2, .int .i64 x116001_2, .int .i64 x116002_2, .string x116003_2, .int .i64 x116004_2] 23 (0, 0))) ∧ (w'.heap[gb126]? = some (.cells #[.int .i64 t119, .int .i64 t120, .int .i64 t121, .string t122, .int .i64 t123] 23 (0, 0))) ∧ (w'.heap[s_]? = some (.cells #[.int .i64 0, .int .i64 0, .int .i64 0, .string (⟨#[]⟩ : ByteArray), .int .i64 0] 23 (0, 0))) ∧ (w.heap.size ≤ s_) ∧ (w.heap.size ≤ s_) ∧ (gb108 ≠ s_) ∧ (s_ ≠ gb108) ∧ (gb115 ≠ s_) ∧ (s_ ≠ gb115) ∧ (gb126 ≠ s_) ∧ (s_ ≠ gb126) ∧ (Below w.heap.size w w')) ?_ ?_
                                        rotate_left
                                        · intro hCont
                                          refine two_ (i := 7) (j := 12) (Ni := some 71) (Nj := some 13) #[true, true, true, true, true, true, true, true, false, false, false, false, false, false, false, false] #[true, true, true, true, true, true, true, false, false, false, false, false, true, false, false, false] rfl rfl rfl rfl (two_of HT_.out (by kernel_rfl)) (by decide) (by decide) (fun K hK => ?_) (fun K hK => ?_)
                                          · skip
                                            refine goes_ Try.func8 (by kernel_rfl) rfl #[.agg #[.int .i64 x116000_2, .int .i64 x116001_2, .int .i64 x116002_2, .string x116003_2, .int .i64 x116004_2], .int .i64 (wrap64 (1 + (Go.bits .and .i64 (rd l1 x9_2) 4094)))] (by rfl) rfl rfl (by (try simp only [List.map_toArray, List.map_cons, List.map_nil]); first | done | rfl | (simp only [List.length_drop, List.length_take]; rfl)) ?_
                                            with_reducible refine (decoder_Bit.calls x116000_2 x116001_2 x116002_2 x116003_2 x116004_2 (wrap64 (1 + (Go.bits .and .i64 (rd l1 x9_2) 4094))) t128 t129 t130 t131 t132 t133 t134 _ A27.out).mono ?_
                                            rintro e w48 ⟨rfl, hb⟩
                                            refine ⟨_, rfl, ?_⟩
                                            have n0_ := Aside0.mk (blk_below (g := gb108) (o := .cells #[.int .i64 x109000_2, .int .i64 x109001_2, .int .i64 x109002_2, .string x109003_2, .int .i64 x109004_2] 23 (0, 0)) (by (with_reducible repeat (first | refine blk_drewN ?_ _ | refine blk_drew ?_ | refine blk_alloc ?_ _)); exact BK108.out) hb)
                                            have n1_ := Aside0.mk (blk_below (g := gb115) (o := .cells #[.int .i64 x116000_2, .int .i64 x116001_2, .int .i64 x116002_2, .string x116003_2, .int .i64 x116004_2] 23 (0, 0)) (by (with_reducible repeat (first | refine blk_drewN ?_ _ | refine blk_drew ?_ | refine blk_alloc ?_ _)); exact BK115.out) hb)
                                            have n2_ := Aside0.mk (blk_below (g := gb126) (o := .cells #[.int .i64 t119, .int .i64 t120, .int .i64 t121, .string t122, .int .i64 t123] 23 (0, 0)) (by (with_reducible repeat (first | refine blk_drewN ?_ _ | refine blk_drew ?_ | refine blk_alloc ?_ _)); exact BK126.out) hb)
                                            have n3_ := Aside0.mk (below_step (by repeat (first | (with_reducible first | exact HB.out | apply below_alloc | apply pw_below_drewN | apply below_drew1 | refine below_set ?_ GE108.out | refine below_set ?_ GE115.out | refine below_set ?_ GE126.out) | exact HB.out)) hb)
                                            clear BK108
                                            clear BK115
                                            clear BK126
                                            clear HB
                                            have BK108 := n0_
                                            have BK115 := n1_
                                            have BK126 := n2_
                                            have HB := n3_
                                            clear n0_ n1_ n2_ n3_
                                            (try clear hb)
                                            (try clear hb2)
                                            (try clear hk)
                                            (try clear hi)
                                            refine hK.out _ _ ⟨(blk_cell BK115.out 0).trans rfl, (blk_cell BK115.out 1).trans rfl, (blk_cell BK115.out 2).trans rfl, (blk_cell BK115.out 3).trans rfl, (blk_cell BK115.out 4).trans rfl, ((HB.out.cell (World.block_lt_of_cell? w _ hw127_0)).trans hw127_0)⟩ (fun hHeld => ?_)
                                            clear hK K
                                            refine norm_ (a' := ?_) ?_ ?_
                                            rotate_left
                                            · show Act.put _ (some 71) _ = _
                                              simp only [Act.put, List.setIfInBounds_toArray, List.set_cons_zero, List.set_cons_succ, i64_w, i32_w]
                                              rfl
                                            refine pure_ (i := 8) (N := some 63) (v := ?_) (a' := ?_) #[true, true, true, true, true, true, true, true, true, false, false, false, false, false, false, false] rfl rfl (any_of HT_.out (by kernel_rfl)) (fun _ _ _ h => h) (Or.inl ⟨by rfl, ?_⟩) ?_ ?_
                                            rotate_left
                                            · intro w'
                                              go_simp
                                              with_reducible rfl
                                            rotate_left
                                            · simp only [Act.put, List.setIfInBounds_toArray, List.set_cons_zero, List.set_cons_succ, i64_w, i32_w]
                                              rfl
                                            refine pure_ (i := 9) (N := some 72) (v := ?_) (a' := ?_) #[true, true, true, true, true, true, true, true, true, true, false, false, false, false, false, false] rfl rfl (any_of HT_.out (by kernel_rfl)) (fun _ _ _ h => h) (Or.inl ⟨by rfl, ?_⟩) ?_ ?_
                                            rotate_left
                                            · intro w'
                                              go_simp
                                              with_reducible rfl
                                            rotate_left
                                            · simp only [Act.put, List.setIfInBounds_toArray, List.set_cons_zero, List.set_cons_succ, i64_w, i32_w]
                                              rfl
                                            refine pure_ (i := 10) (N := some 73) (v := ?_) (a' := ?_) #[true, true, true, true, true, true, true, true, true, true, true, false, false, false, false, false] rfl rfl (any_of HT_.out (by kernel_rfl)) (fun _ _ _ h => h) (Or.inl ⟨by rfl, ?_⟩) ?_ ?_
                                            rotate_left
                                            · intro w'
                                              go_simp
                                              with_reducible rfl
                                            rotate_left
                                            · simp only [Act.put, List.setIfInBounds_toArray, List.set_cons_zero, List.set_cons_succ, i64_w, i32_w]
                                              rfl
                                            refine pure_ (i := 11) (N := some 74) (v := ?_) (a' := ?_) #[true, true, true, true, true, true, true, true, true, true, true, true, false, false, false, false] rfl rfl (any_of HT_.out (by kernel_rfl)) (fun _ _ _ h => h) (Or.inl ⟨by rfl, ?_⟩) ?_ ?_
                                            rotate_left
                                            · intro w'
                                              go_simp
                                              with_reducible rfl
                                            rotate_left
                                            · simp only [Act.put, List.setIfInBounds_toArray, List.set_cons_zero, List.set_cons_succ, i64_w, i32_w]
                                              rfl
                                            refine one_ (i := 12) (N := some 13) #[true, true, true, true, true, true, true, true, true, true, true, true, true, false, false, false] rfl rfl (one_of HT_.out (by kernel_rfl)) (by decide) (fun K hK => ?_)
                                            refine box_step ?hg (N := 13) ?hd (cs := #[.int .i64 0, .int .i64 0, .int .i64 0, .string (⟨#[]⟩ : ByteArray), .int .i64 0]) (t := 23) ?hr ?_; (case hd => rfl); (case hg => rfl); (case hr => first | (go_simp; done) | (go_simp; rfl))
                                            intro gb135 hg w49 hbox hb
                                            have n0_ := Aside0.mk (blk_below (g := gb108) (o := .cells #[.int .i64 x109000_2, .int .i64 x109001_2, .int .i64 x109002_2, .string x109003_2, .int .i64 x109004_2] 23 (0, 0)) (by (with_reducible repeat (first | refine blk_drewN ?_ _ | refine blk_drew ?_ | refine blk_alloc ?_ _)); exact BK108.out) hb)
                                            have n1_ := Aside0.mk (blk_below (g := gb115) (o := .cells #[.int .i64 x116000_2, .int .i64 x116001_2, .int .i64 x116002_2, .string x116003_2, .int .i64 x116004_2] 23 (0, 0)) (by (with_reducible repeat (first | refine blk_drewN ?_ _ | refine blk_drew ?_ | refine blk_alloc ?_ _)); exact BK115.out) hb)
                                            have n2_ := Aside0.mk (blk_below (g := gb126) (o := .cells #[.int .i64 t119, .int .i64 t120, .int .i64 t121, .string t122, .int .i64 t123] 23 (0, 0)) (by (with_reducible repeat (first | refine blk_drewN ?_ _ | refine blk_drew ?_ | refine blk_alloc ?_ _)); exact BK126.out) hb)
                                            have n3_ := Aside0.mk (below_step (by repeat (first | (with_reducible first | exact HB.out | apply below_alloc | apply pw_below_drewN | apply below_drew1 | refine below_set ?_ GE108.out | refine below_set ?_ GE115.out | refine below_set ?_ GE126.out) | exact HB.out)) hb)
                                            have n4_ := Aside0.mk (hbox)
                                            have n5_ := Aside0.mk ((by rw [hg]; exact (below_size (by repeat (first | (with_reducible first | exact HB.out | apply below_alloc | apply pw_below_drewN | apply below_drew1 | refine below_set ?_ GE108.out | refine below_set ?_ GE115.out | refine below_set ?_ GE126.out) | exact HB.out))) : w.heap.size ≤ gb135))
                                            have n6_ := Aside0.mk ((by rw [hg]; exact (below_size (by repeat (first | (with_reducible first | exact HB.out | apply below_alloc | apply pw_below_drewN | apply below_drew1 | refine below_set ?_ GE108.out | refine below_set ?_ GE115.out | refine below_set ?_ GE126.out) | exact HB.out))) : w.heap.size ≤ gb135))
                                            have n7_ := Aside0.mk ((by rw [hg]; exact Nat.ne_of_lt (blk_lt (g := gb108) (o := .cells #[.int .i64 x109000_2, .int .i64 x109001_2, .int .i64 x109002_2, .string x109003_2, .int .i64 x109004_2] 23 (0, 0)) (by (with_reducible repeat (first | refine blk_drewN ?_ _ | refine blk_drew ?_ | refine blk_alloc ?_ _)); exact BK108.out)) : gb108 ≠ gb135))
                                            have n8_ := Aside0.mk ((by rw [hg]; exact Nat.ne_of_gt (blk_lt (g := gb108) (o := .cells #[.int .i64 x109000_2, .int .i64 x109001_2, .int .i64 x109002_2, .string x109003_2, .int .i64 x109004_2] 23 (0, 0)) (by (with_reducible repeat (first | refine blk_drewN ?_ _ | refine blk_drew ?_ | refine blk_alloc ?_ _)); exact BK108.out)) : gb135 ≠ gb108))
                                            have n9_ := Aside0.mk ((by rw [hg]; exact Nat.ne_of_lt (blk_lt (g := gb115) (o := .cells #[.int .i64 x116000_2, .int .i64 x116001_2, .int .i64 x116002_2, .string x116003_2, .int .i64 x116004_2] 23 (0, 0)) (by (with_reducible repeat (first | refine blk_drewN ?_ _ | refine blk_drew ?_ | refine blk_alloc ?_ _)); exact BK115.out)) : gb115 ≠ gb135))
                                            have n10_ := Aside0.mk ((by rw [hg]; exact Nat.ne_of_gt (blk_lt (g := gb115) (o := .cells #[.int .i64 x116000_2, .int .i64 x116001_2, .int .i64 x116002_2, .string x116003_2, .int .i64 x116004_2] 23 (0, 0)) (by (with_reducible repeat (first | refine blk_drewN ?_ _ | refine blk_drew ?_ | refine blk_alloc ?_ _)); exact BK115.out)) : gb135 ≠ gb115))
                                            have n11_ := Aside0.mk ((by rw [hg]; exact Nat.ne_of_lt (blk_lt (g := gb126) (o := .cells #[.int .i64 t119, .int .i64 t120, .int .i64 t121, .string t122, .int .i64 t123] 23 (0, 0)) (by (with_reducible repeat (first | refine blk_drewN ?_ _ | refine blk_drew ?_ | refine blk_alloc ?_ _)); exact BK126.out)) : gb126 ≠ gb135))
                                            have n12_ := Aside0.mk ((by rw [hg]; exact Nat.ne_of_gt (blk_lt (g := gb126) (o := .cells #[.int .i64 t119, .int .i64 t120, .int .i64 t121, .string t122, .int .i64 t123] 23 (0, 0)) (by (with_reducible repeat (first | refine blk_drewN ?_ _ | refine blk_drew ?_ | refine blk_alloc ?_ _)); exact BK126.out)) : gb135 ≠ gb126))
                                            clear BK108
                                            clear BK115
                                            clear BK126
                                            clear HB
                                            have BK108 := n0_
                                            have BK115 := n1_
                                            have BK126 := n2_
                                            have HB := n3_
                                            have BK135 := n4_
                                            have GW135 := n5_
                                            have GE135 := n6_
                                            have NB108_135 := n7_
                                            have NB135_108 := n8_
                                            have NB115_135 := n9_
                                            have NB135_115 := n10_
                                            have NB126_135 := n11_
                                            have NB135_126 := n12_
                                            clear n0_ n1_ n2_ n3_ n4_ n5_ n6_ n7_ n8_ n9_ n10_ n11_ n12_
                                            clear hb hbox hg
                                            refine hK.out _ _ ⟨(blk_cell BK115.out 0).trans rfl, (blk_cell BK115.out 1).trans rfl, (blk_cell BK115.out 2).trans rfl, (blk_cell BK115.out 3).trans rfl, (blk_cell BK115.out 4).trans rfl, ((HB.out.cell (World.block_lt_of_cell? w _ hw127_0)).trans hw127_0)⟩ (fun hHeld => ?_)
                                            clear hK K
                                            refine norm_ (a' := ?_) ?_ ?_
                                            rotate_left
                                            · show Act.put _ (some 13) _ = _
                                              simp only [Act.put, List.setIfInBounds_toArray, List.set_cons_zero, List.set_cons_succ, i64_w, i32_w]
                                              rfl
                                            exact norm_ (by simp only [putAll, Act.put, List.setIfInBounds_toArray, List.set_cons_zero, List.set_cons_succ]) (hCont (gb135) _ ⟨hHeld, (by (with_reducible repeat (first | refine blk_drewN ?_ _ | refine blk_drew ?_ | refine blk_alloc ?_ _)); exact BK108.out), (by (with_reducible repeat (first | refine blk_drewN ?_ _ | refine blk_drew ?_ | refine blk_alloc ?_ _)); exact BK115.out), (by (with_reducible repeat (first | refine blk_drewN ?_ _ | refine blk_drew ?_ | refine blk_alloc ?_ _)); exact BK126.out), (by (with_reducible repeat (first | refine blk_drewN ?_ _ | refine blk_drew ?_ | refine blk_alloc ?_ _)); exact BK135.out), GW135.out, GE135.out, NB108_135.out, NB135_108.out, NB115_135.out, NB135_115.out, NB126_135.out, NB135_126.out, (by repeat (first | (with_reducible first | exact HB.out | apply below_alloc | apply pw_below_drewN | apply below_drew1 | refine below_set ?_ GE108.out | refine below_set ?_ GE115.out | refine below_set ?_ GE126.out | refine below_set ?_ GE135.out) | exact HB.out))⟩)
                                          · skip
                                            refine box_step ?hg (N := 13) ?hd (cs := #[.int .i64 0, .int .i64 0, .int .i64 0, .string (⟨#[]⟩ : ByteArray), .int .i64 0]) (t := 23) ?hr ?_; (case hd => rfl); (case hg => rfl); (case hr => first | (go_simp; done) | (go_simp; rfl))
                                            intro gb135 hg w48 hbox hb
                                            have n0_ := Aside0.mk (blk_below (g := gb108) (o := .cells #[.int .i64 x109000_2, .int .i64 x109001_2, .int .i64 x109002_2, .string x109003_2, .int .i64 x109004_2] 23 (0, 0)) (by (with_reducible repeat (first | refine blk_drewN ?_ _ | refine blk_drew ?_ | refine blk_alloc ?_ _)); exact BK108.out) hb)
                                            have n1_ := Aside0.mk (blk_below (g := gb115) (o := .cells #[.int .i64 x116000_2, .int .i64 x116001_2, .int .i64 x116002_2, .string x116003_2, .int .i64 x116004_2] 23 (0, 0)) (by (with_reducible repeat (first | refine blk_drewN ?_ _ | refine blk_drew ?_ | refine blk_alloc ?_ _)); exact BK115.out) hb)
                                            have n2_ := Aside0.mk (blk_below (g := gb126) (o := .cells #[.int .i64 t119, .int .i64 t120, .int .i64 t121, .string t122, .int .i64 t123] 23 (0, 0)) (by (with_reducible repeat (first | refine blk_drewN ?_ _ | refine blk_drew ?_ | refine blk_alloc ?_ _)); exact BK126.out) hb)
                                            have n3_ := Aside0.mk (below_step (by repeat (first | (with_reducible first | exact HB.out | apply below_alloc | apply pw_below_drewN | apply below_drew1 | refine below_set ?_ GE108.out | refine below_set ?_ GE115.out | refine below_set ?_ GE126.out) | exact HB.out)) hb)
                                            have n4_ := Aside0.mk (hbox)
                                            have n5_ := Aside0.mk ((by rw [hg]; exact (below_size (by repeat (first | (with_reducible first | exact HB.out | apply below_alloc | apply pw_below_drewN | apply below_drew1 | refine below_set ?_ GE108.out | refine below_set ?_ GE115.out | refine below_set ?_ GE126.out) | exact HB.out))) : w.heap.size ≤ gb135))
                                            have n6_ := Aside0.mk ((by rw [hg]; exact (below_size (by repeat (first | (with_reducible first | exact HB.out | apply below_alloc | apply pw_below_drewN | apply below_drew1 | refine below_set ?_ GE108.out | refine below_set ?_ GE115.out | refine below_set ?_ GE126.out) | exact HB.out))) : w.heap.size ≤ gb135))
                                            have n7_ := Aside0.mk ((by rw [hg]; exact Nat.ne_of_lt (blk_lt (g := gb108) (o := .cells #[.int .i64 x109000_2, .int .i64 x109001_2, .int .i64 x109002_2, .string x109003_2, .int .i64 x109004_2] 23 (0, 0)) (by (with_reducible repeat (first | refine blk_drewN ?_ _ | refine blk_drew ?_ | refine blk_alloc ?_ _)); exact BK108.out)) : gb108 ≠ gb135))
                                            have n8_ := Aside0.mk ((by rw [hg]; exact Nat.ne_of_gt (blk_lt (g := gb108) (o := .cells #[.int .i64 x109000_2, .int .i64 x109001_2, .int .i64 x109002_2, .string x109003_2, .int .i64 x109004_2] 23 (0, 0)) (by (with_reducible repeat (first | refine blk_drewN ?_ _ | refine blk_drew ?_ | refine blk_alloc ?_ _)); exact BK108.out)) : gb135 ≠ gb108))
                                            have n9_ := Aside0.mk ((by rw [hg]; exact Nat.ne_of_lt (blk_lt (g := gb115) (o := .cells #[.int .i64 x116000_2, .int .i64 x116001_2, .int .i64 x116002_2, .string x116003_2, .int .i64 x116004_2] 23 (0, 0)) (by (with_reducible repeat (first | refine blk_drewN ?_ _ | refine blk_drew ?_ | refine blk_alloc ?_ _)); exact BK115.out)) : gb115 ≠ gb135))
                                            have n10_ := Aside0.mk ((by rw [hg]; exact Nat.ne_of_gt (blk_lt (g := gb115) (o := .cells #[.int .i64 x116000_2, .int .i64 x116001_2, .int .i64 x116002_2, .string x116003_2, .int .i64 x116004_2] 23 (0, 0)) (by (with_reducible repeat (first | refine blk_drewN ?_ _ | refine blk_drew ?_ | refine blk_alloc ?_ _)); exact BK115.out)) : gb135 ≠ gb115))
                                            have n11_ := Aside0.mk ((by rw [hg]; exact Nat.ne_of_lt (blk_lt (g := gb126) (o := .cells #[.int .i64 t119, .int .i64 t120, .int .i64 t121, .string t122, .int .i64 t123] 23 (0, 0)) (by (with_reducible repeat (first | refine blk_drewN ?_ _ | refine blk_drew ?_ | refine blk_alloc ?_ _)); exact BK126.out)) : gb126 ≠ gb135))
                                            have n12_ := Aside0.mk ((by rw [hg]; exact Nat.ne_of_gt (blk_lt (g := gb126) (o := .cells #[.int .i64 t119, .int .i64 t120, .int .i64 t121, .string t122, .int .i64 t123] 23 (0, 0)) (by (with_reducible repeat (first | refine blk_drewN ?_ _ | refine blk_drew ?_ | refine blk_alloc ?_ _)); exact BK126.out)) : gb135 ≠ gb126))
                                            clear BK108
                                            clear BK115
                                            clear BK126
                                            clear HB
                                            have BK108 := n0_
                                            have BK115 := n1_
                                            have BK126 := n2_
                                            have HB := n3_
                                            have BK135 := n4_
                                            have GW135 := n5_
                                            have GE135 := n6_
                                            have NB108_135 := n7_
                                            have NB135_108 := n8_
                                            have NB115_135 := n9_
                                            have NB135_115 := n10_
                                            have NB126_135 := n11_
                                            have NB135_126 := n12_
                                            clear n0_ n1_ n2_ n3_ n4_ n5_ n6_ n7_ n8_ n9_ n10_ n11_ n12_
                                            clear hb hbox hg
                                            refine hK.out _ _ ⟨(blk_cell BK115.out 0).trans rfl, (blk_cell BK115.out 1).trans rfl, (blk_cell BK115.out 2).trans rfl, (blk_cell BK115.out 3).trans rfl, (blk_cell BK115.out 4).trans rfl, ((HB.out.cell (World.block_lt_of_cell? w _ hw127_0)).trans hw127_0)⟩ (fun hHeld => ?_)
                                            clear hK K
                                            refine norm_ (a' := ?_) ?_ ?_
                                            rotate_left
                                            · show Act.put _ (some 13) _ = _
                                              simp only [Act.put, List.setIfInBounds_toArray, List.set_cons_zero, List.set_cons_succ, i64_w, i32_w]
                                              rfl
                                            refine one_ (i := 7) (N := some 71) #[true, true, true, true, true, true, true, true, false, false, false, false, true, false, false, false] rfl rfl (one_of HT_.out (by kernel_rfl)) (by decide) (fun K hK => ?_)
                                            refine goes_ Try.func8 (by kernel_rfl) rfl #[.agg #[.int .i64 x116000_2, .int .i64 x116001_2, .int .i64 x116002_2, .string x116003_2, .int .i64 x116004_2], .int .i64 (wrap64 (1 + (Go.bits .and .i64 (rd l1 x9_2) 4094)))] (by rfl) rfl rfl (by (try simp only [List.map_toArray, List.map_cons, List.map_nil]); first | done | rfl | (simp only [List.length_drop, List.length_take]; rfl)) ?_
                                            with_reducible refine (decoder_Bit.calls x116000_2 x116001_2 x116002_2 x116003_2 x116004_2 (wrap64 (1 + (Go.bits .and .i64 (rd l1 x9_2) 4094))) t128 t129 t130 t131 t132 t133 t134 _ A27.out).mono ?_
                                            rintro e w49 ⟨rfl, hb⟩
                                            refine ⟨_, rfl, ?_⟩
                                            have n0_ := Aside0.mk (blk_below (g := gb108) (o := .cells #[.int .i64 x109000_2, .int .i64 x109001_2, .int .i64 x109002_2, .string x109003_2, .int .i64 x109004_2] 23 (0, 0)) (by (with_reducible repeat (first | refine blk_drewN ?_ _ | refine blk_drew ?_ | refine blk_alloc ?_ _)); exact BK108.out) hb)
                                            have n1_ := Aside0.mk (blk_below (g := gb115) (o := .cells #[.int .i64 x116000_2, .int .i64 x116001_2, .int .i64 x116002_2, .string x116003_2, .int .i64 x116004_2] 23 (0, 0)) (by (with_reducible repeat (first | refine blk_drewN ?_ _ | refine blk_drew ?_ | refine blk_alloc ?_ _)); exact BK115.out) hb)
                                            have n2_ := Aside0.mk (blk_below (g := gb126) (o := .cells #[.int .i64 t119, .int .i64 t120, .int .i64 t121, .string t122, .int .i64 t123] 23 (0, 0)) (by (with_reducible repeat (first | refine blk_drewN ?_ _ | refine blk_drew ?_ | refine blk_alloc ?_ _)); exact BK126.out) hb)
                                            have n3_ := Aside0.mk (blk_below (g := gb135) (o := .cells #[.int .i64 0, .int .i64 0, .int .i64 0, .string (⟨#[]⟩ : ByteArray), .int .i64 0] 23 (0, 0)) (by (with_reducible repeat (first | refine blk_drewN ?_ _ | refine blk_drew ?_ | refine blk_alloc ?_ _)); exact BK135.out) hb)
                                            have n4_ := Aside0.mk (below_step (by repeat (first | (with_reducible first | exact HB.out | apply below_alloc | apply pw_below_drewN | apply below_drew1 | refine below_set ?_ GE108.out | refine below_set ?_ GE115.out | refine below_set ?_ GE126.out | refine below_set ?_ GE135.out) | exact HB.out)) hb)
                                            clear BK108
                                            clear BK115
                                            clear BK126
                                            clear BK135
                                            clear HB
                                            have BK108 := n0_
                                            have BK115 := n1_
                                            have BK126 := n2_
                                            have BK135 := n3_
                                            have HB := n4_
                                            clear n0_ n1_ n2_ n3_ n4_
                                            (try clear hb)
                                            (try clear hb2)
                                            (try clear hk)
                                            (try clear hi)
                                            refine hK.out _ _ ⟨(blk_cell BK115.out 0).trans rfl, (blk_cell BK115.out 1).trans rfl, (blk_cell BK115.out 2).trans rfl, (blk_cell BK115.out 3).trans rfl, (blk_cell BK115.out 4).trans rfl, ((HB.out.cell (World.block_lt_of_cell? w _ hw127_0)).trans hw127_0)⟩ (fun hHeld => ?_)
                                            clear hK K
                                            refine norm_ (a' := ?_) ?_ ?_
                                            rotate_left
                                            · show Act.put _ (some 71) _ = _
                                              simp only [Act.put, List.setIfInBounds_toArray, List.set_cons_zero, List.set_cons_succ, i64_w, i32_w]
                                              rfl
                                            refine pure_ (i := 8) (N := some 63) (v := ?_) (a' := ?_) #[true, true, true, true, true, true, true, true, true, false, false, false, true, false, false, false] rfl rfl (any_of HT_.out (by kernel_rfl)) (fun _ _ _ h => h) (Or.inl ⟨by rfl, ?_⟩) ?_ ?_
                                            rotate_left
                                            · intro w'
                                              go_simp
                                              with_reducible rfl
                                            rotate_left
                                            · simp only [Act.put, List.setIfInBounds_toArray, List.set_cons_zero, List.set_cons_succ, i64_w, i32_w]
                                              rfl
                                            refine pure_ (i := 9) (N := some 72) (v := ?_) (a' := ?_) #[true, true, true, true, true, true, true, true, true, true, false, false, true, false, false, false] rfl rfl (any_of HT_.out (by kernel_rfl)) (fun _ _ _ h => h) (Or.inl ⟨by rfl, ?_⟩) ?_ ?_
                                            rotate_left
                                            · intro w'
                                              go_simp
                                              with_reducible rfl
                                            rotate_left
                                            · simp only [Act.put, List.setIfInBounds_toArray, List.set_cons_zero, List.set_cons_succ, i64_w, i32_w]
                                              rfl
                                            refine pure_ (i := 10) (N := some 73) (v := ?_) (a' := ?_) #[true, true, true, true, true, true, true, true, true, true, true, false, true, false, false, false] rfl rfl (any_of HT_.out (by kernel_rfl)) (fun _ _ _ h => h) (Or.inl ⟨by rfl, ?_⟩) ?_ ?_
                                            rotate_left
                                            · intro w'
                                              go_simp
                                              with_reducible rfl
                                            rotate_left
                                            · simp only [Act.put, List.setIfInBounds_toArray, List.set_cons_zero, List.set_cons_succ, i64_w, i32_w]
                                              rfl
                                            refine pure_ (i := 11) (N := some 74) (v := ?_) (a' := ?_) #[true, true, true, true, true, true, true, true, true, true, true, true, true, false, false, false] rfl rfl (any_of HT_.out (by kernel_rfl)) (fun _ _ _ h => h) (Or.inl ⟨by rfl, ?_⟩) ?_ ?_
                                            rotate_left
                                            · intro w'
                                              go_simp
                                              with_reducible rfl
                                            rotate_left
                                            · simp only [Act.put, List.setIfInBounds_toArray, List.set_cons_zero, List.set_cons_succ, i64_w, i32_w]
                                              rfl
                                            exact norm_ (by simp only [putAll, Act.put, List.setIfInBounds_toArray, List.set_cons_zero, List.set_cons_succ]) (hCont (gb135) _ ⟨hHeld, (by (with_reducible repeat (first | refine blk_drewN ?_ _ | refine blk_drew ?_ | refine blk_alloc ?_ _)); exact BK108.out), (by (with_reducible repeat (first | refine blk_drewN ?_ _ | refine blk_drew ?_ | refine blk_alloc ?_ _)); exact BK115.out), (by (with_reducible repeat (first | refine blk_drewN ?_ _ | refine blk_drew ?_ | refine blk_alloc ?_ _)); exact BK126.out), (by (with_reducible repeat (first | refine blk_drewN ?_ _ | refine blk_drew ?_ | refine blk_alloc ?_ _)); exact BK135.out), GW135.out, GE135.out, NB108_135.out, NB135_108.out, NB115_135.out, NB135_115.out, NB126_135.out, NB135_126.out, (by repeat (first | (with_reducible first | exact HB.out | apply below_alloc | apply pw_below_drewN | apply below_drew1 | refine below_set ?_ GE108.out | refine below_set ?_ GE115.out | refine below_set ?_ GE126.out | refine below_set ?_ GE135.out) | exact HB.out))⟩)
                                        rintro gb135 w50 ⟨hS_, h0_, h1_, h2_, h3_, h4_, h5_, h6_, h7_, h8_, h9_, h10_, h11_, h12_⟩
                                        have n0_ : Aside0 (w50.heap[gb108]? = some (.cells #[.int .i64 x109000_2, .int .i64 x109001_2, .int .i64 x109002_2, .string x109003_2, .int .i64 x109004_2] 23 (0, 0))) := ⟨h0_⟩
                                        have n1_ : Aside0 (w50.heap[gb115]? = some (.cells #[.int .i64 x116000_2, .int .i64 x116001_2, .int .i64 x116002_2, .string x116003_2, .int .i64 x116004_2] 23 (0, 0))) := ⟨h1_⟩
                                        have n2_ : Aside0 (w50.heap[gb126]? = some (.cells #[.int .i64 t119, .int .i64 t120, .int .i64 t121, .string t122, .int .i64 t123] 23 (0, 0))) := ⟨h2_⟩
                                        have n3_ : Aside0 (w50.heap[gb135]? = some (.cells #[.int .i64 0, .int .i64 0, .int .i64 0, .string (⟨#[]⟩ : ByteArray), .int .i64 0] 23 (0, 0))) := ⟨h3_⟩
                                        have n4_ : Aside0 (w.heap.size ≤ gb135) := ⟨h4_⟩
                                        have n5_ : Aside0 (w.heap.size ≤ gb135) := ⟨h5_⟩
                                        have n6_ : Aside0 (gb108 ≠ gb135) := ⟨h6_⟩
                                        have n7_ : Aside0 (gb135 ≠ gb108) := ⟨h7_⟩
                                        have n8_ : Aside0 (gb115 ≠ gb135) := ⟨h8_⟩
                                        have n9_ : Aside0 (gb135 ≠ gb115) := ⟨h9_⟩
                                        have n10_ : Aside0 (gb126 ≠ gb135) := ⟨h10_⟩
                                        have n11_ : Aside0 (gb135 ≠ gb126) := ⟨h11_⟩
                                        have n12_ : Aside0 (Below w.heap.size w w50) := ⟨h12_⟩
                                        clear BK108
                                        clear BK115
                                        clear BK126
                                        clear HB
                                        clear h0_ h1_ h2_ h3_ h4_ h5_ h6_ h7_ h8_ h9_ h10_ h11_ h12_
                                        have BK108 := n0_
                                        have BK115 := n1_
                                        have BK126 := n2_
                                        have BK135 := n3_
                                        have GW135 := n4_
                                        have GE135 := n5_
                                        have NB108_135 := n6_
                                        have NB135_108 := n7_
                                        have NB115_135 := n8_
                                        have NB135_115 := n9_
                                        have NB126_135 := n10_
                                        have NB135_126 := n11_
                                        have HB := n12_
                                        clear n0_ n1_ n2_ n3_ n4_ n5_ n6_ n7_ n8_ n9_ n10_ n11_ n12_
                                        have hHeld : w50.cell? ⟨gb115, 0, none⟩ = some (.int .i64 x116000_2) ∧ w50.cell? ⟨gb115, 1, none⟩ = some (.int .i64 x116001_2) ∧ w50.cell? ⟨gb115, 2, none⟩ = some (.int .i64 x116002_2) ∧ w50.cell? ⟨gb115, 3, none⟩ = some (.string x116003_2) ∧ w50.cell? ⟨gb115, 4, none⟩ = some (.int .i64 x116004_2) ∧ w50.cell? (ad118.add (x9_2).toNat) = some (.int .i64 (rd l1 x9_2)) := hS_
                                        refine norm_ (a' := ?_) ?_ ?_
                                        rotate_left
                                        · simp only [putAll, Act.put, List.setIfInBounds_toArray, List.set_cons_zero, List.set_cons_succ]
                                          rfl
                                        refine one_ (i := 13) (N := none) #[true, true, true, true, true, true, true, true, true, true, true, true, true, true, false, false] rfl rfl (one_of HT_.out (by kernel_rfl)) (by decide) (fun K hK => ?_)
                                        have hs51 : w50.cell? ⟨gb135, 0, none⟩ = some (.int .i64 0) := (blk_cell BK135.out 0).trans rfl
                                        have hfs51 := blk_frozen BK135.out 0
                                        have hns51_0 := NB108_135.out
                                        have hns51_1 := NB115_135.out
                                        have hns51_2 := NB126_135.out
                                        have hms51_0 := NB135_108.out
                                        have hms51_1 := NB135_115.out
                                        have hms51_2 := NB135_126.out
                                        have hs52 : w50.cell? ⟨gb135, 1, none⟩ = some (.int .i64 0) := (blk_cell BK135.out 1).trans rfl
                                        have hfs52 := blk_frozen BK135.out 1
                                        have hns52_0 := NB108_135.out
                                        have hns52_1 := NB115_135.out
                                        have hns52_2 := NB126_135.out
                                        have hms52_0 := NB135_108.out
                                        have hms52_1 := NB135_115.out
                                        have hms52_2 := NB135_126.out
                                        have hs53 : w50.cell? ⟨gb135, 2, none⟩ = some (.int .i64 0) := (blk_cell BK135.out 2).trans rfl
                                        have hfs53 := blk_frozen BK135.out 2
                                        have hns53_0 := NB108_135.out
                                        have hns53_1 := NB115_135.out
                                        have hns53_2 := NB126_135.out
                                        have hms53_0 := NB135_108.out
                                        have hms53_1 := NB135_115.out
                                        have hms53_2 := NB135_126.out
                                        have hs54 : w50.cell? ⟨gb135, 3, none⟩ = some (.string (⟨#[]⟩ : ByteArray)) := (blk_cell BK135.out 3).trans rfl
                                        have hfs54 := blk_frozen BK135.out 3
                                        have hns54_0 := NB108_135.out
                                        have hns54_1 := NB115_135.out
                                        have hns54_2 := NB126_135.out
                                        have hms54_0 := NB135_108.out
                                        have hms54_1 := NB135_115.out
                                        have hms54_2 := NB135_126.out
                                        have hs55 : w50.cell? ⟨gb135, 4, none⟩ = some (.int .i64 0) := (blk_cell BK135.out 4).trans rfl
                                        have hfs55 := blk_frozen BK135.out 4
                                        have hns55_0 := NB108_135.out
                                        have hns55_1 := NB115_135.out
                                        have hns55_2 := NB126_135.out
                                        have hms55_0 := NB135_108.out
                                        have hms55_1 := NB135_115.out
                                        have hms55_2 := NB135_126.out
                                        refine skip_ (w1 := ?_) (by rfl) rfl ?_ ?_
                                        rotate_left
                                        · go_simp
                                          rfl
                                        refine hK.out _ _ ⟨((cell_far (p := ⟨gb135, _, none⟩) NB115_135.out _).trans (((cell_far (p := ⟨gb135, _, none⟩) NB115_135.out _).trans (((cell_far (p := ⟨gb135, _, none⟩) NB115_135.out _).trans (((cell_far (p := ⟨gb135, _, none⟩) NB115_135.out _).trans (((cell_far (p := ⟨gb135, _, none⟩) NB115_135.out _).trans (hHeld.1)))))))))), ((cell_far (p := ⟨gb135, _, none⟩) NB115_135.out _).trans (((cell_far (p := ⟨gb135, _, none⟩) NB115_135.out _).trans (((cell_far (p := ⟨gb135, _, none⟩) NB115_135.out _).trans (((cell_far (p := ⟨gb135, _, none⟩) NB115_135.out _).trans (((cell_far (p := ⟨gb135, _, none⟩) NB115_135.out _).trans (hHeld.2.1)))))))))), ((cell_far (p := ⟨gb135, _, none⟩) NB115_135.out _).trans (((cell_far (p := ⟨gb135, _, none⟩) NB115_135.out _).trans (((cell_far (p := ⟨gb135, _, none⟩) NB115_135.out _).trans (((cell_far (p := ⟨gb135, _, none⟩) NB115_135.out _).trans (((cell_far (p := ⟨gb135, _, none⟩) NB115_135.out _).trans (hHeld.2.2.1)))))))))), ((cell_far (p := ⟨gb135, _, none⟩) NB115_135.out _).trans (((cell_far (p := ⟨gb135, _, none⟩) NB115_135.out _).trans (((cell_far (p := ⟨gb135, _, none⟩) NB115_135.out _).trans (((cell_far (p := ⟨gb135, _, none⟩) NB115_135.out _).trans (((cell_far (p := ⟨gb135, _, none⟩) NB115_135.out _).trans (hHeld.2.2.2.1)))))))))), ((cell_far (p := ⟨gb135, _, none⟩) NB115_135.out _).trans (((cell_far (p := ⟨gb135, _, none⟩) NB115_135.out _).trans (((cell_far (p := ⟨gb135, _, none⟩) NB115_135.out _).trans (((cell_far (p := ⟨gb135, _, none⟩) NB115_135.out _).trans (((cell_far (p := ⟨gb135, _, none⟩) NB115_135.out _).trans (hHeld.2.2.2.2.1)))))))))), ((cell_far (p := ⟨gb135, _, none⟩) (by first | exact Nat.ne_of_lt (Nat.lt_of_lt_of_le (by have := World.block_lt_of_cell? _ _ hw127_0; first | rwa [add_block] at this | exact this) GW135.out) | (rw [add_block]; exact Nat.ne_of_lt (Nat.lt_of_lt_of_le (by have := World.block_lt_of_cell? _ _ hw127_0; first | rwa [add_block] at this | exact this) GW135.out)) | (show (Addr.add _ _).block ≠ _; rw [add_block]; exact Nat.ne_of_lt (Nat.lt_of_lt_of_le (by have := World.block_lt_of_cell? _ _ hw127_0; first | rwa [add_block] at this | exact this) GW135.out)) | (dsimp only; exact Nat.ne_of_lt (Nat.lt_of_lt_of_le (by have := World.block_lt_of_cell? _ _ hw127_0; first | rwa [add_block] at this | exact this) GW135.out))) _).trans (((cell_far (p := ⟨gb135, _, none⟩) (by first | exact Nat.ne_of_lt (Nat.lt_of_lt_of_le (by have := World.block_lt_of_cell? _ _ hw127_0; first | rwa [add_block] at this | exact this) GW135.out) | (rw [add_block]; exact Nat.ne_of_lt (Nat.lt_of_lt_of_le (by have := World.block_lt_of_cell? _ _ hw127_0; first | rwa [add_block] at this | exact this) GW135.out)) | (show (Addr.add _ _).block ≠ _; rw [add_block]; exact Nat.ne_of_lt (Nat.lt_of_lt_of_le (by have := World.block_lt_of_cell? _ _ hw127_0; first | rwa [add_block] at this | exact this) GW135.out)) | (dsimp only; exact Nat.ne_of_lt (Nat.lt_of_lt_of_le (by have := World.block_lt_of_cell? _ _ hw127_0; first | rwa [add_block] at this | exact this) GW135.out))) _).trans (((cell_far (p := ⟨gb135, _, none⟩) (by first | exact Nat.ne_of_lt (Nat.lt_of_lt_of_le (by have := World.block_lt_of_cell? _ _ hw127_0; first | rwa [add_block] at this | exact this) GW135.out) | (rw [add_block]; exact Nat.ne_of_lt (Nat.lt_of_lt_of_le (by have := World.block_lt_of_cell? _ _ hw127_0; first | rwa [add_block] at this | exact this) GW135.out)) | (show (Addr.add _ _).block ≠ _; rw [add_block]; exact Nat.ne_of_lt (Nat.lt_of_lt_of_le (by have := World.block_lt_of_cell? _ _ hw127_0; first | rwa [add_block] at this | exact this) GW135.out)) | (dsimp only; exact Nat.ne_of_lt (Nat.lt_of_lt_of_le (by have := World.block_lt_of_cell? _ _ hw127_0; first | rwa [add_block] at this | exact this) GW135.out))) _).trans (((cell_far (p := ⟨gb135, _, none⟩) (by first | exact Nat.ne_of_lt (Nat.lt_of_lt_of_le (by have := World.block_lt_of_cell? _ _ hw127_0; first | rwa [add_block] at this | exact this) GW135.out) | (rw [add_block]; exact Nat.ne_of_lt (Nat.lt_of_lt_of_le (by have := World.block_lt_of_cell? _ _ hw127_0; first | rwa [add_block] at this | exact this) GW135.out)) | (show (Addr.add _ _).block ≠ _; rw [add_block]; exact Nat.ne_of_lt (Nat.lt_of_lt_of_le (by have := World.block_lt_of_cell? _ _ hw127_0; first | rwa [add_block] at this | exact this) GW135.out)) | (dsimp only; exact Nat.ne_of_lt (Nat.lt_of_lt_of_le (by have := World.block_lt_of_cell? _ _ hw127_0; first | rwa [add_block] at this | exact this) GW135.out))) _).trans (((cell_far (p := ⟨gb135, _, none⟩) (by first | exact Nat.ne_of_lt (Nat.lt_of_lt_of_le (by have := World.block_lt_of_cell? _ _ hw127_0; first | rwa [add_block] at this | exact this) GW135.out) | (rw [add_block]; exact Nat.ne_of_lt (Nat.lt_of_lt_of_le (by have := World.block_lt_of_cell? _ _ hw127_0; first | rwa [add_block] at this | exact this) GW135.out)) | (show (Addr.add _ _).block ≠ _; rw [add_block]; exact Nat.ne_of_lt (Nat.lt_of_lt_of_le (by have := World.block_lt_of_cell? _ _ hw127_0; first | rwa [add_block] at this | exact this) GW135.out)) | (dsimp only; exact Nat.ne_of_lt (Nat.lt_of_lt_of_le (by have := World.block_lt_of_cell? _ _ hw127_0; first | rwa [add_block] at this | exact this) GW135.out))) _).trans (hHeld.2.2.2.2.2))))))))))⟩ (fun hHeld => ?_)
                                        clear hK K
                                        refine pure_ (i := 14) (N := some 14) (v := ?_) (a' := ?_) #[true, true, true, true, true, true, true, true, true, true, true, true, true, true, true, false] rfl rfl (any_of HT_.out (by kernel_rfl)) (fun _ _ _ h => h) (Or.inl ⟨by rfl, ?_⟩) ?_ ?_
                                        rotate_left
                                        · intro w'
                                          go_simp
                                          with_reducible rfl
                                        rotate_left
                                        · simp only [Act.put, List.setIfInBounds_toArray, List.set_cons_zero, List.set_cons_succ, i64_w, i32_w]
                                          rfl
                                        refine pure_ (i := 15) (N := some 15) (v := ?_) (a' := ?_) #[true, true, true, true, true, true, true, true, true, true, true, true, true, true, true, true] rfl rfl (any_of HT_.out (by kernel_rfl)) (fun _ _ _ h => h) (Or.inl ⟨by rfl, ?_⟩) ?_ ?_
                                        rotate_left
                                        · intro w'
                                          go_simp
                                          with_reducible rfl
                                        rotate_left
                                        · simp only [Act.put, List.setIfInBounds_toArray, List.set_cons_zero, List.set_cons_succ, i64_w, i32_w]
                                          rfl
                                        refine done_ (done_of HT_.out (by kernel_rfl)) ?_
                                        try go_wp2_with (first | ((with_reducible refine gate_callee (f := 12) rfl ?_); refine goesL_ (some 76) rfl rfl Try.func12 (by kernel_rfl) rfl #[.int .i64 t125] rfl (by (try simp only [List.map_toArray, List.map_cons, List.map_nil]); first | done | rfl | (simp only [List.length_drop, List.length_take]; rfl)) ?_; (with_reducible refine (descantlaw0_Num.calls t125 t136 _ A28.out).mono ?_); rintro e w' ⟨rfl, ⟨nd, rfl⟩⟩; refine ⟨_, rfl, ?_⟩) | (go_at_call 12; (with_reducible refine (descantlaw0_Num.calls t134 t137 _ A30.out).mono ?_); rintro e w' ⟨rfl, ⟨nd, rfl⟩⟩; have hnb56 := NB126_108.out; have hnc56 := NB108_126.out; have hnb57 := NB126_115.out; have hnc57 := NB115_126.out; have hnb58 := NB126_135.out; have hnc58 := NB135_126.out; have hcz59_0 : w50.cell? ⟨gb126, 0, none⟩ = some (.int .i64 t119) := (blk_cell BK126.out 0).trans rfl; have hcz59_1 : w50.cell? ⟨gb126, 1, none⟩ = some (.int .i64 t120) := (blk_cell BK126.out 1).trans rfl; have hcz59_2 : w50.cell? ⟨gb126, 2, none⟩ = some (.int .i64 t121) := (blk_cell BK126.out 2).trans rfl; have hcz59_3 : w50.cell? ⟨gb126, 3, none⟩ = some (.string t122) := (blk_cell BK126.out 3).trans rfl; have hcz59_4 : w50.cell? ⟨gb126, 4, none⟩ = some (.int .i64 t123) := (blk_cell BK126.out 4).trans rfl; have hfz59_0 := blk_frozen BK126.out 0; have hfz59_1 := blk_frozen BK126.out 1; have hfz59_2 := blk_frozen BK126.out 2; have hfz59_3 := blk_frozen BK126.out 3; have hfz59_4 := blk_frozen BK126.out 4; have hnb60 := NB135_108.out; have hnc60 := NB108_135.out; have hnb61 := NB135_115.out; have hnc61 := NB115_135.out; have hcz62_0 : w50.cell? ⟨gb135, 0, none⟩ = some (.int .i64 0) := (blk_cell BK135.out 0).trans rfl; have hcz62_1 : w50.cell? ⟨gb135, 1, none⟩ = some (.int .i64 0) := (blk_cell BK135.out 1).trans rfl; have hcz62_2 : w50.cell? ⟨gb135, 2, none⟩ = some (.int .i64 0) := (blk_cell BK135.out 2).trans rfl; have hcz62_3 : w50.cell? ⟨gb135, 3, none⟩ = some (.string (⟨#[]⟩ : ByteArray)) := (blk_cell BK135.out 3).trans rfl; have hcz62_4 : w50.cell? ⟨gb135, 4, none⟩ = some (.int .i64 0) := (blk_cell BK135.out 4).trans rfl; have hfz62_0 := blk_frozen BK135.out 0; have hfz62_1 := blk_frozen BK135.out 1; have hfz62_2 := blk_frozen BK135.out 2; have hfz62_3 := blk_frozen BK135.out 3; have hfz62_4 := blk_frozen BK135.out 4; have hnb63 := NB108_115.out; have hnc63 := NB115_108.out; have hcz64_0 : w50.cell? ⟨gb108, 0, none⟩ = some (.int .i64 x109000_2) := (blk_cell BK108.out 0).trans rfl; have hcz64_1 : w50.cell? ⟨gb108, 1, none⟩ = some (.int .i64 x109001_2) := (blk_cell BK108.out 1).trans rfl; have hcz64_2 : w50.cell? ⟨gb108, 2, none⟩ = some (.int .i64 x109002_2) := (blk_cell BK108.out 2).trans rfl; have hcz64_3 : w50.cell? ⟨gb108, 3, none⟩ = some (.string x109003_2) := (blk_cell BK108.out 3).trans rfl; have hcz64_4 : w50.cell? ⟨gb108, 4, none⟩ = some (.int .i64 x109004_2) := (blk_cell BK108.out 4).trans rfl; have hfz64_0 := blk_frozen BK108.out 0; have hfz64_1 := blk_frozen BK108.out 1; have hfz64_2 := blk_frozen BK108.out 2; have hfz64_3 := blk_frozen BK108.out 3; have hfz64_4 := blk_frozen BK108.out 4; have hcz65_0 : w50.cell? ⟨gb115, 0, none⟩ = some (.int .i64 x116000_2) := (blk_cell BK115.out 0).trans rfl; have hcz65_1 : w50.cell? ⟨gb115, 1, none⟩ = some (.int .i64 x116001_2) := (blk_cell BK115.out 1).trans rfl; have hcz65_2 : w50.cell? ⟨gb115, 2, none⟩ = some (.int .i64 x116002_2) := (blk_cell BK115.out 2).trans rfl; have hcz65_3 : w50.cell? ⟨gb115, 3, none⟩ = some (.string x116003_2) := (blk_cell BK115.out 3).trans rfl; have hcz65_4 : w50.cell? ⟨gb115, 4, none⟩ = some (.int .i64 x116004_2) := (blk_cell BK115.out 4).trans rfl; have hfz65_0 := blk_frozen BK115.out 0; have hfz65_1 := blk_frozen BK115.out 1; have hfz65_2 := blk_frozen BK115.out 2; have hfz65_3 := blk_frozen BK115.out 3; have hfz65_4 := blk_frozen BK115.out 4))
                                        go_roundg kj20
                                        case measure => have := HJ7.out; have := HK2.out; have := HJ20.out; omega
                                        case rel => exact ⟨(wrap64 (x9_2 + 1)), (t119), (t120), (t121), (t122), (t123), (t128), (t129), (t130), (t131), (t132), (by first | rfl | (simp; done) | (simp [*]; done)), H', ⟨by have := HJ7.out; have := HK2.out; have := HJ20.out; omega⟩, ⟨by (with_reducible repeat (first | refine blk_drewN ?_ _ | refine blk_drew ?_ | refine blk_alloc ?_ _)); refine blk_far ?_ NB108_115.out _; (with_reducible repeat (first | refine blk_drewN ?_ _ | refine blk_drew ?_ | refine blk_alloc ?_ _)); refine blk_far ?_ NB108_115.out _; (with_reducible repeat (first | refine blk_drewN ?_ _ | refine blk_drew ?_ | refine blk_alloc ?_ _)); refine blk_far ?_ NB108_115.out _; (with_reducible repeat (first | refine blk_drewN ?_ _ | refine blk_drew ?_ | refine blk_alloc ?_ _)); refine blk_far ?_ NB108_115.out _; (with_reducible repeat (first | refine blk_drewN ?_ _ | refine blk_drew ?_ | refine blk_alloc ?_ _)); refine blk_far ?_ NB108_115.out _; (with_reducible repeat (first | refine blk_drewN ?_ _ | refine blk_drew ?_ | refine blk_alloc ?_ _)); refine blk_put (cs := #[.int .i64 t119, .int .i64 t120, .int .i64 t121, .string t122, .int .i64 x109004_2]) ?_ 4 _ rfl; (with_reducible repeat (first | refine blk_drewN ?_ _ | refine blk_drew ?_ | refine blk_alloc ?_ _)); refine blk_put (cs := #[.int .i64 t119, .int .i64 t120, .int .i64 t121, .string x109003_2, .int .i64 x109004_2]) ?_ 3 _ rfl; (with_reducible repeat (first | refine blk_drewN ?_ _ | refine blk_drew ?_ | refine blk_alloc ?_ _)); refine blk_put (cs := #[.int .i64 t119, .int .i64 t120, .int .i64 x109002_2, .string x109003_2, .int .i64 x109004_2]) ?_ 2 _ rfl; (with_reducible repeat (first | refine blk_drewN ?_ _ | refine blk_drew ?_ | refine blk_alloc ?_ _)); refine blk_put (cs := #[.int .i64 t119, .int .i64 x109001_2, .int .i64 x109002_2, .string x109003_2, .int .i64 x109004_2]) ?_ 1 _ rfl; (with_reducible repeat (first | refine blk_drewN ?_ _ | refine blk_drew ?_ | refine blk_alloc ?_ _)); refine blk_put (cs := #[.int .i64 x109000_2, .int .i64 x109001_2, .int .i64 x109002_2, .string x109003_2, .int .i64 x109004_2]) ?_ 0 _ rfl; (with_reducible repeat (first | refine blk_drewN ?_ _ | refine blk_drew ?_ | refine blk_alloc ?_ _)); refine blk_far ?_ NB108_135.out _; (with_reducible repeat (first | refine blk_drewN ?_ _ | refine blk_drew ?_ | refine blk_alloc ?_ _)); refine blk_far ?_ NB108_135.out _; (with_reducible repeat (first | refine blk_drewN ?_ _ | refine blk_drew ?_ | refine blk_alloc ?_ _)); refine blk_far ?_ NB108_135.out _; (with_reducible repeat (first | refine blk_drewN ?_ _ | refine blk_drew ?_ | refine blk_alloc ?_ _)); refine blk_far ?_ NB108_135.out _; (with_reducible repeat (first | refine blk_drewN ?_ _ | refine blk_drew ?_ | refine blk_alloc ?_ _)); refine blk_far ?_ NB108_135.out _; (with_reducible repeat (first | refine blk_drewN ?_ _ | refine blk_drew ?_ | refine blk_alloc ?_ _)); exact BK108.out⟩, ⟨by (with_reducible repeat (first | refine blk_drewN ?_ _ | refine blk_drew ?_ | refine blk_alloc ?_ _)); refine blk_put (cs := #[.int .i64 t128, .int .i64 t129, .int .i64 t130, .string t131, .int .i64 x116004_2]) ?_ 4 _ rfl; (with_reducible repeat (first | refine blk_drewN ?_ _ | refine blk_drew ?_ | refine blk_alloc ?_ _)); refine blk_put (cs := #[.int .i64 t128, .int .i64 t129, .int .i64 t130, .string x116003_2, .int .i64 x116004_2]) ?_ 3 _ rfl; (with_reducible repeat (first | refine blk_drewN ?_ _ | refine blk_drew ?_ | refine blk_alloc ?_ _)); refine blk_put (cs := #[.int .i64 t128, .int .i64 t129, .int .i64 x116002_2, .string x116003_2, .int .i64 x116004_2]) ?_ 2 _ rfl; (with_reducible repeat (first | refine blk_drewN ?_ _ | refine blk_drew ?_ | refine blk_alloc ?_ _)); refine blk_put (cs := #[.int .i64 t128, .int .i64 x116001_2, .int .i64 x116002_2, .string x116003_2, .int .i64 x116004_2]) ?_ 1 _ rfl; (with_reducible repeat (first | refine blk_drewN ?_ _ | refine blk_drew ?_ | refine blk_alloc ?_ _)); refine blk_put (cs := #[.int .i64 x116000_2, .int .i64 x116001_2, .int .i64 x116002_2, .string x116003_2, .int .i64 x116004_2]) ?_ 0 _ rfl; (with_reducible repeat (first | refine blk_drewN ?_ _ | refine blk_drew ?_ | refine blk_alloc ?_ _)); refine blk_far ?_ NB115_108.out _; (with_reducible repeat (first | refine blk_drewN ?_ _ | refine blk_drew ?_ | refine blk_alloc ?_ _)); refine blk_far ?_ NB115_108.out _; (with_reducible repeat (first | refine blk_drewN ?_ _ | refine blk_drew ?_ | refine blk_alloc ?_ _)); refine blk_far ?_ NB115_108.out _; (with_reducible repeat (first | refine blk_drewN ?_ _ | refine blk_drew ?_ | refine blk_alloc ?_ _)); refine blk_far ?_ NB115_108.out _; (with_reducible repeat (first | refine blk_drewN ?_ _ | refine blk_drew ?_ | refine blk_alloc ?_ _)); refine blk_far ?_ NB115_108.out _; (with_reducible repeat (first | refine blk_drewN ?_ _ | refine blk_drew ?_ | refine blk_alloc ?_ _)); refine blk_far ?_ NB115_135.out _; (with_reducible repeat (first | refine blk_drewN ?_ _ | refine blk_drew ?_ | refine blk_alloc ?_ _)); refine blk_far ?_ NB115_135.out _; (with_reducible repeat (first | refine blk_drewN ?_ _ | refine blk_drew ?_ | refine blk_alloc ?_ _)); refine blk_far ?_ NB115_135.out _; (with_reducible repeat (first | refine blk_drewN ?_ _ | refine blk_drew ?_ | refine blk_alloc ?_ _)); refine blk_far ?_ NB115_135.out _; (with_reducible repeat (first | refine blk_drewN ?_ _ | refine blk_drew ?_ | refine blk_alloc ?_ _)); refine blk_far ?_ NB115_135.out _; (with_reducible repeat (first | refine blk_drewN ?_ _ | refine blk_drew ?_ | refine blk_alloc ?_ _)); exact BK115.out⟩, ⟨by repeat (first | (with_reducible first | exact HB.out | apply below_alloc | apply pw_below_drewN | apply below_drew1 | refine below_set ?_ GE108.out | refine below_set ?_ GE115.out | refine below_set ?_ GE126.out | refine below_set ?_ GE135.out) | exact HB.out)⟩⟩
                                      · rw [if_neg c36] at H
                                        have c36b0 : (t123 == t132) = false := beq_eq_false_iff_ne.mpr c36
                                        have c36b1 : (t123 != t132) = true := bne_iff_ne.mpr c36
                                        exact absurd H (by simp)
                                    · rw [if_neg c35] at H
                                      have c35b0 : (t121 == t130) = false := beq_eq_false_iff_ne.mpr c35
                                      have c35b1 : (t121 != t130) = true := bne_iff_ne.mpr c35
                                      exact absurd H (by simp)
                                  · rw [if_neg c34] at H
                                    have c34b0 : (t120 == t129) = false := beq_eq_false_iff_ne.mpr c34
                                    have c34b1 : (t120 != t129) = true := bne_iff_ne.mpr c34
                                    exact absurd H (by simp)
                                · rw [if_neg c33] at H
                                  have c33b0 : (t119 == t128) = false := beq_eq_false_iff_ne.mpr c33
                                  have c33b1 : (t119 != t128) = true := bne_iff_ne.mpr c33
                                  exact absurd H (by simp)
                              · rw [if_neg c32] at H
                                have c32b0 : (t124 == t133) = false := beq_eq_false_iff_ne.mpr c32
                                have c32b1 : (t124 != t133) = true := bne_iff_ne.mpr c32
                                exact absurd H (by simp)
                            · rw [if_neg c31] at H
                              have c31b0 : (t137 == 0) = false := beq_eq_false_iff_ne.mpr c31
                              have c31b1 : (t137 != 0) = true := bne_iff_ne.mpr c31
                              exact absurd H (by simp)
                          · rw [if_neg c29] at H
                            have c29b0 : (t136 == 0) = false := beq_eq_false_iff_ne.mpr c29
                            have c29b1 : (t136 != 0) = true := bne_iff_ne.mpr c29
                            exact absurd H (by simp)
                        · rw [if_neg c25] at H
                          exact absurd H (by simp)
                      · rw [if_neg c24] at H
                        exact absurd H (by simp)
                    · replace c23 := Bool.eq_false_iff.mpr c23
                      subst c23
                      have H1 : (some true) = some true := rfl
                      clear H
                      have H := H1
                      clear H1
                      clear H
                      go_wp2
                      go_ret
                      exact ⟨by first | rfl | (simp [errW_none, errW_some] <;> rfl) | (simp [*, errW_none, errW_some] <;> rfl), by repeat (first | (with_reducible first | exact HB.out | apply below_alloc | apply pw_below_drewN | apply below_drew1 | refine below_set ?_ GE108.out | refine below_set ?_ GE115.out) | exact HB.out)⟩
    · rw [if_neg c6] at H
      exact absurd H (by simp)
  · replace c4 := Bool.eq_false_iff.mpr c4
    subst c4
    have H1 : (some false) = some true := by rw [if_neg (show ¬ (false = true) by decide)] at H; exact H
    clear H
    have H := H1
    clear H1
    exact absurd H (by simp)

/-- THE ONE PURE STATEMENT of descantlaw5_DecoderZeros: yours. -/
def descantlaw5_DecoderZeros.Pure : Prop := ∀ (a0 : ByteArray) (l1 : List Int), a0.size ≤ 140737488351232 → l1.length ≤ maxLen → l1.length * 8 ≤ 140737488351232 → (∀ x ∈ l1, (Lit.int .i64 x).wf = true) → ∃ k, descantlaw5_DecoderZeros.f k a0 l1 = some true
theorem descantlaw5_DecoderZeros.walk (P : descantlaw5_DecoderZeros.Pure) (a0 : ByteArray) (a1 : Option Addr) (len1 cap1 : Nat) (z1 : List Int) (w : World) (w0 : a0.size ≤ 140737488351232) (w1 : (a1 = none ∧ len1 = 0 ∧ cap1 = 0 ∧ z1 = []) ∨ ∃ x, a1 = some x ∧ len1 ≤ cap1 ∧ cap1 ≤ maxLen ∧ z1.length = cap1 ∧ (∀ i, i < z1.length → w.cell? (x.add i) = some (.int .i64 (z1.getD i 0))) ∧ ∀ n ∈ z1, (Lit.int .i64 n).wf = true) (y1 : len1 * 8 ≤ 140737488351232) :
    Calls Try.prog 6 #[.string a0, .slice a1 len1 cap1] w fun e w' => e = .returned (.bool true) ∧ Below w.heap.size w w' := by
  obtain ⟨l1, rfl, hr1, hm1, hw1, hc1⟩ := ReadsInt.ofRowC w1
  obtain ⟨k, h⟩ := P a0 l1 w0 hm1 y1 hw1
  refine (descantlaw5_DecoderZeros.calls k a0 _ _ l1 true w (Kd.C_of_reads (d := (0 : Int)) (h1 := fun _ => rfl) hr1) hc1 rfl h).mono ?_
  rintro e w' ⟨rfl, hd⟩
  exact ⟨rfl, hd⟩

end Go.Proofs.Ytbhmpmhjklkghaa.RDecoderZeros
