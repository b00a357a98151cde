/- What all of the decoder's walks need. -/
import Derived.Test.YtbhmpmhjklkghaaCBasex
import Derived.Test.YtbhmpmhjklkghaaSpec
import Derived.Outline
import Derived.WalkLawsBesides
import Derived.Lib.Hide
import Derived.Laws.Rows
import Derived.Deep.RegionWith
import Derived.Deep.LoopGhost
namespace Go.Proofs.Ytbhmpmhjklkghaa
open Go.RowKit Go.Proofs.YtbhmpmhjklkghaaW.PrintWords Go.Proofs.YtbhmpmhjklkghaaW.PrintLast Go.Proofs.YtbhmpmhjklkghaaW.PrintMore Go.Proofs.Ytbhmpmhjklkghaa.CBase
theorem bcell {W w1 : World} (hb : Below W.heap.size W w1) : (∀ b o, b < W.heap.size → w1.cell? ⟨b, o, none⟩ = W.cell? ⟨b, o, none⟩) ∧ (∀ b o, b < W.heap.size → w1.frozen? ⟨b, o, none⟩ = W.frozen? ⟨b, o, none⟩) :=
  ⟨fun b o h => hb.cell (p := ⟨b, o, none⟩) h, fun b o h => hb.frozen (p := ⟨b, o, none⟩) h⟩
theorem below_two {w w1 : World} {A B : Obj} (hb : Below ((w.alloc A).alloc B).heap.size ((w.alloc A).alloc B) w1) : Below w.heap.size w w1 :=
  (((Below.refl _ _).alloc (Nat.le_refl _) A).alloc (by simp) B).trans (hb.mono (by simp; omega))
theorem gone_calls (x y : Int) (w : World) : Calls Try.prog 21 #[.int .i64 x, .int .i64 y] w fun e w' => e = .returned (.bool (x / 16777216 == y / 16777216)) ∧ w = w' := by
  go_enter Try.func21, Try.ntmps21
  go_wp2
  go_ret
  exact ⟨rfl, rfl⟩
theorem wi64 (n : Int) (h₀ : 0 ≤ n) (h₁ : n < 2 ^ 63) : IntKind.i64.wrap n = n := by rw [IntKind.wrap_i64]; omega
theorem and64 (a b : Nat) (ha : a < 9223372036854775808) (hb : b < 9223372036854775808) : Go.bits .and .i64 (a : Int) (b : Int) = ((a &&& b : Nat) : Int) := (bits_nat .i64 63 (by decide) wi64 a b ha hb).1
theorem or64 (a b : Nat) (ha : a < 9223372036854775808) (hb : b < 9223372036854775808) : Go.bits .or .i64 (a : Int) (b : Int) = ((a ||| b : Nat) : Int) := (bits_nat .i64 63 (by decide) wi64 a b ha hb).2
theorem conv_one (W : World) (x : Int) : (convert 47 9 (.slice (some ⟨W.heap.size, 0, none⟩) 1 1)).run Try.prog (W.alloc (.cells #[.int .u8 x] 5)) = .ok (.string (strOfNums [x])) (W.alloc (.cells #[.int .u8 x] 5)) :=
  run_convert_bytes_arg (W.alloc (.cells #[.int .u8 x] 5)) 47 5 Try.underlying47 Try.underlying5 W.heap.size 0 1 1 [x] rfl (fun i hi => by
    obtain rfl : i = 0 := by omega
    exact blk_cell (blk_new W _) 0) 9 Try.underlying9

theorem at_eq (s : ByteArray) (i : Int) (h : 0 ≤ i) : Dd.at_ s i = if i < (s.size : Int) then bt s i else 0 := by
  unfold Dd.at_ bt
  by_cases h1 : i < (s.size : Int)
  · have h2 : i.toNat < s.size := by omega
    rw [if_pos h1, if_pos h1, if_pos h, dif_pos h2]
    congr 2
    rw [List.getD_eq_getElem?_getD, List.getElem?_eq_getElem (by simpa using h2), Option.getD_some]
    simp
    rfl
  · rw [if_neg h1, if_neg h1]
theorem at_some (s : ByteArray) (i : Int) (h : 0 ≤ i) : decoder_at.f s i = some (Dd.at_ s i) := by
  rw [at_eq s i h]
  unfold decoder_at.f
  by_cases h1 : i < (s.size : Int)
  · rw [if_pos h1, if_pos h, if_pos h1]
    have := bt_range s i
    congr 1
    unfold wrap64
    omega
  · rw [if_neg h1, if_neg h1]
theorem byteAt_some (s : ByteArray) (i : Int) (h : 0 ≤ i) : descantref1_byteAt.f s i = some (Dd.at_ s i) := by
  rw [at_eq s i h]
  unfold descantref1_byteAt.f
  by_cases h1 : i < (s.size : Int)
  · rw [if_neg (by omega), if_pos h, if_pos h1, if_pos h1]
    have := bt_range s i
    congr 1
    unfold wrap64
    omega
  · rw [if_pos (by omega), if_neg h1]
theorem at_calls (s : ByteArray) (i : Int) (w : World) (h : 0 ≤ i) : Calls Try.prog 23 #[.string s, .int .i64 i] w fun e w' => e = .returned (.int .i64 (Dd.at_ s i)) ∧ ∃ n, w' = w.drewN n :=
  (decoder_at.calls s i _ w (at_some s i h)).mono fun _ _ hh => ⟨hh.1, hh.2.out⟩
theorem byteAt_calls (s : ByteArray) (i : Int) (w : World) (h : 0 ≤ i) : Calls Try.prog 26 #[.string s, .int .i64 i] w fun e w' => e = .returned (.int .i64 (Dd.at_ s i)) ∧ ∃ n, w' = w.drewN n :=
  (descantref1_byteAt.calls s i _ w (byteAt_some s i h)).mono fun _ _ hh => ⟨hh.1, hh.2.out⟩
theorem up_calls (x y : Int) (w : World) : Calls Try.prog 22 #[.int .i64 x, .int .i64 y] w fun e w' => e = .returned (.int .i64 (Go.bits .or .i64 (Go.bits .and .i64 (wrap64 (x * 256)) 4294967295) y)) ∧ w = w' := by
  go_enter Try.func22, Try.ntmps22
  go_wp2
  go_ret
  exact ⟨rfl, rfl⟩
theorem and_up (x : Int) (h0 : 0 ≤ x) (h1 : x ≤ 4294967295) : Go.bits .and .i64 (wrap64 (x * 256)) 4294967295 = x * 256 % 4294967296 := by
  obtain ⟨n, rfl⟩ := Int.eq_ofNat_of_zero_le h0
  have hw : wrap64 ((n : Int) * 256) = ((n * 256 : Nat) : Int) := by unfold wrap64; omega
  have ha := and64 (n * 256) 4294967295 (by omega) (by omega)
  rw [Nat.and_two_pow_sub_one_eq_mod _ 32] at ha
  rw [hw]
  have ha' : Go.bits .and .i64 ((n * 256 : Nat) : Int) 4294967295 = ((n * 256 % 2 ^ 32 : Nat) : Int) := ha
  rw [ha']
  omega
theorem or_up (x y : Int) (h0 : 0 ≤ x) (_ : x ≤ 4294967295) (g0 : 0 ≤ y) (g1 : y ≤ 255) : Go.bits .or .i64 (x * 256 % 4294967296) y = x * 256 % 4294967296 + y := by
  obtain ⟨n, rfl⟩ := Int.eq_ofNat_of_zero_le h0
  obtain ⟨m, rfl⟩ := Int.eq_ofNat_of_zero_le g0
  have he : (n : Int) * 256 % 4294967296 = ((n * 256 % 2 ^ 32 : Nat) : Int) := by omega
  rw [he]
  have ho := or64 (n * 256 % 2 ^ 32) m (by omega) (by omega)
  have hj : n * 256 % 2 ^ 32 ||| m = n * 256 % 2 ^ 32 + m := by
    have h3 := Nat.two_pow_add_eq_or_of_lt (i := 8) (b := m) (by omega) (n * 256 % 2 ^ 32 / 256)
    have h4 : 2 ^ 8 * (n * 256 % 2 ^ 32 / 256) = n * 256 % 2 ^ 32 := by omega
    rw [h4] at h3
    exact h3.symm
  rw [hj] at ho
  rw [ho]
  omega
theorem up_any (x y : Int) (h0 : 0 ≤ x) (h1 : x ≤ 4294967295) (g0 : 0 ≤ y) (g1 : y ≤ 255) : Go.bits .or .i64 (Go.bits .and .i64 (wrap64 (x * 256)) 4294967295) y = x * 256 % 4294967296 + y := by
  rw [and_up x h0 h1, or_up x y h0 h1 g0 g1]
theorem w64_of (x : Int) (h0 : -9223372036854775808 ≤ x) (h1 : x ≤ 9223372036854775807) : wrap64 x = x := by unfold wrap64; omega
theorem up_is (x y z : Int) (w : World) (h0 : 0 ≤ x) (h1 : x ≤ 4294967295) (g0 : 0 ≤ y) (g1 : y ≤ 255) (hz : x * 256 % 4294967296 + y = z) : Calls Try.prog 22 #[.int .i64 x, .int .i64 y] w fun e w' => e = .returned (.int .i64 z) ∧ w = w' := by
  have h := up_calls x y w
  rw [up_any x y h0 h1 g0 g1, hz] at h
  exact h
theorem dmay_some (lo hi now : Int) (t : ByteArray) (a : Int) : decoder_May.f lo hi now t a = some (Dd.may lo hi now t a) := by
  unfold decoder_May.f coder_Ends.f Dd.may
  by_cases h1 : 0 ≤ lo ∧ hi ≤ 4294967295 ∧ lo / 16777216 < hi / 16777216 ∧ lo ≤ now ∧ now ≤ hi ∧ t.size ≤ 65536 ∧ 4 ≤ a ∧ a ≤ 65544
  · rw [decide_eq_true h1]
    obtain ⟨h1, h2, h3, h4, h5, h6, h7, h8⟩ := h1
    have h9 : (t.size : Int) ≤ 65536 := by omega
    simp [h1, h2, h3, h4, h5, h7, h8, h9]
  · rw [decide_eq_false h1]
    by_cases a1 : lo ≥ 0
    · by_cases a2 : hi ≤ 4294967295
      · by_cases a3 : hi / 16777216 > lo / 16777216
        · by_cases a4 : now ≥ lo
          · by_cases a5 : now ≤ hi
            · by_cases a6 : (t.size : Int) ≤ 65536
              · by_cases a7 : a ≥ 4
                · have a8 : ¬ a ≤ 65544 := by omega
                  simp [a1, a2, a3, a4, a5, a6, a7, a8]
                · simp [a1, a2, a3, a4, a5, a6, a7]
              · simp [a1, a2, a3, a4, a5, a6]
            · simp [a1, a2, a3, a4, a5]
          · simp [a1, a2, a3, a4]
        · simp [a1, a2, a3]
      · simp [a1, a2]
    · simp [a1]
theorem rmay_some (lo hi now : Int) (t : ByteArray) (a : Int) : descantref1_DecoderMay.f lo hi now t a = some (Dd.may lo hi now t a) := by
  unfold descantref1_DecoderMay.f descantref1_between.f descantref1_word.f descantref1_upTo.f Dd.may
  by_cases h1 : 0 ≤ lo ∧ hi ≤ 4294967295 ∧ lo / 16777216 < hi / 16777216 ∧ lo ≤ now ∧ now ≤ hi ∧ t.size ≤ 65536 ∧ 4 ≤ a ∧ a ≤ 65544
  · rw [decide_eq_true h1]
    obtain ⟨h1, h2, h3, h4, h5, h6, h7, h8⟩ := h1
    have h9 : (t.size : Int) ≤ 65536 := by omega
    have b5 : lo ≤ 4294967295 := by omega
    have b6 : 0 ≤ hi := by omega
    simp [h1, h2, h3, h4, h5, h7, h8, h9, b5, b6]
  · rw [decide_eq_false h1]
    by_cases a1 : lo ≥ 0
    · by_cases b2 : lo ≤ 4294967295
      · by_cases b3 : hi ≥ 0
        · by_cases a2 : hi ≤ 4294967295
          · by_cases a3 : hi / 16777216 > lo / 16777216
            · by_cases a4 : now ≥ lo
              · by_cases a5 : now ≤ hi
                · by_cases a6 : (t.size : Int) ≤ 65536
                  · by_cases a7 : a ≥ 4
                    · have a8 : ¬ a ≤ 65544 := by omega
                      simp [a1, a2, a3, a4, a5, a6, a7, a8, b2, b3]
                    · simp [a1, a2, a3, a4, a5, a6, a7, b2, b3]
                  · simp [a1, a2, a3, a4, a5, a6, b2, b3]
                · simp [a1, a2, a3, a4, a5, b2, b3]
              · simp [a1, a2, a3, a4, b2, b3]
            · simp [a1, a2, a3, b2, b3]
          · simp [a1, a2, b2, b3]
        · simp [a1, b2, b3]
      · simp [a1, b2]
    · simp [a1]
theorem chance_some (p : Int) : coder_Chance.f p = some (Cd.chance p) := by
  unfold coder_Chance.f Cd.chance
  by_cases h : p ≥ 1
  · rw [if_pos h]; congr 1; rw [decide_eq_decide]; omega
  · rw [if_neg h]; congr 1; symm; rw [decide_eq_false_iff_not]; omega
theorem rchance_some (p : Int) : descantref1_chance.f p = some (Cd.chance p) := by
  unfold descantref1_chance.f descantref1_upTo.f Cd.chance
  by_cases h : p ≥ 1
  · by_cases h2 : p ≤ 4095
    · simp [h, h2]
    · simp [h, h2]
  · simp [h]
theorem middle_same (lo hi p : Int) : descantref1_middle.f lo hi p = coder_Middle.f lo hi p := rfl
theorem middle_some (lo hi p : Int) (h0 : 0 ≤ lo) (h : lo < hi) (h2 : hi ≤ 4294967295) (hp : 1 ≤ p) (hp2 : p ≤ 4095) : coder_Middle.f lo hi p = some (Cd.mid lo hi p) := by
  have hx := Cd.mid_parts h0 h h2 (by omega) hp2
  have hy := Cd.mid_hi h (by omega) hp2
  have hz := Cd.mid_lo (Int.le_of_lt h) (show 0 ≤ p by omega)
  unfold coder_Middle.f
  have w64 : ∀ {x : Int}, -9223372036854775808 ≤ x → x ≤ 9223372036854775807 → wrap64 x = x := by
    intro x a b
    unfold wrap64
    omega
  have e1 : wrap64 (hi - lo) = hi - lo := w64 (by omega) (by omega)
  have e2 : Int.tdiv (hi - lo) 4096 = (hi - lo) / 4096 := Int.tdiv_eq_ediv_of_nonneg (by omega)
  have e3 : Int.tmod (hi - lo) 4096 = (hi - lo) % 4096 := Int.tmod_eq_emod_of_nonneg (by omega)
  have e4 : wrap64 ((hi - lo) / 4096) = (hi - lo) / 4096 := w64 (by omega) (by omega)
  rw [e1, e2, e3, e4]
  clear e1 e2 e3 e4
  unfold Cd.mid at hy hz ⊢
  generalize (hi - lo) / 4096 * p = X at *
  generalize (hi - lo) % 4096 * p = Y at *
  have e5 : Int.tdiv Y 4096 = Y / 4096 := Int.tdiv_eq_ediv_of_nonneg (by omega)
  rw [w64 (x := X) (by omega) (by omega), w64 (x := Y) (by omega) (by omega), e5, w64 (x := lo + X) (by omega) (by omega), w64 (x := Y / 4096) (by omega) (by omega), w64 (by omega) (by omega)]
theorem info23 : (Try.prog.info? 23).map (·.size) = some 5 := by kernel_rfl
def dbox (lo hi now : Int) (t : ByteArray) (a : Int) : Obj := .cells #[.int .i64 lo, .int .i64 hi, .int .i64 now, .string t, .int .i64 a] 23 (0, 0)
def dres (r : Int × Int × Int × ByteArray × Int × Int × Int) : Value := .tuple #[.agg #[.int .i64 r.1, .int .i64 r.2.1, .int .i64 r.2.2.1, .string r.2.2.2.1, .int .i64 r.2.2.2.2.1], .int .i64 r.2.2.2.2.2.1, .int .i64 r.2.2.2.2.2.2]
end Go.Proofs.Ytbhmpmhjklkghaa
